/- Unify (the program's) is the least upper bound. -/
import Derived.Test.YthppjmoncapdfaaGreatDoorClXf
set_option linter.all false
open Go.IntKind (wrap)
open Int (toNat)
open List (length replicate)
namespace Go.Proofs.YthppjmoncapdfaaGreatDoor.cl.pf
open Go Go.AM
def y6 (k:Nat) (l:List bX):List bX:=l.map λa=>⟨a.aS,a.To+k⟩
def ids (s k:Nat):List Int:=(List.range' s k).map λ(x:Nat)=>(x:Int)
def aan (s k:Nat):ids s (k+1)=(s:Int)::ids (s+1) k:=by simp[ids,tS]
def qa (s k:Nat):(ids s k).length=k:=by simp[ids]
def GI (s k j:Nat):ids s k++ids (s+k) j=ids s (k+j):=by unfold ids;rw[<-bJ,List.range'_append_1]
def ED {k x:Nat} (h:x<k):(ids 0 k).getD x 0=(x:Int):=by unfold ids;rw[aX,dB,List.getElem?_range' af];simp
section
variable {TL:List gK} {FL:List c4}
def h442_8 {fr:Nat} {l:List Node} {n v:Int} {q:List bX} {x:Node} {z ty:List Int} {ar:List (List bX)} {res:Unit×List Int×List Int×List (List bX)} (hf:fr<=1000000) (O:q.length<=1000000) (G:∀a∈q,0<=a.To/\a.To<=1000000) (I:ar.length<=100000000):
  ∀(xs:List bX) (i:Nat),q.drop i=xs->JZ fr l n (wrap .i64 (v+1)) TL FL z ty (ar++[y6 fr q])=some res->
   OW fr l n v q (q.length:Int) (i:Int) x (y6 fr (q.take i)) TL FL z ty ar=some res:=by
 intro xs;induction xs with
 |nil=>intro i w D;refine abK ?_;rw[bp w,az,bT _ af ah af,gx (iF w)];exact D
 |cons a xs L=>
  intro i w D;refine abK ?_;have N:=G a (aH (bB w));have K:=c7 w;rw[aZ w,ai,aQ w,bT _ (by unfold y6;rw[aU,fF];omega) ah af,aY w af,ko af af];have e:y6 fr (q.take i)++[⟨a.aS,a.To+fr⟩]=y6 fr (q.take (i+1)):=by rw[cg,bB w];simp[y6]
  rw[e];exact L (i+1) (aG w) D
def h442_2 {fr:Nat} {l:List Node} (hf:fr+l.length<=1000000) (D:∀x∈l,x.bC.length<=1000000/\∀a∈x.bC,0<=a.To/\a.To<=1000000):∀(xs:List Node) (i:Nat) (q ty:List Int) (ar:List (List bX)),l.drop i=xs->q.length<=fr+i->ty.length<=fr+i->ar.length<=fr+i->
  JZ (fr:Int) l (l.length:Int) (i:Int) TL FL q ty ar=some ((),q++ids (fr+i) xs.length,ty++xs.map (·.cO),ar++xs.map λx=>y6 fr x.bC):=by
 intro xs;induction xs with
 |nil=>intro i q ty ar w _ _ _;refine abJ ?_;rw[bp w,az];simp[ids]
 |cons x xs I=>intro i q ty ar w K L N;have z:=D x (aH (bB w));have G:=c7 w;refine abJ ?_;rw[aZ w,ai,aQ w,bT _ af ah af,bT _ af ah af,ko af af];refine h442_8 af z.1 z.2 af x.bC 0 rfl ?_;rw[aY w af,I (i+1) _ _ _ (aG w) aD aD aD,bg,aan];have e:(fr:Int)+(i:Int)=((fr+i:Nat):Int):=af;rw[e];simp[kY]
def Zq {l:List Node} {q ty:List Int} {ar:List (List bX)} {fr:Nat} (z:q.length=fr) (G:ty.length=fr) (D:ar.length=fr) (hf:fr+l.length<=1000000) (w:∀x∈l,x.bC.length<=1000000/\∀a∈x.bC,0<=a.To/\a.To<=1000000):
  f442 l TL FL q ty ar=some ((),q++ids fr l.length,ty++l.map (·.cO),ar++l.map λx=>y6 fr x.bC):=by
 refine e442 ?_;rw[z];exact h442_2 hf w l 0 q ty ar rfl af af af
end
def JI.init {T n:Nat} {Q:List bX->Prop} {sb:Int->Int->Prop} {U:Gr} {w ty:List Int} {ar:List (List bX)} (K:∀{a},0<=a->a<(T:Int)->sb a a) (q:w=ids 0 n) (N:ty.length=n) (L:ar.length=n) (z:∀x,x<n->0<=ty.getD x 0/\ty.getD x 0<(T:Int)) (ao:∀x,x<n->Q (ar.getD x []))
  (G:∀x,x<n->U.sc x=(ar.getD x []).map λa=>(a.aS,a.To.toNat)) (I:∀x,x<n->U.ty x=ty.getD x 0):JI T Q sb U n [] [] w ty ar id (λ_=>0):=by
 subst q;refine⟨⟨qa _ _,λx l=>⟨x,l,ED l,rfl, .inl rfl⟩,λx l=>by rw[ED l];simp,λx l=>l,λx _=>rfl⟩,N,L,z,ao,(λp q=>by cases q),λx l=> ?_,λx l p q=> ?_,(λp q=>by cases q),λC m O D=>⟨λx _=>rfl,λx l _=>⟨?_,λa h=> ?_⟩,(λp q=>by cases q)⟩⟩
 .rw[I x l];exact K (z x l).1 (z x l).2
 .rw[G x l] at q;obtain⟨a,h,rfl⟩:=aC.1 q;exact⟨a,h,rfl, .wv rfl⟩
 .rw[<-I x l];exact D.ty x l
 .exact D.ar x l (a.aS,a.To.toNat) (by rw[G x l];exact aC.2 ⟨a,h,rfl⟩)
def Can.ao {T F:Nat} {f:FSt} (h:Can T F f) {x:Node} (G:x∈f.aj):AO F (f.aj.length) x.bC:=by
 obtain⟨i,z⟩:=gC.1 G;have l:i<f.aj.length:=(bD.1 z).1;have q:f.aj[i]=x:=(bD.1 z).2;have e:iW f i=Su x:=by rw[qq l,q]
 refine⟨?_,λa w=> ?_⟩
 .have:=h.x8 i;rw[e] at this;unfold y7 Su at this;rw[gT] at this;exact this
 .have D:(a.aS,a.To.toNat)∈iW f i:=by rw[e];exact aC.2 ⟨a,w,rfl⟩
  have I:=h.go.ft i l _ D;have K:=h.bd i l _ D;have L:=h.nn G w;exact⟨I,L,by simp only at K;omega⟩
def Can.Pn {T F:Nat} {f:FSt} (h:Can T F f) {x:Node} (z:x∈f.aj):0<=x.cO/\x.cO<(T:Int):=by
 obtain⟨i,w⟩:=gC.1 z;have l:i<f.aj.length:=(bD.1 w).1;have q:f.aj[i]=x:=(bD.1 w).2;have:=h.go.tp i l;have e:(mI f).ty i=x.cO:=by show nw f i=_;rw[ou l,q]
 rwa[e] at this
def AO.sh {F n k N:Nat} {l:List bX} (h:AO F n l) (z:n+k<=N):AO F N (y6 k l):=by
 refine⟨?_,λa q=> ?_⟩
 .unfold yX y6;rw[gT];exact h.x8
 .obtain⟨b,w,rfl⟩:=aC.1 q;have:=h.ok b w;exact⟨this.1,by show 0<=b.To+(k:Int);omega,by show b.To+(k:Int)<(N:Int);omega⟩
def RU {F n k:Nat} {l:List bX} (h:AO F n l):((y6 k l).map λa=>(a.aS,a.To.toNat))=(l.map λa=>(a.aS,a.To.toNat)).map λp=>(p.1,p.2+k):=by
 unfold y6;rw[eS,eS];refine gR λa q=> ?_
 have:=(h.ok a q).2;show(a.aS,(a.To+(k:Int)).toNat)=(a.aS,a.To.toNat+k)
 congr 1;omega
def lz {q w:Type} {l:List q} {g:q->w} {i:Nat} {d:w} (h:i<l.length):(l.map g).getD i d=g l[i]:=by rw[aX,dB,aK h];rfl
def BX {q:Type} {l m:List q} {i:Nat} {d:q} (h:i<l.length):(l++m).getD i d=l.getD i d:=by rw[aX,aX,dA h]
def BY {q:Type} {l m:List q} {i:Nat} {d:q} (h:l.length<=i):(l++m).getD i d=m.getD (i-l.length) d:=by rw[aX,aX,fW h]
def Can.small {T F:Nat} {f:FSt} (h:Can T F f) (hn:f.aj.length<=1000000) (hF:F<=1000000):∀x∈f.aj,x.bC.length<=1000000/\∀a∈x.bC,0<=a.To/\a.To<=1000000:=λx q=>by have:=h.ao q;exact⟨dz this.len hF,λa l=>by have:=(this.ok a l).2;omega⟩
section
variable {h:bQ} {T F:Nat} {sb:Int->Int->Prop} (H:HM h T sb) {A B:FSt} (hA:Can T F A) (hB:Can T F B) (hF:F<=400) (hn:A.aj.length+B.aj.length<=1000000)
include H hA hB hF hn
theorem Xo:JI T (AO F (A.aj.length+B.aj.length)) sb (q7 A B) (A.aj.length+B.aj.length) [] [] (ids 0 (A.aj.length)++ids (A.aj.length) (B.aj.length)) (A.aj.map (·.cO)++B.aj.map (·.cO)) ((A.aj.map λx=>y6 0 x.bC)++B.aj.map λx=>y6 (A.aj.length) x.bC) id (λ_=>0):=by
 have I:ids 0 (A.aj.length)++ids (A.aj.length) (B.aj.length)=ids 0 (A.aj.length+B.aj.length):=by have:=GI 0 (A.aj.length) (B.aj.length);rwa[gv] at this
 have D:∀x,(q:x<A.aj.length)->((A.aj.map λx=>y6 0 x.bC)++B.aj.map λx=>y6 (A.aj.length) x.bC).getD x []=y6 0 A.aj[x].bC:=λx q=>by rw[BX (by simpa using q),lz q]
 have G:∀x,(q:x<A.aj.length+B.aj.length)->(l:¬x<A.aj.length)->((A.aj.map λx=>y6 0 x.bC)++B.aj.map λx=>y6 (A.aj.length) x.bC).getD x []=y6 (A.aj.length) (B.aj[x-A.aj.length]'(by omega)).bC:=λx q l=>by
  rw[BY aD]
  have:x-(A.aj.map λx=>y6 0 x.bC).length=x-A.aj.length:=ah
  rw[this,lz af]
 have w:∀x,(q:x<A.aj.length)->(A.aj.map (·.cO)++B.aj.map (·.cO)).getD x 0=A.aj[x].cO:=λx q=>by rw[BX (by simpa using q),lz q]
 have z:∀x,(q:x<A.aj.length+B.aj.length)->(l:¬x<A.aj.length)->(A.aj.map (·.cO)++B.aj.map (·.cO)).getD x 0=(B.aj[x-A.aj.length]'(by omega)).cO:=λx q l=>by
  rw[BY aD]
  have:x-(A.aj.map (·.cO)).length=x-A.aj.length:=ah
  rw[this,lz af]
 refine JI.init H.to.refl I ah ah (λx q=> ?_) (λx q=> ?_) (λx q=> ?_) (λx q=> ?_)<;>by_cases l:x<A.aj.length
 .rw[w x l];exact hA.Pn (bq l)
 .rw[z x q l];exact hB.Pn (bq _)
 .rw[D x l];exact(hA.ao (bq l)).sh af
 .rw[G x q l];exact(hB.ao (bq _)).sh af
 .rw[D x l,RU (hA.ao (bq l)),(zC l).1,qq l];exact(jT _).symm
 .rw[G x q l,RU (hB.ao (bq _)),(zD l).1,qq af];rfl
 .rw[w x l,(zC l).2,ou l]
 .rw[z x q l,(zD l).2,ou af]
theorem c433:(∃f,f433 h A B=some (f,true)/\Lub T F sb A B f)\/(f433 h A B=some (⟨[]⟩,false)/\∀C,Can T F C->Le sb A C->Le sb B C->False):=by
 have G:f442 A.aj h.Types h.cD [] [] []=some ((),ids 0 (A.aj.length),A.aj.map (·.cO),A.aj.map λx=>y6 0 x.bC):=by rw[Zq (fr:=0) rfl rfl rfl af (hA.small af af)];simp
 have I:f442 B.aj h.Types h.cD (ids 0 (A.aj.length)) (A.aj.map (·.cO)) (A.aj.map λx=>y6 0 x.bC)=some ((),ids 0 (A.aj.length)++ids (A.aj.length) (B.aj.length),A.aj.map (·.cO)++B.aj.map (·.cO),(A.aj.map λx=>y6 0 x.bC)++B.aj.map λx=>y6 (A.aj.length) x.bC):=
  Zq (fr:=A.aj.length) (qa _ _) ah ah hn (hB.small af af)
 have q:(A.aj.length+B.aj.length) *F<=400000000:=by have:=tZ hn hF;omega
 have K:0<A.aj.length+B.aj.length:=by have:=hA.ne;omega
 have l:A.aj.length<A.aj.length+B.aj.length:=by have:=hB.ne;omega
 rcases c443 H af K l q (Xo H hA hB hF hn) with⟨D,ty,ar,rep,d,z,J⟩|⟨⟨D,ty,ar,z⟩,w⟩
 .obtain⟨N,g⟩:=c444 (TL:=h.Types) (FL:=h.cD) (d:=d) J.la J.lt J.ao J.pi.rl J.pi.rr af hn K J.pi;refine .inl ⟨_,e433 ?_,PC H.to hA hB (J.uni (both_go hA hB).bd)⟩;rw[G,gy,I,gy];have e:(0:Int)=((0:Nat):Int):=rfl;rw[e,z,gy,cond_neg (by rfl),g,gy]
 .refine .inr ⟨e433 ?_,λC L O P=> ?_⟩
  .rw[G,gy,I,gy];have e:(0:Int)=((0:Nat):Int):=rfl;rw[e,z,gy,cond_pos (by rfl)]
  .obtain⟨m,_,Q⟩:=HG hA hB L O P;exact w (mI C) m L.Kt Q
end
end Go.Proofs.YthppjmoncapdfaaGreatDoor.cl.pf
namespace Go.Proofs.YthppjmoncapdfaaGreatDoor.cl.pf
open Go Go.AM
def r7 (x:bX):List bX->List bX
 |[]=>[x]
 |y::l=>if y.aS<=x.aS then y::r7 x l else x::y::l
def Gc (l:List bX):List bX:=l.foldl (λo x=>r7 x o) []
def L3 (l:List bX):Prop:=l.Pairwise λa b=>a.aS<=b.aS
def Iv {x a:bX}:∀{l:List bX},a∈r7 x l↔a=x\/a∈l
 |[]=>by simp[r7]
 |y::l=>by
  unfold r7;split
  .rw[aF,Iv,aF];constructor
   .rintro (h|h|h)
    .exact .inr (.inl h)
    .exact .inl h
    .exact .inr (.inr h)
   .rintro (h|h|h)
    .exact .inr (.inl h)
    .exact .inl h
    .exact .inr (.inr h)
  .simp
def Iu {x:bX}:∀{l:List bX},(r7 x l).length=l.length+1
 |[]=>rfl
 |y::l=>by unfold r7;split<;>simp[Iu]
def Iw {x:bX}:∀{l:List bX},L3 l->L3 (r7 x l)
 |[],_=>CW _ _
 |y::l,h=>by
  have w:=dr.1 h;unfold r7;split
  .rename_i z;refine dr.2 ⟨λa q=> ?_,Iw w.2⟩;rcases Iv.1 q with rfl|q
   .exact z
   .exact w.1 a q
  .rename_i D;refine dr.2 ⟨λa q=> ?_,h⟩;rcases aF.1 q with rfl|q
   .omega
   .have:=w.1 a q;omega
def Ir {x:bX} {w:List bX} (q:∀a∈w,x.aS<a.aS):∀{u:List bX},(∀a∈u,a.aS<=x.aS)->r7 x (u++w)=u++[x]++w
 |[],_=>by cases w with
  |nil=>rfl
  |cons y w=>show r7 x (y::w)=_;unfold r7;rw[aq (by have:=q y (by simp);omega)];rfl
 |y::u,l=>by show r7 x (y::(u++w))=_;unfold r7;rw[au (l y ah),Ir q λa z=>l a (by simp[z])];rfl
def qf:∀(l:List bX),L3 (Gc l)/\(Gc l).length=l.length/\∀a,a∈Gc l↔a∈l:=by
 intro l;unfold Gc;have key:∀(l o:List bX),L3 o->L3 (l.foldl (λo x=>r7 x o) o)/\(l.foldl (λo x=>r7 x o) o).length=o.length+l.length/\∀a,a∈l.foldl (λo x=>r7 x o) o↔a∈o\/a∈l:=by intro l;induction l with
  |nil=>intro o h;exact⟨h,rfl,λa=>by simp⟩
  |cons x l D=>
   intro o h;obtain⟨q,w,z⟩:=D (r7 x o) (Iw h);refine⟨q,by rw[fB,w,Iu,bg];omega,λa=> ?_⟩;rw[fB,z a,Iv,aF];constructor
   .rintro ((h|h)|h)
    .exact .inr (.inl h)
    .exact .inl h
    .exact .inr (.inr h)
   .rintro (h|h|h)
    .exact .inl (.inr h)
    .exact .inl (.inl h)
    .exact .inr h
 have:=key l [] List.Pairwise.nil;exact⟨this.1,by simpa using this.2.1,λa=>by simpa using this.2.2 a⟩
def srt_id {l:List bX} (h:yX l):Gc l=l:=by
 have key:∀(l o:List bX),yX (o++l)->l.foldl (λo x=>r7 x o) o=o++l:=by intro l;induction l with
  |nil=>intro o _;simp
  |cons x l w=>
   intro o h;have e:r7 x o=o++[x]:=by
    have:=Ir (x:=x) (w:=[]) (λa q=>by cases q) (u:=o) (λa q=>by
     unfold yX at h;rw[oB] at h
     have:=h.2.2 a q x (by simp);omega)
    simpa using this
   rw[fB,e,w (o++[x]) (by simpa using h)];simp
 exact key l [] (by simpa using h)
def NT {l:List bX} (h:(l.map (·.aS)).Nodup):yX (Gc l):=by
 obtain⟨D,_,I⟩:=qf l;have w:((Gc l).map (·.aS)).Nodup:=by
  unfold Gc;have key:∀(l o:List bX),((o++l).map (·.aS)).Nodup->((l.foldl (λo x=>r7 x o) o).map (·.aS)).Nodup:=by intro l;induction l with
   |nil=>intro o h;simpa using h
   |cons x l G=>
    intro o h;rw[fB];refine G _ ?_;have q:∀o:List bX,((r7 x o).map (·.aS)).Perm ((o++[x]).map (·.aS)):=by intro o;induction o with
     |nil=>exact List.Perm.refl _
     |cons y o z=>
      unfold r7;split
      .simp only[aR,e7];exact List.Perm.cons _ z
      .simp only[aR,e7]
       have:((y::o)++[x]).map (λa:bX=>a.aS)=(y::o).map (λa:bX=>a.aS)++[x.aS]:=ah
       simp only[aR,e7] at this;rw[this];exact(List.perm_append_singleton x.aS (y.aS::o.map λa=>a.aS)).symm
    have:((o++x::l).map (·.aS))=(o++[x]).map (·.aS)++l.map (·.aS):=ah
    rw[this] at h;rw[bJ];exact((q o).append_right _).nodup_iff.2 h
  exact key l [] (by simpa using h)
 unfold yX;unfold L3 at D;unfold List.Nodup at w;rw[gT] at w;exact(D.and w).imp λ{a b} h=>by have:=h.1;have:=h.2;omega
def h463_6 {l:List bX} {i:Nat} {x:bX} {res:List bX} (O:l[i]? =some x) (V:l.length<=1000000) {o:List bX} (ho:o.length<=1000000) (P:L3 o)
  (R:yF l ((i+1:Nat):Int) (r7 x o)=some res):∀(v:Nat),v<=o.length->(∀a∈o.drop v,x.aS<a.aS)->Hf l (i:Int) (v:Int) o=some res:=by
 have U:i<l.length:=(bD.1 O).1;have fin:∀(v:Nat),v<=o.length->(∀a∈o.drop v,x.aS<a.aS)->(∀a∈o.take v,a.aS<=x.aS)->
   check (0<=(v:Int)/\(v:Int)<=((o.length:Nat):Int)) (
   check ((length ([]:List bX)+length ((o.take (toNat (v:Int))).drop 0)) *16<=140737488355328/\length ([]:List bX)+length ((o.take (toNat (v:Int))).drop 0)<=4611686018427387904) (
   aV l (i:Int) λq=>
   check ((length (([]:List bX)++((o.take (toNat (v:Int))).drop 0))+length [q]) *16<=140737488355328/\length (([]:List bX)++((o.take (toNat (v:Int))).drop 0))+length [q]<=4611686018427387904) (
   check (0<=(v:Int)/\(v:Int)<=((o.length:Nat):Int)) (
   check ((length ((([]:List bX)++((o.take (toNat (v:Int))).drop 0))++[q])+length ((o.take (length o)).drop (toNat (v:Int)))) *16<=140737488355328/\length ((([]:List bX)++((o.take (toNat (v:Int))).drop 0))++[q])+length ((o.take (length o)).drop (toNat (v:Int)))<=4611686018427387904) (
   yF l (wrap .i64 ((i:Int)+1)) (((([]:List bX)++((o.take (toNat (v:Int))).drop 0))++[q])++((o.take (length o)).drop (toNat (v:Int)))))))))=some res:=by
  intro v K D Q;have e:(o.take v++[x])++o.drop v=r7 x o:=by have:=Ir (x:=x) D Q;rw[jl] at this;exact this.symm
  rw[bh ⟨af,af⟩,aP,tX,bT _ ah (by rw[fF];omega) af,ew O,dw,bT _ (by rw[fF];omega) ah af,bh ⟨af,af⟩,fJ,bT _ aD aD af,e,bl af];exact R
 intro v;induction v with
 |zero=>intro K D;refine Wl ?_;rw[cond_neg (by rfl)];exact fin 0 K D (λa w=>by cases w)
 |succ v S=>
  intro K D;refine Wl ?_;have z:v<o.length:=K;rw[cond_pos (by rw[bF];omega),xq af,uK z,aP,Dw z,ew O];by_cases L:x.aS<o[v].aS
  .rw[cond_pos (by rw[bF];exact L)];refine S af λa w=> ?_
   rw[kV z] at w;rcases aF.1 w with rfl|w
   .exact L
   .exact D a w
  .rw[cond_neg (by rw[bM];exact L)];refine fin (v+1) K D λa w=> ?_
   rw[cg,aK z] at w;unfold L3 at P;rcases bu.1 w with w|w
   .obtain⟨j,G⟩:=gC.1 w;rw[qu] at G;split at G
    .rename_i N;have I:j<o.length:=af;rw[aK I] at G;cases G;have:=mW.1 P j v I z N;omega
    .cases G
   .simp at w;subst w;omega
def h463 {l:List bX} (D:l.length<=1000000):∀(xs:List bX) (i:Nat) (o:List bX),l.drop i=xs->L3 o->o.length<=i->yF l (i:Int) o=some (xs.foldl (λo x=>r7 x o) o):=by intro xs;induction xs with
 |nil=>intro i o q _ _;refine Wk ?_;rw[bp q,az];rfl
 |cons x xs I=>intro i o q z K;have G:=c7 q;refine Wk ?_;rw[aZ q,ai];refine h463_6 (bB q) D af z ?_ o.length (aT _) (λa w=>by rw[List.drop_length] at w;cases w);exact I (i+1) (r7 x o) (aG q) (Iw z) (by rw[Iu];omega)
def c463 {l:List bX} (q:l.length<=1000000):f463 l=some (Gc l):=e463 (h463 q l 0 [] rfl List.Pairwise.nil (aT _))
def Cp (f:FSt) (n:Nat):List (Int×Nat):=match f.aj[n]? with
 |some x=>(Gc x.bC).map λa=>(a.aS,a.To.toNat)
 |none=>[]
def CA (f:FSt):Gr:=⟨Cp f,nw f⟩
def LW (f:FSt):Prop:=∀x∈f.aj,x.bC.length<=1000000/\∀a∈x.bC,0<=a.To/\a.To<(f.aj.length:Int)
def Am {f:FSt} {n:Nat} (h:n<f.aj.length):Cp f n=(Gc f.aj[n].bC).map λa=>(a.aS,a.To.toNat):=by unfold Cp;rw[aK h]
def NS {f:FSt} (h:LW f):Bd (CA f).sc f.aj.length:=λn hn p l=>by have l:p∈Cp f n:=l;rw[Am hn] at l;obtain⟨a,q,rfl⟩:=aC.1 l;have:=(h _ (bq hn)).2 a ((qf _).2.2 a|>.1 q);show a.To.toNat<_;omega
def iA (o:List Nat):List Int:=o.map λ(x:Nat)=>(x:Int)
section
variable {f:FSt} (hf:LW f) (hn:f.aj.length<=1000000)
include hf hn
theorem h455_4 {k:Nat} (ih:∀(x:Nat) (o:List Nat) (num:List Int),x<f.aj.length->x∉o->NO f.aj.length num o->Met f.aj.length o->f.aj.length<k+o.length->
   ∃l,f455 (x:Int) f.aj num (iA o)=some ((),l,iA (nV (Cp f) k x o))/\NO f.aj.length l (nV (Cp f) k x o)) {as_:List bX} (has:as_.length<=1000000) (Q:∀a∈as_,0<=a.To/\a.To<(f.aj.length:Int)):
  ∀(xs:List bX) (i:Nat) (o:List Nat) (num:List Int),as_.drop i=xs->NO f.aj.length num o->Met f.aj.length o->f.aj.length<k+o.length->
   ∃l,J8 as_ (i:Int) f.aj num (iA o)=some ((),l,iA (rN (Cp f) k (xs.map λa=>(a.aS,a.To.toNat)) o))/\NO f.aj.length l (rN (Cp f) k (xs.map λa=>(a.aS,a.To.toNat)) o):=by
 intro xs;induction xs with
 |nil=>intro i o num q z _ _;refine⟨num,T0 ?_,z⟩;rw[bp q,az];rfl
 |cons a xs G=>
  intro i o num q z O U;have ha:=Q a (aH (bB q));obtain⟨x,R⟩:=eL ha.1;have w:x<f.aj.length:=af;have S:a.To.toNat=x:=af;have hlt:=c7 q;have D:x<num.length:=by rw[z.len];exact w
  simp only[aR,rN,fB,S];by_cases K:x∈o
  .have ev:nV (Cp f) k x o=o:=by
    cases k with
    |zero=>rfl
    |succ k=>rw[nV,au K]
   rw[ev];obtain⟨l,L,N⟩:=G (i+1) o num (aG q) z O U;refine⟨l,T0 ?_,N⟩;rw[aZ q,ai,aQ q,R,qF D,z.at_ x w,au K,cond_neg (by rw[bM];omega),aY q af];exact L
  .obtain⟨I,f1,N1⟩:=ih x o num w K z O U;have P:=yI (NS hf) k x o O w;have V:=Hh (sc:=Cp f) k x o;obtain⟨l,L,N⟩:=G (i+1) _ I (aG q) N1 P af;refine⟨l,T0 ?_,N⟩;rw[aZ q,ai,aQ q,R,qF D,z.at_ x w,aq K,cond_pos (by rfl),aQ q,R,f1,jK,aY q af];exact L
theorem h455:∀(k x:Nat) (o:List Nat) (num:List Int),x<f.aj.length->x∉o->NO f.aj.length num o->Met f.aj.length o->f.aj.length<k+o.length->
  ∃l,f455 (x:Int) f.aj num (iA o)=some ((),l,iA (nV (Cp f) k x o))/\NO f.aj.length l (nV (Cp f) k x o):=by
 intro k;induction k with
 |zero=>intro x o num _ _ _ w R;have:=vI w.nd w.lt;omega
 |succ k U=>
  intro x o num z q K w R;have G:x<num.length:=by rw[K.len];exact z
  have S:=vI w.nd w.lt;obtain⟨D,I⟩:=hf _ (bq z);obtain⟨s1,s2,V⟩:=qf f.aj[x].bC;obtain⟨l,O,P⟩:=h455_4 hf hn U (as_:=Gc f.aj[x].bC) (by rw[s2];exact D) (λa Q=>I a ((V a).1 Q)) (Gc f.aj[x].bC) 0 (o++[x]) (num.set x (o.length:Int)) rfl (K.snoc z q) (w.snoc z q) (by simp only[cR,jX];omega);have N:nV (Cp f) (k+1) x o=rN (Cp f) k ((Gc f.aj[x].bC).map λa=>(a.aS,a.To.toNat)) (o++[x]):=by rw[nV,aq q,Am z]
  rw[N];refine⟨l,e455 ?_,P⟩;rw[qF G,bT _ (by unfold iA;rw[aU];omega) ah af,bR z,c463 D,ak,aP];have e:iA o++[(x:Int)]=iA (o++[x]):=by simp[iA]
  have L:((iA o).length:Int)=(o.length:Int):=by simp[iA]
  rw[e,L];exact O
theorem h436_14 {i:Nat} {P Q:FSt} {x:Node} {nd w l:List Node} {num q:List Int} {o:List Nat} (L:NO f.aj.length num o) (h52:w.length<=1000000) {res:FSt}:∀(xs done:List bX),done.length+xs.length<=1000000->(∀a∈xs,0<=a.To/\a.To<(f.aj.length:Int)/\a.To.toNat∈o)->
  E5 (wrap .i64 ((i:Int)+1)) P Q nd (w++[⟨x.cO,done++xs.map λa=>⟨a.aS,(o.idxOf a.To.toNat:Nat)⟩⟩]) l num q=some res->
  Ec (i:Int) (done.length:Int) P Q x nd (done++xs) w l num q=some res:=by
 intro xs;induction xs with
 |nil=>intro done O _ z;refine QN ?_;rw[cond_neg (by rw[bM];simp),bT _ af ah af,eW];rw[dQ,eW] at z;exact z
 |cons a xs ih=>
  intro done O D z;simp only[bg] at O;obtain⟨S,h2,K⟩:=D a ah;obtain⟨y,V⟩:=eL S;have G:y<f.aj.length:=af;have I:a.To.toNat=y:=af;rw[I] at K;have N:∀{R:Type} (k:bX->Option R),dY (done++a::xs) done.length k=k a:=λk=>gE ah k
  refine QN ?_;rw[cond_pos (by rw[bF];simp;omega),uK ah,aP,N,V,qF (by rw[L.len];exact G),L.at_ y G,au K,bh ⟨af,ah⟩,N,bl af,mN _ _ (aT _),mR,qX]
  have:=ih (done++[⟨a.aS,(o.idxOf y:Nat)⟩]) aD (λb U=>D b (by simp[U])) (by
   rw[aR,I] at z
   rw[eO];exact z)
  rw[cR,jX,eO] at this;exact this
theorem h436_9 {o4:FSt} {nd jR:List Node} {num:List Int} {o:List Nat} (R:NO f.aj.length num o) (G:Met f.aj.length o) (K:∀y∈o,∀p∈Cp f y,p.2∈o):
  ∀(xs:List Nat) (i:Nat) (l:List Node),o.drop i=xs->l.length<=i->E5 (i:Int) f o4 nd l jR num (iA o)=some ⟨l++xs.map (Nh (CA f) o)⟩:=by
 have U:=vI G.nd G.lt;intro xs;induction xs with
 |nil=>intro i l q _;refine abF ?_;have S:=iF q;rw[cond_neg (by rw[bM];simp[iA];omega)];simp
 |cons y xs V=>
  intro i l q h52;have w:=c7 q;have D:y∈o:=aH (bB q);have z:=G.lt y D;obtain⟨I,O⟩:=hf _ (bq z);obtain⟨s1,s2,s3⟩:=qf f.aj[y].bC;have N:i<(iA o).length:=by simp[iA];exact w
  have L:(iA o).getD i 0=(y:Int):=by unfold iA;rw[lz w];have:=bB q;rw[aK w] at this;rw[c9 this]
  refine abF ?_;rw[cond_pos (by rw[bF];omega),qF N,L,bR z,c463 I,ak];have e0:((([]:List bX).length:Nat):Int)=0:=rfl;refine h436_14 hf hn R af (Gc f.aj[y].bC) [] aD (λa Q=> ?_) ?_
  .have P:=O a ((s3 a).1 Q);refine⟨P.1,P.2,K y D (a.aS,a.To.toNat) ?_⟩;rw[Am z];exact aC.2 ⟨a,Q,rfl⟩
  .rw[aY q af,V (i+1) _ (aG q) aD];have e:Nh (CA f) o y=⟨f.aj[y].cO,[]++(Gc f.aj[y].bC).map λa=>⟨a.aS,(o.idxOf a.To.toNat:Nat)⟩⟩:=by
    show(⟨nw f y,(Cp f y).map _⟩:Node)=_;rw[ou z,Am z,eS];rfl
   rw[aR,e,eO];rfl
theorem h436_3 {root:Nat} {o4:FSt} {nd jR:List Node} {res:FSt} (D:(Bh (f455 (root:Int) nd (replicate f.aj.length (-1)) []) λw l q=>E5 0 f o4 nd ([]:List Node) jR l q)=some res):
  ∀(k i:Nat),f.aj.length=i+k->OT (root:Int) (i:Int) f o4 nd jR (replicate i (-1)) []=some res:=by
 intro k;induction k with
 |zero=>intro i z;refine abE ?_;have e:i=f.aj.length:=af;subst e;rw[cond_neg (by rw[bM];omega)];exact D
 |succ k G=>intro i z;refine abE ?_;rw[cond_pos (by rw[bF];omega),bT _ aD ah af,bl af,<-mX];exact G (i+1) af
theorem c436 {root:Nat} (l:root<f.aj.length):f436 f (root:Int)=some (lK (CA f) f.aj.length root):=by
 have z:NO f.aj.length (replicate f.aj.length (-1)) []:=⟨ah,λx G=>by rw[aq ah,aX,jm,au G];rfl⟩
 obtain⟨q,f1,w⟩:=h455 hf hn (f.aj.length+1) root [] _ l ah z Met.nil ah;have hB:=NS hf;refine e436 ?_;refine h436_3 hf hn ?_ f.aj.length 0 af
 have:iA ([]:List Nat)=[]:=rfl
 rw[this] at f1;rw[f1,jK];have g:=h436_9 hf hn (o4:=⟨[]⟩) (nd:=f.aj) (jR:=[]) w (uo (G:=CA f) hB l) (λy I p D=>zX (G:=CA f) hB l I D) _ 0 [] rfl (aT _);exact g
end
end Go.Proofs.YthppjmoncapdfaaGreatDoor.cl.pf
namespace Go.Proofs.YthppjmoncapdfaaGreatDoor.cl.pf
open Go Go.AM
def Jw (k:Nat) (x:Node):Node:=⟨x.cO,y6 k x.bC⟩
def h448_7 {a b:List Node} {i:Nat} {x:Node} (q:b[i]? =some x) {t:Int} {o:List Node} {G:List bX} (I:a.length<=1000000) (N:o.length<=100000000) (L:x.bC.length<=1000000) (w:∀c∈x.bC,0<=c.To/\c.To<=1000000) {res:List Node}:
  ∀(xs:List bX) (k:Nat),x.bC.drop k=xs->J1 a b (wrap .i64 ((i:Int)+1)) (o++[⟨t,y6 a.length x.bC⟩])=some res->
   OZ a b (i:Int) (k:Int) t o G (y6 a.length (x.bC.take k))=some res:=by
 intro xs;induction xs with
 |nil=>intro k l z;refine abN ?_;rw[ew q,bp l,az,bT _ af ah af,gx (iF l)];omega
 |cons c xs D=>
  intro k l z;refine abN ?_;have K:=w c (aH (bB l));rw[ew q,aZ l,ai,ew q,aQ l,ew q,aQ l,bT _ (by grind[y6]) ah af,aY l af,ko af af];have e:y6 a.length (x.bC.take k)++[⟨c.aS,c.To+(a.length)⟩]=y6 a.length (x.bC.take (k+1)):=by rw[cg,bB l];simp[y6]
  rw[e];exact D _ (aG l) z
def h448 {a b:List Node} (hn:a.length+b.length<=1000000) (w:∀x∈b,x.bC.length<=1000000/\∀c∈x.bC,0<=c.To/\c.To<=1000000):∀(xs:List Node) (i:Nat) (o:List Node),b.drop i=xs->o.length<=a.length+i->J1 a b (i:Int) o=some (o++xs.map (Jw a.length)):=by intro xs;induction xs with
 |nil=>intro i o l _;refine abM ?_;grind
 |cons x xs D=>intro i o l G;have q:=w x (aH (bB l));have z:=c7 l;refine abM ?_;rw[aZ l,ai,aQ l];refine h448_7 (bB l) af af q.1 q.2 _ 0 rfl ?_;rw[aY l af,D _ _ (aG l) aD];simp[Jw]
def c448 {a b:List Node} (hn:a.length+b.length<=1000000) (l:∀x∈b,x.bC.length<=1000000/\∀c∈x.bC,0<=c.To/\c.To<=1000000):f448 a b=some (a++b.map (Jw a.length)):=by refine e448 ?_;rw[bT _ ah af af];exact h448 hn l b 0 a rfl af
def c449 {n:Nat} (hn:n<=1000000):f449 (n:Int)=some (ids 0 n):=by
 have key:∀(k i),n=i+k->O0 (n) (i) (ids 0 i)=some (ids 0 n):=by intro k;induction k with
  |zero=>simp_all[abO]
  |succ k q=>
   intro i l;refine abO ?_;have e:ids 0 i++[(i:Int)]=ids 0 (i+1):=by have:=GI 0 i 1;rw[gv] at this;rw[<-this];rfl
   rw[bT _ (by rw[qa];omega) ah af,bl af];grind
 exact e449 (key n 0 af)
def NN (low high:Int) (l:List Int):List Int:=l.map λx=>if x=high then low else x
def h450 {low high:Int}:∀(xs done:List Int),done.length+xs.length<=1000000->J4 low high (done.length:Int) (done++xs)=some (done++NN low high xs):=by intro xs;induction xs with
 |nil=>intro done _;refine abP ?_;rw[cond_neg ah];rfl
 |cons x xs z=>
  intro done q;refine abP ?_;have l:∀{R:Type} (k:Int->Option R),dY (done++x::xs) done.length k=k x:=λk=>gE ah k
  have w:done++NN low high (x::xs)=(done++[if x=high then low else x])++NN low high xs:=by simp[NN]
  rw[cond_pos (by grind),uK ah,aP,bl af];by_cases e:x=high
  .rw[bh ⟨af,ah⟩];grind
  grind
structure AW (F n:Nat) (l:List bX):Prop where
 nd:(l.map (·.aS)).Nodup
 ok:∀a∈l,(0<=a.aS/\a.aS<(F:Int))/\0<=a.To/\a.To<(n:Int)
def yX.nd {l:List bX} (h:yX l):(l.map (·.aS)).Nodup:=by unfold List.Nodup;rw[gT];exact h.imp λh=>by omega
def AO.aw {F n:Nat} {l:List bX} (h:AO F n l):AW F n l:=⟨h.x8.nd,h.ok⟩
def AW.Gc {F n:Nat} {l:List bX} (h:AW F n l):AO F n (Gc l):=⟨NT h.nd,λa q=>h.ok a ((qf l).2.2 a|>.1 q)⟩
def AW.len {F n:Nat} {l:List bX} (h:AW F n l):l.length<=F:=by have:=h.Gc.len;rwa[(qf l).2.1] at this
def nd_uniq {l:List bX} (h:(l.map (·.aS)).Nodup) {a b:bX} (q:a∈l) (w:b∈l) (e:a.aS=b.aS):a=b:=by induction l with
 |nil=>cases q
 |cons x l z=>grind
def fa (l:List bX) (f:Int):Option bX:=l.find? λa=>a.aS==f
def AL {l:List bX} {f:Int} {a:bX} (h:fa l f=some a):a∈l/\a.aS=f:=by have q:=oF h;have w:=oG h;simp_all
def Mr {l:List bX} {f:Int} (h:fa l f=none):∀a∈l,a.aS≠f:=λa q e=>by have:=tQ.1 h a q;simp_all
def fr (l:List bX) (f:Int):Int×Bool:=match fa l f with
 |some a=>(a.To,true)
 |none=>(0,false)
def VC (x:bX) (l:List bX) (f:Int):fr (x::l) f=if x.aS=f then(x.To,true) else fr l f:=by unfold fr fa;grind
def c491 {l:List bX} {f:Int} (z:l.length<=1000000):f491 l f=some (fr l f):=by
 have key:∀(xs) (i),l.drop i=xs->O9 l f (i)=some (fr xs f):=by intro xs;induction xs with
  |nil=>intro i q;refine ab1 ?_;rw[bp q];rfl
  |cons x xs w=>intro i q;refine ab1 ?_;rw[aZ q,aQ q,aQ q,aY q af,w _ (aG q),VC];grind
 exact e491 (key l 0 rfl)
def c476 {f:FSt} {c:Nat} {x:Node} (q:f.aj[c]? =some x) {Ky:Int} (z:x.bC.length<=1000000):f476 f (c:Int) Ky=some (fr x.bC Ky):=by
 have key:∀(xs) (i),x.bC.drop i=xs->O5 Ky x.bC (i)=some (fr xs Ky):=by intro xs;induction xs with
  |nil=>intro i l;refine abX ?_;rw[bp l];rfl
  |cons x xs w=>intro i l;refine abX ?_;rw[aZ l,aQ l,aQ l,aY l af,w _ (aG l),VC];grind
 refine e476 ?_;rw[ew q];grind
def rm (l q:List bX):List bX×List dh:=(l++q.filter λh=>(fa l h.aS).isNone,q.filterMap λh=>(fa l h.aS).map λa=>⟨a.To,h.To⟩)
def rm_ok (q D:List bX):MG q D (rm q D):=by
 refine⟨λa l=> ?_,λa l=>dU _ l,λa l=> ?_,λp I=> ?_,xJ _ _⟩
 .exact(bu.1 l).imp id λh=>(cG.1 h).1
 .cases e:fa _ _ with
  |none=>exact⟨a,fL _ (cG.2 ⟨l,by rw[e];rfl⟩),rfl, .inl rfl⟩
  |some b=>obtain⟨w,z⟩:=AL e;exact⟨b,dU _ w,z, .inr (fm.2 ⟨a,l,by rw[e];rfl⟩)⟩
 .obtain⟨h,K,e⟩:=fm.1 I;cases G:fa q h.aS with
  |none=>simp_all
  |some b=>obtain⟨w,z⟩:=AL G;grind
def rm_aw {F n:Nat} {l D:List bX} (q:AW F n l) (w:AW F n D):AW F n (rm l D).1:=by
 refine⟨?_,λa z=>((rm_ok _ _).sub a z).elim (q.ok a) (w.ok a)⟩;show((l++_).map _).Nodup;rw[bJ,gV];refine⟨q.nd,?_,λx G y I e=> ?_⟩
 .exact(xR.map _).nodup w.nd
 .obtain⟨a,z,rfl⟩:=aC.1 G;obtain⟨b,K,rfl⟩:=aC.1 I;simp_all[fa]
section
variable {n:Nat} {out:List Int} {ar:List (List bX)}
def h451_23 {i:Nat} {z G:Nat} (D:z<ar.length) (w:G<ar.length) (I:(ar.getD z []).length<=1000000) (O:(ar.getD G []).length<=1000000) {res:List Int}:∀(xs:List bX) (k:Nat) (l:List dh) (both:List bX),(ar.getD G []).drop k=xs->l.length+xs.length<=1000000000->both.length+xs.length<=2000000->
  sL (wrap .i64 ((i:Int)+1)) (l++xs.filterMap λh=>(fa (ar.getD z []) h.aS).map λa=>⟨a.To,h.To⟩) out (ar.set z (both++xs.filter λh=>(fa (ar.getD z []) h.aS).isNone))=some res->
  Ed (i:Int) (z:Int) (G:Int) (k:Int) l out ar both=some res:=by
 intro xs;induction xs with
 |nil=>intro k l both q _ _ P;refine Wf ?_;rw[YN w,bp q,YN D];simp_all
 |cons x xs K=>intro k l both q L N P;simp at L N;refine Wf ?_;rw[YN w,aZ q,ai,YN w,aQ q,YN D,c491 I,ak,aY q af];unfold fr;cases e:fa _ _ with
  |none=>rw[cond_neg (by rfl),bT _ af ah af];refine K _ _ _ (aG q) af aD ?_;simp_all
  |some a=>rw[cond_pos (by rfl),bT _ af ah af];refine K _ _ _ (aG q) aD af ?_;simp_all
def h451_17 {i:Nat} {q l:Nat} {todo:List dh} (w:q<ar.length) (z:l<ar.length) (D:(ar.getD q []).length<=1000000) (G:(ar.getD l []).length<=1000000) (O:todo.length<=500000000) {res:List Int}:∀(xs done:List Int),done.length+xs.length<=1000000->
  sL (wrap .i64 ((i:Int)+1)) (todo++(rm (ar.getD q []) (ar.getD l [])).2) (done++NN q l xs) (ar.set q (rm (ar.getD q []) (ar.getD l [])).1)=some res->
  yE (i:Int) (q:Int) (l:Int) (done.length:Int) todo (done++xs) ar=some res:=by
 intro xs;induction xs with
 |nil=>intro done I K;refine We ?_;rw[cond_neg ah,YN w,bT _ ah af af,dw];exact h451_23 w z D G (ar.getD l []) 0 todo _ rfl af af K
 |cons x xs P=>
  intro done I K;simp at I;refine We ?_;have L:∀{R:Type} (k:Int->Option R),dY (done++x::xs) done.length k=k x:=λk=>gE ah k
  have N:done++NN q l (x::xs)=(done++[if x=(l) then(q:Int) else x])++NN q l xs:=by simp[NN]
  rw[cond_pos (by grind),uK ah,aP,L,bl af];by_cases e:x=(l)
  .rw[bh ⟨af,ah⟩];grind
  grind
end
def PI.wv {n:Nat} {out:List Int} {rep:Nat->Nat} (z:out.length=n) (D:∀x,x<n->out.getD x 0=(rep x:Nat)) (q:∀x,x<n->rep x<n) (w:∀x,x<n->rep (rep x)=rep x):PI n out rep (λx=>if rep x=x then 0 else 1):=by
 refine⟨z,λx l=>⟨_,q x l,D x l,w x l,?_⟩,λx l=> ?_,q,w⟩
 .grind
 grind
def WG {low high:Int} {l:List Int} {x:Nat} (q:x<l.length):(NN low high l).getD x 0=if l.getD x 0=high then low else l.getD x 0:=by simp_all[NN]
abbrev sbT:Int->Int->Prop:=λ_ _=>True
def h451_11 {F n:Nat} {U:Gr} {W:List (Nat×Nat)} {ty:List Int} (hn:n<=1000000) (hF:F<=1000000):∀(c k i:Nat) (w:List dh) (out:List Int) (ar:List (List bX)) (rep d:Nat->Nat),
  cnt n rep<=c->w.length-i<=k->i<=w.length->w.length+cnt n rep *F<=400000000->(∀x,x<n->out.getD x 0=(rep x:Nat))->JI 1 (AW F n) sbT U n W (w.drop i) out ty ar rep d->
  ∃z G D N,sL (i:Int) w out ar=some z/\(∀x,x<n->z.getD x 0=(D x:Nat))/\∃ty',JI 1 (AW F n) sbT U n W [] z ty' G D N:=by
 intro c;induction c using Nat.strongRecOn generalizing ty with
 |ind c ihc=>
 intro k;induction k with
 |zero=>intro i w out ar rep d hc hk hi hb Q J;have e:i=w.length:=af;subst e;rw[List.drop_length] at J;exact⟨out,ar,rep,d,Wc (by rw[cond_neg (by rw[bM];omega)]),Q,ty,J⟩
 |succ k ihk=>
  intro i w out ar rep d hc hk hi hb Q J;by_cases hlt:i<w.length
  .have hd:w.drop i=w[i]::w.drop (i+1):=kV hlt;generalize hp:w[i]=p at hd;have J:=J.mem (wt':=w.drop (i+1)++[p]) (λq=>by grind);obtain⟨⟨p1,p2⟩,p3,p4⟩:=J.wo p ah;obtain⟨I,hx0⟩:=eL p1;obtain⟨x1,hx1⟩:=eL p3;have K:I<n:=af;have L:x1<n:=af;have r0:p.a0.toNat=I:=af;have r1:p.a1.toNat=x1:=af;have hol:out.length=n:=J.pi.len;have hg:∀{R:Type} (kk:dh->Option R),check (0<=(i:Int)/\toNat (i:Int)<w.length) (dY w (toNat (i:Int)) kk)=kk p:=λkk=>by
    rw[uK hlt,aP,Dw hlt,hp]
   have step:∀(r:List Int),(bif((if((rep x1:Nat):Int)<((rep I:Nat):Int) then((rep x1:Nat):Int) else((rep I:Nat):Int))==(if((rep x1:Nat):Int)>((rep I:Nat):Int) then((rep x1:Nat):Int) else((rep I:Nat):Int))) then sL ((i+1:Nat):Int) w out ar
     else yE (i:Int) (if((rep x1:Nat):Int)<((rep I:Nat):Int) then((rep x1:Nat):Int) else((rep I:Nat):Int)) (if((rep x1:Nat):Int)>((rep I:Nat):Int) then((rep x1:Nat):Int) else((rep I:Nat):Int)) 0 w out ar)=some r->sL (i:Int) w out ar=some r:=by
    intro r hr;refine Wc ?_;rw[cond_pos (by rw[bF];omega),hg,hx0,qF af,Q I K,hg,hx1,qF af,Q x1 L,hg,hx0,qF af,Q I K,hg,hx1,qF af,Q x1 L,bl af];exact hr
   by_cases O:rep I=rep x1
   .have J3:=J.skip (by rw[r0,r1];exact O);obtain⟨z,G,D,N,g1,g2,g3⟩:=ihk (i+1) w out ar rep d hc af af hb Q J3;exact⟨z,G,D,N,step _ (by rw[O,cond_pos ah];exact g1),g2,g3⟩
   ·
    have fin:∀(a b:Nat),a≠b->a<n->b<n->∀(q:dh),rep q.a0.toNat=a->rep q.a1.toNat=b->JI 1 (AW F n) sbT U n W (w.drop (i+1)++[q]) out ty ar rep d->
      ∃z G D N,yE (i:Int) (a:Int) (b:Int) 0 w out ar=some z/\(∀x,x<n->z.getD x 0=(D x:Nat))/\∃ty',JI 1 (AW F n) sbT U n W [] z ty' G D N:=by
     intro a b hab S V q hqa hqb P;have hal:a<ar.length:=by rw[P.la];exact S
     have XS:b<ar.length:=by rw[P.la];exact V
     have la:=(P.ao _ S).len;have lb:=(P.ao _ V).len;have M:=rm_ok (ar.getD a []) (ar.getD b []);have Jm:=P.merge hqa hqb hab (λl hl c hc=>(hl.ok c hc).2) (λ_ _=>trivial) M (rm_aw (P.ao _ S) (P.ao _ V)) (t:=0) ⟨af,af⟩ trivial trivial (λ_ _ _=>trivial);have hcm:=K2 P hqa hqb hab;have ho':∀x,x<n->(NN a b out).getD x 0=(((λx=>if rep x=b then a else rep x) x:Nat):Int):=λx hx=>by
      rw[WG af,Q x hx];show _=(((if rep x=b then a else rep x):Nat):Int)
      by_cases e:rep x=b
      .rw[au af,au e]
      .rw[aq af,aq e]
     have J3:=Jm.rL (PI.wv (out:=NN a b out) (by unfold NN;rw[aU];exact hol) ho' Jm.pi.rl Jm.pi.rr);have hmul:(cnt n (λx=>if rep x=b then a else rep x)+1) *F<=cnt n rep *F:=jx F hcm;rw[sN] at hmul;have hml:=M.le;have e3:w.drop (i+1)++(rm (ar.getD a []) (ar.getD b [])).2=(w++(rm (ar.getD a []) (ar.getD b [])).2).drop (i+1):=by grind
     rw[e3] at J3;obtain⟨z,G,D,N,g1,g2,g3⟩:=ihc _ (eM (Nat.lt_of_succ_le hcm) hc) (w++(rm (ar.getD a []) (ar.getD b [])).2).length (i+1) (w++(rm (ar.getD a []) (ar.getD b [])).2) _ _ _ _ (aT _) af (by grind) (by grind) ho' J3;refine⟨z,G,D,N,?_,g2,g3⟩;have:=h451_17 (i:=i) (todo:=w) (ar:=ar) (res:=z) hal XS af af af out [] aD (by rw[bl af,dw];omega);exact this
    by_cases hlt2:rep x1<rep I
    .obtain⟨z,G,D,N,g1,g2,g3⟩:=fin (rep x1) (rep I) (λe=>O e.symm) (J.pi.rl _ L) (J.pi.rl _ K) ⟨p.a1,p.a0⟩ (by show rep p.a1.toNat=_;rw[r1]) (by show rep p.a0.toNat=_;rw[r0]) J.swap;refine⟨_,_,_,N,step _ ?_,g2,g3⟩;have e1:(if((rep x1):Int)<((rep I)) then((rep x1):Int) else((rep I)))=((rep _)):=au af;have e2:(if((rep x1):Int)>((rep I)) then((rep x1):Int) else((rep I)))=((rep _)):=aq af;rw[e1,e2,cond_neg (by rw[iK];omega)];exact g1
    .obtain⟨z,G,D,N,g1,g2,g3⟩:=fin _ _ O (J.pi.rl _ K) (J.pi.rl _ L) p (by rw[r0]) (by rw[r1]) J;grind
  grind
def h451_5 {l:List Node} {a:Nat} (P:l.length<=1000000) (G:0<a) (O:a<l.length) {out:List Int} {res:List Int} (Q:sL 0 [⟨a,0⟩] out (l.map (·.bC))=some res):
  ∀(k i:Nat),l.length=i+k->J5 l (NN 0 a (ids 0 l.length)) (i:Int) (if a<i then[⟨a,0⟩] else[]) out ((l.take i).map (·.bC)++replicate k [])=some res:=by
 intro k;induction k with
 |zero=>intro i K;refine abQ ?_;grind
 |succ k L=>
  intro i K;have q:i<l.length:=af;refine abQ ?_;have z:i<(NN 0 (a:Int) (ids 0 l.length)).length:=by unfold NN;rw[aU,qa];exact q
  have I:(NN 0 (a:Int) (ids 0 l.length)).getD i default=if i=a then 0 else(i:Int):=by show List.getD _ _ 0=_;rw[WG (by rw[qa];omega),ED q];by_cases e:i=a<;>omega
  have w:i<((l.take i).map (·.bC)++replicate (k+1) ([]:List bX)).length:=aD;have D:((l.take i).map (·.bC)++replicate (k+1) ([]:List bX)).set i l[i].bC=(l.take (i+1)).map (·.bC)++replicate k []:=by
   rw[mN _ _ aD,cg,aK q]
   have:i-((l.take i).map (·.bC)).length=0:=aD
   rw[this,vq,qX,bJ];simp
  rw[cond_pos (by grind),bR q,YN w,sA z,aP,bl af];by_cases e:i=a
  .subst e;rw[cond_pos (by grind),sA z,bT _ ah ah af];grind
  .have:=L (i+1) af;have N:(if a<i+1 then[(⟨(a),0⟩:dh)] else[])=if a<i then[⟨(a),0⟩] else[]:=by
    by_cases h:a<i
    .grind
    .rw[aq h,aq af]
   simp_all
def lG (l:List Node):Gr:=⟨λx=>((l.map (·.bC)).getD x []).map λa=>(a.aS,a.To.toNat),λx=>(l.map (·.cO)).getD x 0⟩
def lG0 (l:List Node):Gr:=⟨(lG l).sc,λ_=>0⟩
def c451 {F:Nat} {l:List Node} {a:Nat} (z:l.length<=1000000) (hF:F<=100000) (Q:l.length *F<=300000000) (w:0<a) (D:a<l.length) (hA:∀x∈l,AW F l.length x.bC):
  ∃out ty ar rep d,f451 l (NN 0 a (ids 0 l.length))=some out/\(∀x,x<l.length->out.getD x 0=(rep x:Nat))/\JI 1 (AW F l.length) sbT (lG0 l) l.length [(0,a)] [] out ty ar rep d:=by
 have G:JI 1 (AW F l.length) sbT (lG0 l) l.length [] [] (ids 0 l.length) (replicate l.length 0) (l.map (·.bC)) id (λ_=>0):=by
  have R:∀x,x<l.length->(replicate l.length (0:Int)).getD x 0=0:=λx q=>by simp_all
  refine JI.init (λ_ _=>trivial) rfl ah ah (λx q=> ?_) (λx q=> ?_) (λx q=>rfl) (λx q=>(R x q).symm)<;>simp_all
 have I:=G.start (a:=0) af D;have K:=JI.swap (wt:=[]) I;have P:=Zz l.length id;have S :=jx F P;obtain⟨out,ar,rep,d,L,N,ty,O⟩:=h451_11 z af (cnt _ id) 1 0 _ _ _ _ _ (aT _) ah ah (by grind) (λx q=>ED q) K;refine⟨_,ty,ar,_,d,?_,N,O⟩;refine e451 ?_;rw[c449 z,ak,bh ⟨af,by omega,by omega,af⟩];have:=h451_5 z w D L l.length 0 af;assumption
