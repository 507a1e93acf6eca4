/- Unify (the program's) is the least upper bound. -/
import Derived.Test.YthppjmoncapdfaaGreatDoorClXf
set_option linter.all false
open Go.IntKind (wrap)
open Int (toNat)
open List (length replicate)
namespace Go.Proofs.YthppjmoncapdfaaGreatDoor.cl.pf
open Go Go.AM
def zk (k:Nat) (l:List bY):List bY:=l.map λa=>⟨a.aT,a.To+k⟩
def ids (s k:Nat):List Int:=(List.range' s k).map λ(x:Nat)=>(x:Int)
def aaG (s k:Nat):ids s (k+1)=(s:Int)::ids (s+1) k:=by simp[ids,tZ]
def qc (s k:Nat):(ids s k).length=k:=by simp[ids]
def GV (s k j:Nat):ids s k++ids (s+k) j=ids s (k+j):=by unfold ids;rw[<-bM,List.range'_append_1]
def ES {k x:Nat} (h:x<k):(ids 0 k).getD x 0=(x:Int):=by unfold ids;rw[aZ,dF,List.getElem?_range' af];simp
section
variable {TL:List gL} {FL:List c8}
def h442_8 {fr:Nat} {l:List Node} {n v:Int} {q:List bY} {x:Node} {z ty:List Int} {ar:List (List bY)} {res:Unit×List Int×List Int×List (List bY)} (hf:fr<=1000000) (O:q.length<=1000000) (G:∀a∈q,0<=a.To/\a.To<=1000000) (I:ar.length<=100000000):
  ∀(xs:List bY) (i:Nat),q.drop i=xs->Ka fr l n (wrap .i64 (v+1)) TL FL z ty (ar++[zk fr q])=some res->
   O6 fr l n v q (q.length:Int) (i:Int) x (zk fr (q.take i)) TL FL z ty ar=some res:=by
 intro xs;induction xs with
 |nil=>intro i w D;refine ab5 ?_;rw[bq w,aA,bU _ af ah af,gd (iq w)];exact D
 |cons a xs L=>
  intro i w D;refine ab5 ?_;have N:=G a (aI (bA w));have K:=c9 w;rw[bf w,ai,aQ w,bU _ (by unfold zk;rw[aV,fI];omega) ah af,aX w af,jN af af];have e:zk fr (q.take i)++[⟨a.aT,a.To+fr⟩]=zk fr (q.take (i+1)):=by rw[cr,bA w];simp[zk]
  rw[e];exact L (i+1) (aH w) D
def h442_2 {fr:Nat} {l:List Node} (hf:fr+l.length<=1000000) (D:∀x∈l,x.bD.length<=1000000/\∀a∈x.bD,0<=a.To/\a.To<=1000000):∀(xs:List Node) (i:Nat) (q ty:List Int) (ar:List (List bY)),l.drop i=xs->q.length<=fr+i->ty.length<=fr+i->ar.length<=fr+i->
  Ka (fr:Int) l (l.length:Int) (i:Int) TL FL q ty ar=some ((),q++ids (fr+i) xs.length,ty++xs.map (·.cQ),ar++xs.map λx=>zk fr x.bD):=by
 intro xs;induction xs with
 |nil=>intro i q ty ar w _ _ _;refine ab4 ?_;rw[bq w,aA];simp[ids]
 |cons x xs I=>intro i q ty ar w K L N;have z:=D x (aI (bA w));have G:=c9 w;refine ab4 ?_;rw[bf w,ai,aQ w,bU _ af ah af,bU _ af ah af,jN af af];refine h442_8 af z.1 z.2 af x.bD 0 rfl ?_;rw[aX w af,I (i+1) _ _ _ (aH w) aF aF aF,bg,aaG];have e:(fr:Int)+(i:Int)=((fr+i:Nat):Int):=af;rw[e];simp[kZ]
def ZI {l:List Node} {q ty:List Int} {ar:List (List bY)} {fr:Nat} (z:q.length=fr) (G:ty.length=fr) (D:ar.length=fr) (hf:fr+l.length<=1000000) (w:∀x∈l,x.bD.length<=1000000/\∀a∈x.bD,0<=a.To/\a.To<=1000000):
  f442 l TL FL q ty ar=some ((),q++ids fr l.length,ty++l.map (·.cQ),ar++l.map λx=>zk fr x.bD):=by
 refine e442 ?_;rw[z];exact h442_2 hf w l 0 q ty ar rfl af af af
end
def JI.init {T n:Nat} {Q:List bY->Prop} {sb:Int->Int->Prop} {U:Gr} {w ty:List Int} {ar:List (List bY)} (K:∀{a},0<=a->a<(T:Int)->sb a a) (q:w=ids 0 n) (N:ty.length=n) (L:ar.length=n) (z:∀x,x<n->0<=ty.getD x 0/\ty.getD x 0<(T:Int)) (ao:∀x,x<n->Q (ar.getD x []))
  (G:∀x,x<n->U.sc x=(ar.getD x []).map λa=>(a.aT,a.To.toNat)) (I:∀x,x<n->U.ty x=ty.getD x 0):JI T Q sb U n [] [] w ty ar id (λ_=>0):=by
 subst q;refine⟨⟨qc _ _,λx l=>⟨x,l,ES l,rfl, .inl rfl⟩,λx l=>by rw[ES l];simp,λx l=>l,λx _=>rfl⟩,N,L,z,ao,(λp q=>by cases q),λx l=> ?_,λx l p q=> ?_,(λp q=>by cases q),λC m O D=>⟨λx _=>rfl,λx l _=>⟨?_,λa h=> ?_⟩,(λp q=>by cases q)⟩⟩
 .rw[I x l];exact K (z x l).1 (z x l).2
 .rw[G x l] at q;obtain⟨a,h,rfl⟩:=aD.1 q;exact⟨a,h,rfl, .wC rfl⟩
 .rw[<-I x l];exact D.ty x l
 .exact D.ar x l (a.aT,a.To.toNat) (by rw[G x l];exact aD.2 ⟨a,h,rfl⟩)
def Can.ao {T F:Nat} {f:FSt} (h:Can T F f) {x:Node} (G:x∈f.aj):AO F (f.aj.length) x.bD:=by
 obtain⟨i,z⟩:=gE.1 G;have l:i<f.aj.length:=(bF.1 z).1;have q:f.aj[i]=x:=(bF.1 z).2;have e:iY f i=SE x:=by rw[qu l,q]
 refine⟨?_,λa w=> ?_⟩
 .have:=h.yh i;rw[e] at this;unfold zl SE at this;rw[gU] at this;exact this
 .have D:(a.aT,a.To.toNat)∈iY f i:=by rw[e];exact aD.2 ⟨a,w,rfl⟩
  have I:=h.go.ft i l _ D;have K:=h.bd i l _ D;have L:=h.nn G w;exact⟨I,L,by simp only at K;omega⟩
def Can.Pw {T F:Nat} {f:FSt} (h:Can T F f) {x:Node} (z:x∈f.aj):0<=x.cQ/\x.cQ<(T:Int):=by
 obtain⟨i,w⟩:=gE.1 z;have l:i<f.aj.length:=(bF.1 w).1;have q:f.aj[i]=x:=(bF.1 w).2;have:=h.go.tp i l;have e:(mJ f).ty i=x.cQ:=by show ny f i=_;rw[ox l,q]
 rwa[e] at this
def AO.sh {F n k N:Nat} {l:List bY} (h:AO F n l) (z:n+k<=N):AO F N (zk k l):=by
 refine⟨?_,λa q=> ?_⟩
 .unfold zg zk;rw[gU];exact h.yh
 .obtain⟨b,w,rfl⟩:=aD.1 q;have:=h.ok b w;exact⟨this.1,by show 0<=b.To+(k:Int);omega,by show b.To+(k:Int)<(N:Int);omega⟩
def R6 {F n k:Nat} {l:List bY} (h:AO F n l):((zk k l).map λa=>(a.aT,a.To.toNat))=(l.map λa=>(a.aT,a.To.toNat)).map λp=>(p.1,p.2+k):=by
 unfold zk;rw[eV,eV];refine gT λa q=> ?_
 have:=(h.ok a q).2;show(a.aT,(a.To+(k:Int)).toNat)=(a.aT,a.To.toNat+k)
 congr 1;omega
def lC {q w:Type} {l:List q} {g:q->w} {i:Nat} {d:w} (h:i<l.length):(l.map g).getD i d=g l[i]:=by rw[aZ,dF,aM h];rfl
def B5 {q:Type} {l m:List q} {i:Nat} {d:q} (h:i<l.length):(l++m).getD i d=l.getD i d:=by rw[aZ,aZ,dD h]
def B6 {q:Type} {l m:List q} {i:Nat} {d:q} (h:l.length<=i):(l++m).getD i d=m.getD (i-l.length) d:=by rw[aZ,aZ,ga h]
def Can.small {T F:Nat} {f:FSt} (h:Can T F f) (hn:f.aj.length<=1000000) (hF:F<=1000000):∀x∈f.aj,x.bD.length<=1000000/\∀a∈x.bD,0<=a.To/\a.To<=1000000:=λx q=>by have:=h.ao q;exact⟨dB this.len hF,λa l=>by have:=(this.ok a l).2;omega⟩
section
variable {h:bR} {T F:Nat} {sb:Int->Int->Prop} (H:HM h T sb) {A B:FSt} (hA:Can T F A) (hB:Can T F B) (hF:F<=400) (hn:A.aj.length+B.aj.length<=1000000)
include H hA hB hF hn
theorem XA:JI T (AO F (A.aj.length+B.aj.length)) sb (ri A B) (A.aj.length+B.aj.length) [] [] (ids 0 (A.aj.length)++ids (A.aj.length) (B.aj.length)) (A.aj.map (·.cQ)++B.aj.map (·.cQ)) ((A.aj.map λx=>zk 0 x.bD)++B.aj.map λx=>zk (A.aj.length) x.bD) id (λ_=>0):=by
 have I:ids 0 (A.aj.length)++ids (A.aj.length) (B.aj.length)=ids 0 (A.aj.length+B.aj.length):=by have:=GV 0 (A.aj.length) (B.aj.length);rwa[gy] at this
 have D:∀x,(q:x<A.aj.length)->((A.aj.map λx=>zk 0 x.bD)++B.aj.map λx=>zk (A.aj.length) x.bD).getD x []=zk 0 A.aj[x].bD:=λx q=>by rw[B5 (by simpa using q),lC q]
 have G:∀x,(q:x<A.aj.length+B.aj.length)->(l:¬x<A.aj.length)->((A.aj.map λx=>zk 0 x.bD)++B.aj.map λx=>zk (A.aj.length) x.bD).getD x []=zk (A.aj.length) (B.aj[x-A.aj.length]'(by omega)).bD:=λx q l=>by
  rw[B6 aF]
  have:x-(A.aj.map λx=>zk 0 x.bD).length=x-A.aj.length:=ah
  rw[this,lC af]
 have w:∀x,(q:x<A.aj.length)->(A.aj.map (·.cQ)++B.aj.map (·.cQ)).getD x 0=A.aj[x].cQ:=λx q=>by rw[B5 (by simpa using q),lC q]
 have z:∀x,(q:x<A.aj.length+B.aj.length)->(l:¬x<A.aj.length)->(A.aj.map (·.cQ)++B.aj.map (·.cQ)).getD x 0=(B.aj[x-A.aj.length]'(by omega)).cQ:=λx q l=>by
  rw[B6 aF]
  have:x-(A.aj.map (·.cQ)).length=x-A.aj.length:=ah
  rw[this,lC af]
 refine JI.init H.to.refl I ah ah (λx q=> ?_) (λx q=> ?_) (λx q=> ?_) (λx q=> ?_)<;>by_cases l:x<A.aj.length
 .rw[w x l];exact hA.Pw (br l)
 .rw[z x q l];exact hB.Pw (br _)
 .rw[D x l];exact(hA.ao (br l)).sh af
 .rw[G x q l];exact(hB.ao (br _)).sh af
 .rw[D x l,R6 (hA.ao (br l)),(zQ l).1,qu l];exact(jX _).symm
 .rw[G x q l,R6 (hB.ao (br _)),(zR l).1,qu af];rfl
 .rw[w x l,(zQ l).2,ox l]
 .rw[z x q l,(zR l).2,ox af]
theorem c433:(∃f,f433 h A B=some (f,true)/\Lub T F sb A B f)\/(f433 h A B=some (⟨[]⟩,false)/\∀C,Can T F C->Le sb A C->Le sb B C->False):=by
 have G:f442 A.aj h.Types h.cE [] [] []=some ((),ids 0 (A.aj.length),A.aj.map (·.cQ),A.aj.map λx=>zk 0 x.bD):=by rw[ZI (fr:=0) rfl rfl rfl af (hA.small af af)];simp
 have I:f442 B.aj h.Types h.cE (ids 0 (A.aj.length)) (A.aj.map (·.cQ)) (A.aj.map λx=>zk 0 x.bD)=some ((),ids 0 (A.aj.length)++ids (A.aj.length) (B.aj.length),A.aj.map (·.cQ)++B.aj.map (·.cQ),(A.aj.map λx=>zk 0 x.bD)++B.aj.map λx=>zk (A.aj.length) x.bD):=
  ZI (fr:=A.aj.length) (qc _ _) ah ah hn (hB.small af af)
 have q:(A.aj.length+B.aj.length) *F<=400000000:=by have:=uh hn hF;omega
 have K:0<A.aj.length+B.aj.length:=by have:=hA.ne;omega
 have l:A.aj.length<A.aj.length+B.aj.length:=by have:=hB.ne;omega
 rcases c443 H af K l q (XA H hA hB hF hn) with⟨D,ty,ar,rep,d,z,J⟩|⟨⟨D,ty,ar,z⟩,w⟩
 .obtain⟨N,g⟩:=c444 (TL:=h.Types) (FL:=h.cE) (d:=d) J.la J.lt J.ao J.pi.rl J.pi.rr af hn K J.pi;refine .inl ⟨_,e433 ?_,PN H.to hA hB (J.uni (both_go hA hB).bd)⟩;rw[G,gA,I,gA];have e:(0:Int)=((0:Nat):Int):=rfl;rw[e,z,gA,cond_neg (by rfl),g,gA]
 .refine .inr ⟨e433 ?_,λC L O P=> ?_⟩
  .rw[G,gA,I,gA];have e:(0:Int)=((0:Nat):Int):=rfl;rw[e,z,gA,cond_pos (by rfl)]
  .obtain⟨m,_,Q⟩:=HS hA hB L O P;exact w (mJ C) m L.KC Q
end
end Go.Proofs.YthppjmoncapdfaaGreatDoor.cl.pf
namespace Go.Proofs.YthppjmoncapdfaaGreatDoor.cl.pf
open Go Go.AM
def sj (x:bY):List bY->List bY
 |[]=>[x]
 |y::l=>if y.aT<=x.aT then y::sj x l else x::y::l
def Gn (l:List bY):List bY:=l.foldl (λo x=>sj x o) []
def Mc (l:List bY):Prop:=l.Pairwise λa b=>a.aT<=b.aT
def IF {x a:bY}:∀{l:List bY},a∈sj x l↔a=x\/a∈l
 |[]=>by simp[sj]
 |y::l=>by
  unfold sj;split
  .rw[aG,IF,aG];constructor
   .rintro (h|h|h)
    .exact .inr (.inl h)
    .exact .inl h
    .exact .inr (.inr h)
   .rintro (h|h|h)
    .exact .inr (.inl h)
    .exact .inl h
    .exact .inr (.inr h)
  .simp
def IE {x:bY}:∀{l:List bY},(sj x l).length=l.length+1
 |[]=>rfl
 |y::l=>by unfold sj;split<;>simp[IE]
def IG {x:bY}:∀{l:List bY},Mc l->Mc (sj x l)
 |[],_=>C1 _ _
 |y::l,h=>by
  have w:=dA.1 h;unfold sj;split
  .rename_i z;refine dA.2 ⟨λa q=> ?_,IG w.2⟩;rcases IF.1 q with rfl|q
   .exact z
   .exact w.1 a q
  .rename_i D;refine dA.2 ⟨λa q=> ?_,h⟩;rcases aG.1 q with rfl|q
   .omega
   .have:=w.1 a q;omega
def ID {x:bY} {w:List bY} (q:∀a∈w,x.aT<a.aT):∀{u:List bY},(∀a∈u,a.aT<=x.aT)->sj x (u++w)=u++[x]++w
 |[],_=>by cases w with
  |nil=>rfl
  |cons y w=>show sj x (y::w)=_;unfold sj;rw[au (by have:=q y (by simp);omega)];rfl
 |y::u,l=>by show sj x (y::(u++w))=_;unfold sj;rw[az (l y ah),ID q λa z=>l a (by simp[z])];rfl
def qh:∀(l:List bY),Mc (Gn l)/\(Gn l).length=l.length/\∀a,a∈Gn l↔a∈l:=by
 intro l;unfold Gn;have key:∀(l o:List bY),Mc o->Mc (l.foldl (λo x=>sj x o) o)/\(l.foldl (λo x=>sj x o) o).length=o.length+l.length/\∀a,a∈l.foldl (λo x=>sj x o) o↔a∈o\/a∈l:=by intro l;induction l with
  |nil=>intro o h;exact⟨h,rfl,λa=>by simp⟩
  |cons x l D=>
   intro o h;obtain⟨q,w,z⟩:=D (sj x o) (IG h);refine⟨q,by rw[fD,w,IE,bg];omega,λa=> ?_⟩;rw[fD,z a,IF,aG];constructor
   .rintro ((h|h)|h)
    .exact .inr (.inl h)
    .exact .inl h
    .exact .inr (.inr h)
   .rintro (h|h|h)
    .exact .inl (.inr h)
    .exact .inl (.inl h)
    .exact .inr h
 have:=key l [] List.Pairwise.nil;exact⟨this.1,by simpa using this.2.1,λa=>by simpa using this.2.2 a⟩
def srt_id {l:List bY} (h:zg l):Gn l=l:=by
 have key:∀(l o:List bY),zg (o++l)->l.foldl (λo x=>sj x o) o=o++l:=by intro l;induction l with
  |nil=>intro o _;simp
  |cons x l w=>
   intro o h;have e:sj x o=o++[x]:=by
    have:=ID (x:=x) (w:=[]) (λa q=>by cases q) (u:=o) (λa q=>by
     unfold zg at h;rw[oD] at h
     have:=h.2.2 a q x (by simp);omega)
    simpa using this
   rw[fD,e,w (o++[x]) (by simpa using h)];simp
 exact key l [] (by simpa using h)
def N4 {l:List bY} (h:(l.map (·.aT)).Nodup):zg (Gn l):=by
 obtain⟨D,_,I⟩:=qh l;have w:((Gn l).map (·.aT)).Nodup:=by
  unfold Gn;have key:∀(l o:List bY),((o++l).map (·.aT)).Nodup->((l.foldl (λo x=>sj x o) o).map (·.aT)).Nodup:=by intro l;induction l with
   |nil=>intro o h;simpa using h
   |cons x l G=>
    intro o h;rw[fD];refine G _ ?_;have q:∀o:List bY,((sj x o).map (·.aT)).Perm ((o++[x]).map (·.aT)):=by intro o;induction o with
     |nil=>exact List.Perm.refl _
     |cons y o z=>
      unfold sj;split
      .simp only[aS,eU];exact List.Perm.cons _ z
      .simp only[aS,eU]
       have:((y::o)++[x]).map (λa:bY=>a.aT)=(y::o).map (λa:bY=>a.aT)++[x.aT]:=ah
       simp only[aS,eU] at this;rw[this];exact(List.perm_append_singleton x.aT (y.aT::o.map λa=>a.aT)).symm
    have:((o++x::l).map (·.aT))=(o++[x]).map (·.aT)++l.map (·.aT):=ah
    rw[this] at h;rw[bM];exact((q o).append_right _).nodup_iff.2 h
  exact key l [] (by simpa using h)
 unfold zg;unfold Mc at D;unfold List.Nodup at w;rw[gU] at w;exact(D.and w).imp λ{a b} h=>by have:=h.1;have:=h.2;omega
def h463_6 {l:List bY} {i:Nat} {x:bY} {res:List bY} (O:l[i]? =some x) (V:l.length<=1000000) {o:List bY} (ho:o.length<=1000000) (P:Mc o)
  (R:yS l ((i+1:Nat):Int) (sj x o)=some res):∀(v:Nat),v<=o.length->(∀a∈o.drop v,x.aT<a.aT)->Ht l (i:Int) (v:Int) o=some res:=by
 have U:i<l.length:=(bF.1 O).1;have fin:∀(v:Nat),v<=o.length->(∀a∈o.drop v,x.aT<a.aT)->(∀a∈o.take v,a.aT<=x.aT)->
   check (0<=(v:Int)/\(v:Int)<=((o.length:Nat):Int)) (
   check ((length ([]:List bY)+length ((o.take (toNat (v:Int))).drop 0)) *16<=140737488355328/\length ([]:List bY)+length ((o.take (toNat (v:Int))).drop 0)<=4611686018427387904) (
   aW l (i:Int) λq=>
   check ((length (([]:List bY)++((o.take (toNat (v:Int))).drop 0))+length [q]) *16<=140737488355328/\length (([]:List bY)++((o.take (toNat (v:Int))).drop 0))+length [q]<=4611686018427387904) (
   check (0<=(v:Int)/\(v:Int)<=((o.length:Nat):Int)) (
   check ((length ((([]:List bY)++((o.take (toNat (v:Int))).drop 0))++[q])+length ((o.take (length o)).drop (toNat (v:Int)))) *16<=140737488355328/\length ((([]:List bY)++((o.take (toNat (v:Int))).drop 0))++[q])+length ((o.take (length o)).drop (toNat (v:Int)))<=4611686018427387904) (
   yS l (wrap .i64 ((i:Int)+1)) (((([]:List bY)++((o.take (toNat (v:Int))).drop 0))++[q])++((o.take (length o)).drop (toNat (v:Int)))))))))=some res:=by
  intro v K D Q;have e:(o.take v++[x])++o.drop v=sj x o:=by have:=ID (x:=x) D Q;rw[jq] at this;exact this.symm
  rw[bh ⟨af,af⟩,aR,uf,bU _ ah (by rw[fI];omega) af,ey O,dh,bU _ (by rw[fI];omega) ah af,bh ⟨af,af⟩,fC,bU _ aF aF af,e,bp af];exact R
 intro v;induction v with
 |zero=>intro K D;refine Wx ?_;rw[cond_neg (by rfl)];exact fin 0 K D (λa w=>by cases w)
 |succ v S=>
  intro K D;refine Wx ?_;have z:v<o.length:=K;rw[cond_pos (by rw[bH];omega),xB af,uP z,aR,DH z,ey O];by_cases L:x.aT<o[v].aT
  .rw[cond_pos (by rw[bH];exact L)];refine S af λa w=> ?_
   rw[kW z] at w;rcases aG.1 w with rfl|w
   .exact L
   .exact D a w
  .rw[cond_neg (by rw[bP];exact L)];refine fin (v+1) K D λa w=> ?_
   rw[cr,aM z] at w;unfold Mc at P;rcases bw.1 w with w|w
   .obtain⟨j,G⟩:=gE.1 w;rw[qw] at G;split at G
    .rename_i N;have I:j<o.length:=af;rw[aM I] at G;cases G;have:=mX.1 P j v I z N;omega
    .cases G
   .simp at w;subst w;omega
def h463 {l:List bY} (D:l.length<=1000000):∀(xs:List bY) (i:Nat) (o:List bY),l.drop i=xs->Mc o->o.length<=i->yS l (i:Int) o=some (xs.foldl (λo x=>sj x o) o):=by intro xs;induction xs with
 |nil=>intro i o q _ _;refine Ww ?_;rw[bq q,aA];rfl
 |cons x xs I=>intro i o q z K;have G:=c9 q;refine Ww ?_;rw[bf q,ai];refine h463_6 (bA q) D af z ?_ o.length (aU _) (λa w=>by rw[List.drop_length] at w;cases w);exact I (i+1) (sj x o) (aH q) (IG z) (by rw[IE];omega)
def c463 {l:List bY} (q:l.length<=1000000):f463 l=some (Gn l):=e463 (h463 q l 0 [] rfl List.Pairwise.nil (aU _))
def Cv (f:FSt) (n:Nat):List (Int×Nat):=match f.aj[n]? with
 |some x=>(Gn x.bD).map λa=>(a.aT,a.To.toNat)
 |none=>[]
def CF (f:FSt):Gr:=⟨Cv f,ny f⟩
def L5 (f:FSt):Prop:=∀x∈f.aj,x.bD.length<=1000000/\∀a∈x.bD,0<=a.To/\a.To<(f.aj.length:Int)
def AB {f:FSt} {n:Nat} (h:n<f.aj.length):Cv f n=(Gn f.aj[n].bD).map λa=>(a.aT,a.To.toNat):=by unfold Cv;rw[aM h]
def N3 {f:FSt} (h:L5 f):Bd (CF f).sc f.aj.length:=λn hn p l=>by have l:p∈Cv f n:=l;rw[AB hn] at l;obtain⟨a,q,rfl⟩:=aD.1 l;have:=(h _ (br hn)).2 a ((qh _).2.2 a|>.1 q);show a.To.toNat<_;omega
def iE (o:List Nat):List Int:=o.map λ(x:Nat)=>(x:Int)
section
variable {f:FSt} (hf:L5 f) (hn:f.aj.length<=1000000)
include hf hn
theorem h455_4 {k:Nat} (ih:∀(x:Nat) (o:List Nat) (num:List Int),x<f.aj.length->x∉o->NO f.aj.length num o->Met f.aj.length o->f.aj.length<k+o.length->
   ∃l,f455 (x:Int) f.aj num (iE o)=some ((),l,iE (nX (Cv f) k x o))/\NO f.aj.length l (nX (Cv f) k x o)) {as_:List bY} (has:as_.length<=1000000) (Q:∀a∈as_,0<=a.To/\a.To<(f.aj.length:Int)):
  ∀(xs:List bY) (i:Nat) (o:List Nat) (num:List Int),as_.drop i=xs->NO f.aj.length num o->Met f.aj.length o->f.aj.length<k+o.length->
   ∃l,Kh as_ (i:Int) f.aj num (iE o)=some ((),l,iE (rS (Cv f) k (xs.map λa=>(a.aT,a.To.toNat)) o))/\NO f.aj.length l (rS (Cv f) k (xs.map λa=>(a.aT,a.To.toNat)) o):=by
 intro xs;induction xs with
 |nil=>intro i o num q z _ _;refine⟨num,Uf ?_,z⟩;rw[bq q,aA];rfl
 |cons a xs G=>
  intro i o num q z O U;have ha:=Q a (aI (bA q));obtain⟨x,R⟩:=eN ha.1;have w:x<f.aj.length:=af;have S:a.To.toNat=x:=af;have hlt:=c9 q;have D:x<num.length:=by rw[z.len];exact w
  simp only[aS,rS,fD,S];by_cases K:x∈o
  .have ev:nX (Cv f) k x o=o:=by
    cases k with
    |zero=>rfl
    |succ k=>rw[nX,az K]
   rw[ev];obtain⟨l,L,N⟩:=G (i+1) o num (aH q) z O U;refine⟨l,Uf ?_,N⟩;rw[bf q,ai,aQ q,R,qH D,z.at_ x w,az K,cond_neg (by rw[bP];omega),aX q af];exact L
  .obtain⟨I,f1,N1⟩:=ih x o num w K z O U;have P:=yV (N3 hf) k x o O w;have V:=Hu (sc:=Cv f) k x o;obtain⟨l,L,N⟩:=G (i+1) _ I (aH q) N1 P af;refine⟨l,Uf ?_,N⟩;rw[bf q,ai,aQ q,R,qH D,z.at_ x w,au K,cond_pos (by rfl),aQ q,R,f1,jO,aX q af];exact L
theorem h455:∀(k x:Nat) (o:List Nat) (num:List Int),x<f.aj.length->x∉o->NO f.aj.length num o->Met f.aj.length o->f.aj.length<k+o.length->
  ∃l,f455 (x:Int) f.aj num (iE o)=some ((),l,iE (nX (Cv f) k x o))/\NO f.aj.length l (nX (Cv f) k x o):=by
 intro k;induction k with
 |zero=>intro x o num _ _ _ w R;have:=vN w.nd w.lt;omega
 |succ k U=>
  intro x o num z q K w R;have G:x<num.length:=by rw[K.len];exact z
  have S:=vN w.nd w.lt;obtain⟨D,I⟩:=hf _ (br z);obtain⟨s1,s2,V⟩:=qh f.aj[x].bD;obtain⟨l,O,P⟩:=h455_4 hf hn U (as_:=Gn f.aj[x].bD) (by rw[s2];exact D) (λa Q=>I a ((V a).1 Q)) (Gn f.aj[x].bD) 0 (o++[x]) (num.set x (o.length:Int)) rfl (K.snoc z q) (w.snoc z q) (by simp only[cS,j4];omega);have N:nX (Cv f) (k+1) x o=rS (Cv f) k ((Gn f.aj[x].bD).map λa=>(a.aT,a.To.toNat)) (o++[x]):=by rw[nX,au q,AB z]
  rw[N];refine⟨l,e455 ?_,P⟩;rw[qH G,bU _ (by unfold iE;rw[aV];omega) ah af,bS z,c463 D,ak,aR];have e:iE o++[(x:Int)]=iE (o++[x]):=by simp[iE]
  have L:((iE o).length:Int)=(o.length:Int):=by simp[iE]
  rw[e,L];exact O
theorem h436_14 {i:Nat} {P Q:FSt} {x:Node} {nd w l:List Node} {num q:List Int} {o:List Nat} (L:NO f.aj.length num o) (h52:w.length<=1000000) {res:FSt}:∀(xs done:List bY),done.length+xs.length<=1000000->(∀a∈xs,0<=a.To/\a.To<(f.aj.length:Int)/\a.To.toNat∈o)->
  Fi (wrap .i64 ((i:Int)+1)) P Q nd (w++[⟨x.cQ,done++xs.map λa=>⟨a.aT,(o.idxOf a.To.toNat:Nat)⟩⟩]) l num q=some res->
  Eo (i:Int) (done.length:Int) P Q x nd (done++xs) w l num q=some res:=by
 intro xs;induction xs with
 |nil=>intro done O _ z;refine QZ ?_;rw[cond_neg (by rw[bP];simp),bU _ af ah af,e7];rw[dR,e7] at z;exact z
 |cons a xs ih=>
  intro done O D z;simp only[bg] at O;obtain⟨S,h2,K⟩:=D a ah;obtain⟨y,V⟩:=eN S;have G:y<f.aj.length:=af;have I:a.To.toNat=y:=af;rw[I] at K;have N:∀{R:Type} (k:bY->Option R),ek (done++a::xs) done.length k=k a:=λk=>gF ah k
  refine QZ ?_;rw[cond_pos (by rw[bH];simp;omega),uP ah,aR,N,V,qH (by rw[L.len];exact G),L.at_ y G,az K,bh ⟨af,ah⟩,N,bp af,mO _ _ (aU _),mS,qZ]
  have:=ih (done++[⟨a.aT,(o.idxOf y:Nat)⟩]) aF (λb U=>D b (by simp[U])) (by
   rw[aS,I] at z
   rw[eT];exact z)
  rw[cS,j4,eT] at this;exact this
theorem h436_9 {o4:FSt} {nd jV:List Node} {num:List Int} {o:List Nat} (R:NO f.aj.length num o) (G:Met f.aj.length o) (K:∀y∈o,∀p∈Cv f y,p.2∈o):
  ∀(xs:List Nat) (i:Nat) (l:List Node),o.drop i=xs->l.length<=i->Fi (i:Int) f o4 nd l jV num (iE o)=some ⟨l++xs.map (Ns (CF f) o)⟩:=by
 have U:=vN G.nd G.lt;intro xs;induction xs with
 |nil=>intro i l q _;refine ab0 ?_;have S:=iq q;rw[cond_neg (by rw[bP];simp[iE];omega)];simp
 |cons y xs V=>
  intro i l q h52;have w:=c9 q;have D:y∈o:=aI (bA q);have z:=G.lt y D;obtain⟨I,O⟩:=hf _ (br z);obtain⟨s1,s2,s3⟩:=qh f.aj[y].bD;have N:i<(iE o).length:=by simp[iE];exact w
  have L:(iE o).getD i 0=(y:Int):=by unfold iE;rw[lC w];have:=bA q;rw[aM w] at this;rw[cU this]
  refine ab0 ?_;rw[cond_pos (by rw[bH];omega),qH N,L,bS z,c463 I,ak];have e0:((([]:List bY).length:Nat):Int)=0:=rfl;refine h436_14 hf hn R af (Gn f.aj[y].bD) [] aF (λa Q=> ?_) ?_
  .have P:=O a ((s3 a).1 Q);refine⟨P.1,P.2,K y D (a.aT,a.To.toNat) ?_⟩;rw[AB z];exact aD.2 ⟨a,Q,rfl⟩
  .rw[aX q af,V (i+1) _ (aH q) aF];have e:Ns (CF f) o y=⟨f.aj[y].cQ,[]++(Gn f.aj[y].bD).map λa=>⟨a.aT,(o.idxOf a.To.toNat:Nat)⟩⟩:=by
    show(⟨ny f y,(Cv f y).map _⟩:Node)=_;rw[ox z,AB z,eV];rfl
   rw[aS,e,eT];rfl
theorem h436_3 {root:Nat} {o4:FSt} {nd jV:List Node} {res:FSt} (D:(Br (f455 (root:Int) nd (replicate f.aj.length (-1)) []) λw l q=>Fi 0 f o4 nd ([]:List Node) jV l q)=some res):
  ∀(k i:Nat),f.aj.length=i+k->O3 (root:Int) (i:Int) f o4 nd jV (replicate i (-1)) []=some res:=by
 intro k;induction k with
 |zero=>intro i z;refine abZ ?_;have e:i=f.aj.length:=af;subst e;rw[cond_neg (by rw[bP];omega)];exact D
 |succ k G=>intro i z;refine abZ ?_;rw[cond_pos (by rw[bH];omega),bU _ aF ah af,bp af,<-mY];exact G (i+1) af
theorem c436 {root:Nat} (l:root<f.aj.length):f436 f (root:Int)=some (lM (CF f) f.aj.length root):=by
 have z:NO f.aj.length (replicate f.aj.length (-1)) []:=⟨ah,λx G=>by rw[au ah,aZ,jr,az G];rfl⟩
 obtain⟨q,f1,w⟩:=h455 hf hn (f.aj.length+1) root [] _ l ah z Met.nil ah;have hB:=N3 hf;refine e436 ?_;refine h436_3 hf hn ?_ f.aj.length 0 af
 have:iE ([]:List Nat)=[]:=rfl
 rw[this] at f1;rw[f1,jO];have g:=h436_9 hf hn (o4:=⟨[]⟩) (nd:=f.aj) (jV:=[]) w (uw (G:=CF f) hB l) (λy I p D=>Ag (G:=CF f) hB l I D) _ 0 [] rfl (aU _);exact g
end
end Go.Proofs.YthppjmoncapdfaaGreatDoor.cl.pf
namespace Go.Proofs.YthppjmoncapdfaaGreatDoor.cl.pf
open Go Go.AM
def JF (k:Nat) (x:Node):Node:=⟨x.cQ,zk k x.bD⟩
def h448_7 {a b:List Node} {i:Nat} {x:Node} (q:b[i]? =some x) {t:Int} {o:List Node} {G:List bY} (I:a.length<=1000000) (N:o.length<=100000000) (L:x.bD.length<=1000000) (w:∀c∈x.bD,0<=c.To/\c.To<=1000000) {res:List Node}:
  ∀(xs:List bY) (k:Nat),x.bD.drop k=xs->Kb a b (wrap .i64 ((i:Int)+1)) (o++[⟨t,zk a.length x.bD⟩])=some res->
   O9 a b (i:Int) (k:Int) t o G (zk a.length (x.bD.take k))=some res:=by
 intro xs;induction xs with
 |nil=>intro k l z;refine ab8 ?_;rw[ey q,bq l,aA,bU _ af ah af,gd (iq l)];omega
 |cons c xs D=>
  intro k l z;refine ab8 ?_;have K:=w c (aI (bA l));rw[ey q,bf l,ai,ey q,aQ l,ey q,aQ l,bU _ (by grind[zk]) ah af,aX l af,jN af af];have e:zk a.length (x.bD.take k)++[⟨c.aT,c.To+(a.length)⟩]=zk a.length (x.bD.take (k+1)):=by rw[cr,bA l];simp[zk]
  rw[e];exact D _ (aH l) z
def h448 {a b:List Node} (hn:a.length+b.length<=1000000) (w:∀x∈b,x.bD.length<=1000000/\∀c∈x.bD,0<=c.To/\c.To<=1000000):∀(xs:List Node) (i:Nat) (o:List Node),b.drop i=xs->o.length<=a.length+i->Kb a b (i:Int) o=some (o++xs.map (JF a.length)):=by intro xs;induction xs with
 |nil=>intro i o l _;refine ab7 ?_;grind
 |cons x xs D=>intro i o l G;have q:=w x (aI (bA l));have z:=c9 l;refine ab7 ?_;rw[bf l,ai,aQ l];refine h448_7 (bA l) af af q.1 q.2 _ 0 rfl ?_;rw[aX l af,D _ _ (aH l) aF];simp[JF]
def c448 {a b:List Node} (hn:a.length+b.length<=1000000) (l:∀x∈b,x.bD.length<=1000000/\∀c∈x.bD,0<=c.To/\c.To<=1000000):f448 a b=some (a++b.map (JF a.length)):=by refine e448 ?_;rw[bU _ ah af af];exact h448 hn l b 0 a rfl af
def c449 {n:Nat} (hn:n<=1000000):f449 (n:Int)=some (ids 0 n):=by
 have key:∀(k i),n=i+k->Pa (n) (i) (ids 0 i)=some (ids 0 n):=by intro k;induction k with
  |zero=>simp_all[ab9]
  |succ k q=>
   intro i l;refine ab9 ?_;have e:ids 0 i++[(i:Int)]=ids 0 (i+1):=by have:=GV 0 i 1;rw[gy] at this;rw[<-this];rfl
   rw[bU _ (by rw[qc];omega) ah af,bp af];grind
 exact e449 (key n 0 af)
def NY (low high:Int) (l:List Int):List Int:=l.map λx=>if x=high then low else x
def h450 {low high:Int}:∀(xs done:List Int),done.length+xs.length<=1000000->Kc low high (done.length:Int) (done++xs)=some (done++NY low high xs):=by intro xs;induction xs with
 |nil=>intro done _;refine acd ?_;rw[cond_neg ah];rfl
 |cons x xs z=>
  intro done q;refine acd ?_;have l:∀{R:Type} (k:Int->Option R),ek (done++x::xs) done.length k=k x:=λk=>gF ah k
  have w:done++NY low high (x::xs)=(done++[if x=high then low else x])++NY low high xs:=by simp[NY]
  rw[cond_pos (by grind),uP ah,aR,bp af];by_cases e:x=high
  .rw[bh ⟨af,ah⟩];grind
  grind
structure AW (F n:Nat) (l:List bY):Prop where
 nd:(l.map (·.aT)).Nodup
 ok:∀a∈l,(0<=a.aT/\a.aT<(F:Int))/\0<=a.To/\a.To<(n:Int)
def zg.nd {l:List bY} (h:zg l):(l.map (·.aT)).Nodup:=by unfold List.Nodup;rw[gU];exact h.imp λh=>by omega
def AO.aw {F n:Nat} {l:List bY} (h:AO F n l):AW F n l:=⟨h.yh.nd,h.ok⟩
def AW.Gn {F n:Nat} {l:List bY} (h:AW F n l):AO F n (Gn l):=⟨N4 h.nd,λa q=>h.ok a ((qh l).2.2 a|>.1 q)⟩
def AW.len {F n:Nat} {l:List bY} (h:AW F n l):l.length<=F:=by have:=h.Gn.len;rwa[(qh l).2.1] at this
def nd_uniq {l:List bY} (h:(l.map (·.aT)).Nodup) {a b:bY} (q:a∈l) (w:b∈l) (e:a.aT=b.aT):a=b:=by induction l with
 |nil=>cases q
 |cons x l z=>grind
def fa (l:List bY) (f:Int):Option bY:=l.find? λa=>a.aT==f
def A3 {l:List bY} {f:Int} {a:bY} (h:fa l f=some a):a∈l/\a.aT=f:=by have q:=oH h;have w:=oI h;simp_all
def MB {l:List bY} {f:Int} (h:fa l f=none):∀a∈l,a.aT≠f:=λa q e=>by have:=tX.1 h a q;simp_all
def fr (l:List bY) (f:Int):Int×Bool:=match fa l f with
 |some a=>(a.To,true)
 |none=>(0,false)
def VN (x:bY) (l:List bY) (f:Int):fr (x::l) f=if x.aT=f then(x.To,true) else fr l f:=by unfold fr fa;grind
def c491 {l:List bY} {f:Int} (z:l.length<=1000000):f491 l f=some (fr l f):=by
 have key:∀(xs) (i),l.drop i=xs->Pk l f (i)=some (fr xs f):=by intro xs;induction xs with
  |nil=>intro i q;refine acq ?_;rw[bq q];rfl
  |cons x xs w=>intro i q;refine acq ?_;rw[bf q,aQ q,aQ q,aX q af,w _ (aH q),VN];grind
 exact e491 (key l 0 rfl)
def c476 {f:FSt} {c:Nat} {x:Node} (q:f.aj[c]? =some x) {KH:Int} (z:x.bD.length<=1000000):f476 f (c:Int) KH=some (fr x.bD KH):=by
 have key:∀(xs) (i),x.bD.drop i=xs->Pf KH x.bD (i)=some (fr xs KH):=by intro xs;induction xs with
  |nil=>intro i l;refine acm ?_;rw[bq l];rfl
  |cons x xs w=>intro i l;refine acm ?_;rw[bf l,aQ l,aQ l,aX l af,w _ (aH l),VN];grind
 refine e476 ?_;rw[ey q];grind
def rm (l q:List bY):List bY×List dr:=(l++q.filter λh=>(fa l h.aT).isNone,q.filterMap λh=>(fa l h.aT).map λa=>⟨a.To,h.To⟩)
def rm_ok (q D:List bY):MG q D (rm q D):=by
 refine⟨λa l=> ?_,λa l=>dV _ l,λa l=> ?_,λp I=> ?_,xR _ _⟩
 .exact(bw.1 l).imp id λh=>(cH.1 h).1
 .cases e:fa _ _ with
  |none=>exact⟨a,fN _ (cH.2 ⟨l,by rw[e];rfl⟩),rfl, .inl rfl⟩
  |some b=>obtain⟨w,z⟩:=A3 e;exact⟨b,dV _ w,z, .inr (fo.2 ⟨a,l,by rw[e];rfl⟩)⟩
 .obtain⟨h,K,e⟩:=fo.1 I;cases G:fa q h.aT with
  |none=>simp_all
  |some b=>obtain⟨w,z⟩:=A3 G;grind
def rm_aw {F n:Nat} {l D:List bY} (q:AW F n l) (w:AW F n D):AW F n (rm l D).1:=by
 refine⟨?_,λa z=>((rm_ok _ _).sub a z).elim (q.ok a) (w.ok a)⟩;show((l++_).map _).Nodup;rw[bM,gW];refine⟨q.nd,?_,λx G y I e=> ?_⟩
 .exact(xZ.map _).nodup w.nd
 .obtain⟨a,z,rfl⟩:=aD.1 G;obtain⟨b,K,rfl⟩:=aD.1 I;simp_all[fa]
section
variable {n:Nat} {out:List Int} {ar:List (List bY)}
def h451_23 {i:Nat} {z G:Nat} (D:z<ar.length) (w:G<ar.length) (I:(ar.getD z []).length<=1000000) (O:(ar.getD G []).length<=1000000) {res:List Int}:∀(xs:List bY) (k:Nat) (l:List dr) (both:List bY),(ar.getD G []).drop k=xs->l.length+xs.length<=1000000000->both.length+xs.length<=2000000->
  sR (wrap .i64 ((i:Int)+1)) (l++xs.filterMap λh=>(fa (ar.getD z []) h.aT).map λa=>⟨a.To,h.To⟩) out (ar.set z (both++xs.filter λh=>(fa (ar.getD z []) h.aT).isNone))=some res->
  Ep (i:Int) (z:Int) (G:Int) (k:Int) l out ar both=some res:=by
 intro xs;induction xs with
 |nil=>intro k l both q _ _ P;refine Wr ?_;rw[Y3 w,bq q,Y3 D];simp_all
 |cons x xs K=>intro k l both q L N P;simp at L N;refine Wr ?_;rw[Y3 w,bf q,ai,Y3 w,aQ q,Y3 D,c491 I,ak,aX q af];unfold fr;cases e:fa _ _ with
  |none=>rw[cond_neg (by rfl),bU _ af ah af];refine K _ _ _ (aH q) af aF ?_;simp_all
  |some a=>rw[cond_pos (by rfl),bU _ af ah af];refine K _ _ _ (aH q) aF af ?_;simp_all
def h451_17 {i:Nat} {q l:Nat} {todo:List dr} (w:q<ar.length) (z:l<ar.length) (D:(ar.getD q []).length<=1000000) (G:(ar.getD l []).length<=1000000) (O:todo.length<=500000000) {res:List Int}:∀(xs done:List Int),done.length+xs.length<=1000000->
  sR (wrap .i64 ((i:Int)+1)) (todo++(rm (ar.getD q []) (ar.getD l [])).2) (done++NY q l xs) (ar.set q (rm (ar.getD q []) (ar.getD l [])).1)=some res->
  yR (i:Int) (q:Int) (l:Int) (done.length:Int) todo (done++xs) ar=some res:=by
 intro xs;induction xs with
 |nil=>intro done I K;refine Wq ?_;rw[cond_neg ah,Y3 w,bU _ ah af af,dh];exact h451_23 w z D G (ar.getD l []) 0 todo _ rfl af af K
 |cons x xs P=>
  intro done I K;simp at I;refine Wq ?_;have L:∀{R:Type} (k:Int->Option R),ek (done++x::xs) done.length k=k x:=λk=>gF ah k
  have N:done++NY q l (x::xs)=(done++[if x=(l) then(q:Int) else x])++NY q l xs:=by simp[NY]
  rw[cond_pos (by grind),uP ah,aR,L,bp af];by_cases e:x=(l)
  .rw[bh ⟨af,ah⟩];grind
  grind
end
def PI.wC {n:Nat} {out:List Int} {rep:Nat->Nat} (z:out.length=n) (D:∀x,x<n->out.getD x 0=(rep x:Nat)) (q:∀x,x<n->rep x<n) (w:∀x,x<n->rep (rep x)=rep x):PI n out rep (λx=>if rep x=x then 0 else 1):=by
 refine⟨z,λx l=>⟨_,q x l,D x l,w x l,?_⟩,λx l=> ?_,q,w⟩
 .grind
 grind
def WU {low high:Int} {l:List Int} {x:Nat} (q:x<l.length):(NY low high l).getD x 0=if l.getD x 0=high then low else l.getD x 0:=by simp_all[NY]
abbrev sbT:Int->Int->Prop:=λ_ _=>True
def h451_11 {F n:Nat} {U:Gr} {W:List (Nat×Nat)} {ty:List Int} (hn:n<=1000000) (hF:F<=1000000):∀(c k i:Nat) (todo:List dr) (out:List Int) (ar:List (List bY)) (rep d:Nat->Nat),
  cnt n rep<=c->todo.length-i<=k->i<=todo.length->todo.length+cnt n rep *F<=400000000->(∀x,x<n->out.getD x 0=(rep x:Nat))->JI 1 (AW F n) sbT U n W (todo.drop i) out ty ar rep d->
  ∃w D z L,sR (i:Int) todo out ar=some w/\(∀x,x<n->w.getD x 0=(z x:Nat))/\∃ty',JI 1 (AW F n) sbT U n W [] w ty' D z L:=by
 intro c;induction c using Nat.strongRecOn generalizing ty with
 |ind c ihc=>
 intro k;induction k with
 |zero=>intro i todo out ar rep d hc hk hi hb P J;have e:i=todo.length:=af;subst e;rw[List.drop_length] at J;exact⟨out,ar,rep,d,Wp (by rw[cond_neg (by rw[bP];omega)]),P,ty,J⟩
 |succ k ihk=>
  intro i todo out ar rep d hc hk hi hb P J;by_cases V:i<todo.length
  .have hd:todo.drop i=todo[i]::todo.drop (i+1):=kW V;generalize hp:todo[i]=p at hd;have J:=J.mem (wt':=todo.drop (i+1)++[p]) (λq=>by grind);obtain⟨⟨p1,p2⟩,p3,p4⟩:=J.wo p ah;obtain⟨G,hx0⟩:=eN p1;obtain⟨x1,hx1⟩:=eN p3;have I:G<n:=af;have K:x1<n:=af;have r0:p.a0.toNat=G:=af;have r1:p.a1.toNat=x1:=af;have hol:out.length=n:=J.pi.len;have hg:∀{R:Type} (kk:dr->Option R),check (0<=(i:Int)/\toNat (i:Int)<todo.length) (ek todo (toNat (i:Int)) kk)=kk p:=λkk=>by
    rw[uP V,aR,DH V,hp]
   have step:∀(r:List Int),(bif((if((rep x1:Nat):Int)<((rep G:Nat):Int) then((rep x1:Nat):Int) else((rep G:Nat):Int))==(if((rep x1:Nat):Int)>((rep G:Nat):Int) then((rep x1:Nat):Int) else((rep G:Nat):Int))) then sR ((i+1:Nat):Int) todo out ar
     else yR (i:Int) (if((rep x1:Nat):Int)<((rep G:Nat):Int) then((rep x1:Nat):Int) else((rep G:Nat):Int)) (if((rep x1:Nat):Int)>((rep G:Nat):Int) then((rep x1:Nat):Int) else((rep G:Nat):Int)) 0 todo out ar)=some r->sR (i:Int) todo out ar=some r:=by
    intro r hr;refine Wp ?_;rw[cond_pos (by rw[bH];omega),hg,hx0,qH af,P G I,hg,hx1,qH af,P x1 K,hg,hx0,qH af,P G I,hg,hx1,qH af,P x1 K,bp af];exact hr
   by_cases N:rep G=rep x1
   .have J3:=J.skip (by rw[r0,r1];exact N);obtain⟨w,D,z,L,g1,g2,g3⟩:=ihk (i+1) todo out ar rep d hc af af hb P J3;exact⟨w,D,z,L,step _ (by rw[N,cond_pos ah];exact g1),g2,g3⟩
   ·
    have fin:∀(a b:Nat),a≠b->a<n->b<n->∀(q:dr),rep q.a0.toNat=a->rep q.a1.toNat=b->JI 1 (AW F n) sbT U n W (todo.drop (i+1)++[q]) out ty ar rep d->
      ∃w D z L,yR (i:Int) (a:Int) (b:Int) 0 todo out ar=some w/\(∀x,x<n->w.getD x 0=(z x:Nat))/\∃ty',JI 1 (AW F n) sbT U n W [] w ty' D z L:=by
     intro a b hab Q S q hqa hqb O;have hal:a<ar.length:=by rw[O.la];exact Q
     have X5:b<ar.length:=by rw[O.la];exact S
     have la:=(O.ao _ Q).len;have lb:=(O.ao _ S).len;have M:=rm_ok (ar.getD a []) (ar.getD b []);have Jm:=O.merge hqa hqb hab (λl hl c hc=>(hl.ok c hc).2) (λ_ _=>trivial) M (rm_aw (O.ao _ Q) (O.ao _ S)) (t:=0) ⟨af,af⟩ trivial trivial (λ_ _ _=>trivial);have hcm:=Lc O hqa hqb hab;have ho':∀x,x<n->(NY a b out).getD x 0=(((λx=>if rep x=b then a else rep x) x:Nat):Int):=λx hx=>by
      rw[WU af,P x hx];show _=(((if rep x=b then a else rep x):Nat):Int)
      by_cases e:rep x=b
      .rw[az af,az e]
      .rw[au af,au e]
     have J3:=Jm.rQ (PI.wC (out:=NY a b out) (by unfold NY;rw[aV];exact hol) ho' Jm.pi.rl Jm.pi.rr);have hmul:(cnt n (λx=>if rep x=b then a else rep x)+1) *F<=cnt n rep *F:=jB F hcm;rw[sU] at hmul;have hml:=M.le;have e3:todo.drop (i+1)++(rm (ar.getD a []) (ar.getD b [])).2=(todo++(rm (ar.getD a []) (ar.getD b [])).2).drop (i+1):=by grind
     rw[e3] at J3;obtain⟨w,D,z,L,g1,g2,g3⟩:=ihc _ (eO (Nat.lt_of_succ_le hcm) hc) (todo++(rm (ar.getD a []) (ar.getD b [])).2).length (i+1) (todo++(rm (ar.getD a []) (ar.getD b [])).2) _ _ _ _ (aU _) af (by grind) (by grind) ho' J3;refine⟨w,D,z,L,?_,g2,g3⟩;have:=h451_17 (i:=i) (todo:=todo) (ar:=ar) (res:=w) hal X5 af af af out [] aF (by rw[bp af,dh];omega);exact this
    by_cases hlt2:rep x1<rep G
    .obtain⟨w,D,z,L,g1,g2,g3⟩:=fin (rep x1) (rep G) (λe=>N e.symm) (J.pi.rl _ K) (J.pi.rl _ I) ⟨p.a1,p.a0⟩ (by show rep p.a1.toNat=_;rw[r1]) (by show rep p.a0.toNat=_;rw[r0]) J.swap;refine⟨_,_,_,L,step _ ?_,g2,g3⟩;have e1:(if((rep x1):Int)<((rep G)) then((rep x1):Int) else((rep G)))=((rep _)):=az af;have e2:(if((rep x1):Int)>((rep G)) then((rep x1):Int) else((rep G)))=((rep _)):=au af;rw[e1,e2,cond_neg (by rw[iN];omega)];exact g1
    .obtain⟨w,D,z,L,g1,g2,g3⟩:=fin _ _ N (J.pi.rl _ I) (J.pi.rl _ K) p (by rw[r0]) (by rw[r1]) J;grind
  grind
def h451_5 {l:List Node} {a:Nat} (P:l.length<=1000000) (G:0<a) (O:a<l.length) {out:List Int} {res:List Int} (Q:sR 0 [⟨a,0⟩] out (l.map (·.bD))=some res):
  ∀(k i:Nat),l.length=i+k->Ke l (NY 0 a (ids 0 l.length)) (i:Int) (if a<i then[⟨a,0⟩] else[]) out ((l.take i).map (·.bD)++replicate k [])=some res:=by
 intro k;induction k with
 |zero=>intro i K;refine ace ?_;grind
 |succ k L=>
  intro i K;have q:i<l.length:=af;refine ace ?_;have z:i<(NY 0 (a:Int) (ids 0 l.length)).length:=by unfold NY;rw[aV,qc];exact q
  have I:(NY 0 (a:Int) (ids 0 l.length)).getD i default=if i=a then 0 else(i:Int):=by show List.getD _ _ 0=_;rw[WU (by rw[qc];omega),ES q];by_cases e:i=a<;>omega
  have w:i<((l.take i).map (·.bD)++replicate (k+1) ([]:List bY)).length:=aF;have D:((l.take i).map (·.bD)++replicate (k+1) ([]:List bY)).set i l[i].bD=(l.take (i+1)).map (·.bD)++replicate k []:=by
   rw[mO _ _ aF,cr,aM q]
   have:i-((l.take i).map (·.bD)).length=0:=aF
   rw[this,vw,qZ,bM];simp
  rw[cond_pos (by grind),bS q,Y3 w,sF z,aR,bp af];by_cases e:i=a
  .subst e;rw[cond_pos (by grind),sF z,bU _ ah ah af];grind
  .have:=L (i+1) af;have N:(if a<i+1 then[(⟨(a),0⟩:dr)] else[])=if a<i then[⟨(a),0⟩] else[]:=by
    by_cases h:a<i
    .grind
    .rw[au h,au af]
   simp_all
def lG (l:List Node):Gr:=⟨λx=>((l.map (·.bD)).getD x []).map λa=>(a.aT,a.To.toNat),λx=>(l.map (·.cQ)).getD x 0⟩
def lG0 (l:List Node):Gr:=⟨(lG l).sc,λ_=>0⟩
def c451 {F:Nat} {l:List Node} {a:Nat} (z:l.length<=1000000) (hF:F<=100000) (Q:l.length *F<=300000000) (w:0<a) (D:a<l.length) (hA:∀x∈l,AW F l.length x.bD):
  ∃out ty ar rep d,f451 l (NY 0 a (ids 0 l.length))=some out/\(∀x,x<l.length->out.getD x 0=(rep x:Nat))/\JI 1 (AW F l.length) sbT (lG0 l) l.length [(0,a)] [] out ty ar rep d:=by
 have G:JI 1 (AW F l.length) sbT (lG0 l) l.length [] [] (ids 0 l.length) (replicate l.length 0) (l.map (·.bD)) id (λ_=>0):=by
  have R:∀x,x<l.length->(replicate l.length (0:Int)).getD x 0=0:=λx q=>by simp_all
  refine JI.init (λ_ _=>trivial) rfl ah ah (λx q=> ?_) (λx q=> ?_) (λx q=>rfl) (λx q=>(R x q).symm)<;>simp_all
 have I:=G.start (a:=0) af D;have K:=JI.swap (wt:=[]) I;have P:=ZR l.length id;have S :=jB F P;obtain⟨out,ar,rep,d,L,N,ty,O⟩:=h451_11 z af (cnt _ id) 1 0 _ _ _ _ _ (aU _) ah ah (by grind) (λx q=>ES q) K;refine⟨_,ty,ar,_,d,?_,N,O⟩;refine e451 ?_;rw[c449 z,ak,bh ⟨af,by omega,by omega,af⟩];have:=h451_5 z w D L l.length 0 af;assumption
