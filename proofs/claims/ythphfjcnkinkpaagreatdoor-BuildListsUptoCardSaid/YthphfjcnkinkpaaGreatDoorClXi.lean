/- Unify (the program's) is the least upper bound. -/
import Derived.Test.YthphfjcnkinkpaaGreatDoorClXf
set_option linter.all false
open Go.IntKind (wrap)
open Int (toNat)
open List (length replicate)
namespace Go.Proofs.YthphfjcnkinkpaaGreatDoor.cl.pf
open Go Go.AM
def uD (k:Nat) (l:List b9):List b9:=l.map λa=>⟨a.bB,a.To+k⟩
def ids (s k:Nat):List Int:=(List.range' s k).map λ(x:Nat)=>(x:Int)
def ab6 (s k:Nat):ids s (k+1)=(s:Int)::ids (s+1) k:=by simp[ids,q7]
def qE (s k:Nat):(ids s k).length=k:=by simp[ids]
def I5 (s k j:Nat):ids s k++ids (s+k) j=ids s (k+j):=by unfold ids;rw[<-cE,List.range'_append_1]
def Ky {k x:Nat} (h:x<k):(ids 0 k).getD x 0=(x:Int):=by unfold ids;rw[bw,dA,List.getElem?_range' af];simp
section
variable {TL:List fK} {FL:List cO}
def h442_8 {fr:Nat} {l:List Node} {n v:Int} {q:List b9} {x:Node} {z ty:List Int} {ar:List (List b9)} {res:Unit×List Int×List Int×List (List b9)} (hf:fr<=1000000) (O:q.length<=1000000) (G:∀a∈q,0<=a.To/\a.To<=1000000) (I:ar.length<=100000000):
  ∀(xs:List b9) (i:Nat),q.drop i=xs->LV fr l n (wrap .i64 (v+1)) TL FL z ty (ar++[uD fr q])=some res->
   QM fr l n v q (q.length:Int) (i:Int) x (uD fr (q.take i)) TL FL z ty ar=some res:=by
 intro xs;induction xs with
 |nil=>intro i w D;refine acZ ?_;rw[bp w,aA,cC _ af ai af,iG (mI w)];exact D
 |cons a xs L=>
  intro i w D;refine acZ ?_;have N:=G a (aV (cr w));have K:=dY w;rw[aT w,au,aK w,cC _ (by unfold uD;rw[bf,fh];omega) ai af,aQ w af,gi af af];have e:uD fr (q.take i)++[⟨a.bB,a.To+fr⟩]=uD fr (q.take (i+1)):=by rw[c7,cr w];simp[uD]
  rw[e];exact L (i+1) (aI w) D
def h442_2 {fr:Nat} {l:List Node} (hf:fr+l.length<=1000000) (D:∀x∈l,x.bV.length<=1000000/\∀a∈x.bV,0<=a.To/\a.To<=1000000):∀(xs:List Node) (i:Nat) (q ty:List Int) (ar:List (List b9)),l.drop i=xs->q.length<=fr+i->ty.length<=fr+i->ar.length<=fr+i->
  LV (fr:Int) l (l.length:Int) (i:Int) TL FL q ty ar=some ((),q++ids (fr+i) xs.length,ty++xs.map (·.di),ar++xs.map λx=>uD fr x.bV):=by
 intro xs;induction xs with
 |nil=>intro i q ty ar w _ _ _;refine acY ?_;rw[bp w,aA];simp[ids]
 |cons x xs I=>intro i q ty ar w K L N;have z:=D x (aV (cr w));have G:=dY w;refine acY ?_;rw[aT w,au,aK w,cC _ af ai af,cC _ af ai af,gi af af];refine h442_8 af z.1 z.2 af x.bV 0 rfl ?_;rw[aQ w af,I (i+1) _ _ _ (aI w) aH aH aH,bz,ab6];have e:(fr:Int)+(i:Int)=((fr+i:Nat):Int):=af;rw[e];simp[gE]
def aa7 {l:List Node} {q ty:List Int} {ar:List (List b9)} {fr:Nat} (z:q.length=fr) (G:ty.length=fr) (D:ar.length=fr) (hf:fr+l.length<=1000000) (w:∀x∈l,x.bV.length<=1000000/\∀a∈x.bV,0<=a.To/\a.To<=1000000):
  f442 l TL FL q ty ar=some ((),q++ids fr l.length,ty++l.map (·.di),ar++l.map λx=>uD fr x.bV):=by
 refine e442 ?_;rw[z];exact h442_2 hf w l 0 q ty ar rfl af af af
end
def JI.init {T n:Nat} {Q:List b9->Prop} {sb:Int->Int->Prop} {U:Gr} {w ty:List Int} {ar:List (List b9)} (K:∀{a},0<=a->a<(T:Int)->sb a a) (q:w=ids 0 n) (N:ty.length=n) (L:ar.length=n) (z:∀x,x<n->0<=ty.getD x 0/\ty.getD x 0<(T:Int)) (ao:∀x,x<n->Q (ar.getD x []))
  (G:∀x,x<n->U.sc x=(ar.getD x []).map λa=>(a.bB,a.To.toNat)) (I:∀x,x<n->U.ty x=ty.getD x 0):JI T Q sb U n [] [] w ty ar id (λ_=>0):=by
 subst q;refine⟨⟨qE _ _,λx l=>⟨x,l,Ky l,rfl, .inl rfl⟩,λx l=>by rw[Ky l];simp,λx l=>l,λx _=>rfl⟩,N,L,z,ao,(λp q=>by cases q),λx l=> ?_,λx l p q=> ?_,(λp q=>by cases q),λC m O D=>⟨λx _=>rfl,λx l _=>⟨?_,λa h=> ?_⟩,(λp q=>by cases q)⟩⟩
 .rw[I x l];exact K (z x l).1 (z x l).2
 .rw[G x l] at q;obtain⟨a,h,rfl⟩:=aD.1 q;exact⟨a,h,rfl, .ym rfl⟩
 .rw[<-I x l];exact D.ty x l
 .exact D.ar x l (a.bB,a.To.toNat) (by rw[G x l];exact aD.2 ⟨a,h,rfl⟩)
def Can.ao {T F:Nat} {f:FSt} (h:Can T F f) {x:Node} (G:x∈f.ak):AO F (f.ak.length) x.bV:=by
 obtain⟨i,z⟩:=jJ.1 G;have l:i<f.ak.length:=(bP.1 z).1;have q:f.ak[i]=x:=(bP.1 z).2;have e:iN f i=UJ x:=by rw[wM l,q]
 refine⟨?_,λa w=> ?_⟩
 .have:=h.vP i;rw[e] at this;unfold wV UJ at this;rw[jI] at this;exact this
 .have D:(a.bB,a.To.toNat)∈iN f i:=by rw[e];exact aD.2 ⟨a,w,rfl⟩
  have I:=h.go.ft i l _ D;have K:=h.bd i l _ D;have L:=h.nn G w;exact⟨I,L,by simp only at K;omega⟩
def Can.tyr {T F:Nat} {f:FSt} (h:Can T F f) {x:Node} (z:x∈f.ak):0<=x.di/\x.di<(T:Int):=by
 obtain⟨i,w⟩:=jJ.1 z;have l:i<f.ak.length:=(bP.1 w).1;have q:f.ak[i]=x:=(bP.1 w).2;have:=h.go.tp i l;have e:(jj f).ty i=x.di:=by show oB f i=_;rw[uF l,q]
 rwa[e] at this
def AO.sh {F n k N:Nat} {l:List b9} (h:AO F n l) (z:n+k<=N):AO F N (uD k l):=by
 refine⟨?_,λa q=> ?_⟩
 .unfold IA uD;rw[jI];exact h.vP
 .obtain⟨b,w,rfl⟩:=aD.1 q;have:=h.ok b w;exact⟨this.1,by show 0<=b.To+(k:Int);omega,by show b.To+(k:Int)<(N:Int);omega⟩
def Uk {F n k:Nat} {l:List b9} (h:AO F n l):((uD k l).map λa=>(a.bB,a.To.toNat))=(l.map λa=>(a.bB,a.To.toNat)).map λp=>(p.1,p.2+k):=by
 unfold uD;rw[eG,eG];refine gP λa q=> ?_
 have:=(h.ok a q).2;show(a.bB,(a.To+(k:Int)).toNat)=(a.bB,a.To.toNat+k)
 congr 1;omega
def kL {q w:Type} {l:List q} {g:q->w} {i:Nat} {d:w} (h:i<l.length):(l.map g).getD i d=g l[i]:=by rw[bw,dA,aM h];rfl
def Ag {q:Type} {l m:List q} {i:Nat} {d:q} (h:i<l.length):(l++m).getD i d=l.getD i d:=by rw[bw,bw,eU h]
def D0 {q:Type} {l m:List q} {i:Nat} {d:q} (h:l.length<=i):(l++m).getD i d=m.getD (i-l.length) d:=by rw[bw,bw,fP h]
def Can.small {T F:Nat} {f:FSt} (h:Can T F f) (hn:f.ak.length<=1000000) (hF:F<=1000000):∀x∈f.ak,x.bV.length<=1000000/\∀a∈x.bV,0<=a.To/\a.To<=1000000:=λx q=>by have:=h.ao q;exact⟨fO this.len hF,λa l=>by have:=(this.ok a l).2;omega⟩
section
variable {h:aJ} {T F:Nat} {sb:Int->Int->Prop} (H:HM h T sb) {A B:FSt} (hA:Can T F A) (hB:Can T F B) (hF:F<=400) (hn:A.ak.length+B.ak.length<=1000000)
include H hA hB hF hn
theorem Zb:JI T (AO F (A.ak.length+B.ak.length)) sb (q9 A B) (A.ak.length+B.ak.length) [] [] (ids 0 (A.ak.length)++ids (A.ak.length) (B.ak.length)) (A.ak.map (·.di)++B.ak.map (·.di)) ((A.ak.map λx=>uD 0 x.bV)++B.ak.map λx=>uD (A.ak.length) x.bV) id (λ_=>0):=by
 have I:ids 0 (A.ak.length)++ids (A.ak.length) (B.ak.length)=ids 0 (A.ak.length+B.ak.length):=by have:=I5 0 (A.ak.length) (B.ak.length);rwa[eF] at this
 have D:∀x,(q:x<A.ak.length)->((A.ak.map λx=>uD 0 x.bV)++B.ak.map λx=>uD (A.ak.length) x.bV).getD x []=uD 0 A.ak[x].bV:=λx q=>by rw[Ag (by simpa using q),kL q]
 have G:∀x,(q:x<A.ak.length+B.ak.length)->(l:¬x<A.ak.length)->((A.ak.map λx=>uD 0 x.bV)++B.ak.map λx=>uD (A.ak.length) x.bV).getD x []=uD (A.ak.length) (B.ak[x-A.ak.length]'(by omega)).bV:=λx q l=>by
  rw[D0 aH]
  have:x-(A.ak.map λx=>uD 0 x.bV).length=x-A.ak.length:=ai
  rw[this,kL af]
 have w:∀x,(q:x<A.ak.length)->(A.ak.map (·.di)++B.ak.map (·.di)).getD x 0=A.ak[x].di:=λx q=>by rw[Ag (by simpa using q),kL q]
 have z:∀x,(q:x<A.ak.length+B.ak.length)->(l:¬x<A.ak.length)->(A.ak.map (·.di)++B.ak.map (·.di)).getD x 0=(B.ak[x-A.ak.length]'(by omega)).di:=λx q l=>by
  rw[D0 aH]
  have:x-(A.ak.map (·.di)).length=x-A.ak.length:=ai
  rw[this,kL af]
 refine JI.init H.to.refl I ai ai (λx q=> ?_) (λx q=> ?_) (λx q=> ?_) (λx q=> ?_)<;>by_cases l:x<A.ak.length
 .rw[w x l];exact hA.tyr (bU l)
 .rw[z x q l];exact hB.tyr (bU _)
 .rw[D x l];exact(hA.ao (bU l)).sh af
 .rw[G x q l];exact(hB.ao (bU _)).sh af
 .rw[D x l,Uk (hA.ao (bU l)),(BJ l).1,wM l];exact(lJ _).symm
 .rw[G x q l,Uk (hB.ao (bU _)),(BK l).1,wM af];rfl
 .rw[w x l,(BJ l).2,uF l]
 .rw[z x q l,(BK l).2,uF af]
theorem c433:(∃f,f433 h A B=some (f,true)/\RL T F sb A B f)\/(f433 h A B=some (⟨[]⟩,false)/\∀C,Can T F C->Le sb A C->Le sb B C->False):=by
 have G:f442 A.ak h.Types h.bD [] [] []=some ((),ids 0 (A.ak.length),A.ak.map (·.di),A.ak.map λx=>uD 0 x.bV):=by rw[aa7 (fr:=0) rfl rfl rfl af (hA.small af af)];simp
 have I:f442 B.ak h.Types h.bD (ids 0 (A.ak.length)) (A.ak.map (·.di)) (A.ak.map λx=>uD 0 x.bV)=some ((),ids 0 (A.ak.length)++ids (A.ak.length) (B.ak.length),A.ak.map (·.di)++B.ak.map (·.di),(A.ak.map λx=>uD 0 x.bV)++B.ak.map λx=>uD (A.ak.length) x.bV):=
  aa7 (fr:=A.ak.length) (qE _ _) ai ai hn (hB.small af af)
 have q:(A.ak.length+B.ak.length) *F<=400000000:=by have:=nP hn hF;omega
 have K:0<A.ak.length+B.ak.length:=by have:=hA.ne;omega
 have l:A.ak.length<A.ak.length+B.ak.length:=by have:=hB.ne;omega
 rcases c443 H af K l q (Zb H hA hB hF hn) with⟨D,ty,ar,rep,d,z,J⟩|⟨⟨D,ty,ar,z⟩,w⟩
 .obtain⟨N,g⟩:=c444 (TL:=h.Types) (FL:=h.bD) (d:=d) J.la J.lt J.ao J.pi.rl J.pi.rr af hn K J.pi;refine .inl ⟨_,e433 ?_,RW H.to hA hB (J.uni (both_go hA hB).bd)⟩;rw[G,cF,I,cF];have e:(0:Int)=((0:Nat):Int):=rfl;rw[e,z,cF,cond_neg (by rfl),g,cF]
 .refine .inr ⟨e433 ?_,λC L O P=> ?_⟩
  .rw[G,cF,I,cF];have e:(0:Int)=((0:Nat):Int):=rfl;rw[e,z,cF,cond_pos (by rfl)]
  .obtain⟨m,_,Q⟩:=JX hA hB L O P;exact w (jj C) m L.Mk Q
end
end Go.Proofs.YthphfjcnkinkpaaGreatDoor.cl.pf
namespace Go.Proofs.YthphfjcnkinkpaaGreatDoor.cl.pf
open Go Go.AM
def sP (x:b9):List b9->List b9
 |[]=>[x]
 |y::l=>if y.bB<=x.bB then y::sP x l else x::y::l
def Bj (l:List b9):List b9:=l.foldl (λo x=>sP x o) []
def RM (l:List b9):Prop:=l.Pairwise λa b=>a.bB<=b.bB
def KB {x a:b9}:∀{l:List b9},a∈sP x l↔a=x\/a∈l
 |[]=>by simp[sP]
 |y::l=>by
  unfold sP;split
  .rw[aN,KB];grind
  .simp
def KA {x:b9}:∀{l:List b9},(sP x l).length=l.length+1
 |[]=>rfl
 |y::l=>by unfold sP;split<;>simp[KA]
def KC {x:b9}:∀{l:List b9},RM l->RM (sP x l)
 |[],_=>rU _ _
 |y::l,h=>by
  have z:=dN.1 h;unfold sP;split
  .rename_i w;refine dN.2 ⟨λa q=> ?_,KC z.2⟩;rcases KB.1 q with rfl|q
   .exact w
   simp_all
  .refine dN.2 ⟨λa q=> ?_,h⟩;grind
def Kz {x:b9} {w:List b9} (z:∀a∈w,x.bB<a.bB):∀{u:List b9},(∀a∈u,a.bB<=x.bB)->sP x (u++w)=u++[x]++w
 |[],_=>by cases w with
  |nil=>rfl
  |cons y w=>simp_all[sP,az]
 |y::u,l=>by show sP x (y::(u++w))=_;unfold sP;rw[aB (l y ai),Kz z λa q=>l a (by simp[q])];rfl
def qI:∀(l:List b9),RM (Bj l)/\(Bj l).length=l.length/\∀a,a∈Bj l↔a∈l:=by
 intro l;unfold Bj;have key:∀(l o:List _),RM o->RM (l.foldl (λo x=>sP x o) o)/\(l.foldl (λo x=>sP x o) o).length=o.length+l.length/\∀a,a∈l.foldl (λo x=>sP x o) o↔a∈o\/a∈l:=by intro l;induction l with
  |nil=>simp
  |cons x l D=>intro o h;obtain⟨q,w,z⟩:=D _ (KC h);refine⟨q,by rw[gb,w,KA,bz];omega,λa=> ?_⟩;rw[gb,z a,KB];grind
 have:=key l _ List.Pairwise.nil;simp_all
def srt_id {l:List b9} (h:IA l):Bj l=l:=by
 have key:∀(l o:List b9),IA (o++l)->l.foldl (λo x=>sP x o) o=o++l:=by intro l;induction l with
  |nil=>intro o _;simp
  |cons x l w=>
   intro o h;have e:sP x o=o++[x]:=by
    have:=Kz (x:=x) (w:=[]) (λa q=>by cases q) (u:=o) (λa q=>by
     unfold IA at h;rw[rL] at h
     have:=h.2.2 a q x (by simp);omega)
    simpa using this
   rw[gb,e,w (o++[x]) (by simpa using h)];simp
 exact key l [] (by simpa using h)
def Qi {l:List b9} (h:(l.map (·.bB)).Nodup):IA (Bj l):=by
 obtain⟨z,_,G⟩:=qI l;have q:((Bj l).map (·.bB)).Nodup:=by
  have key:∀(l o:List _),((o++l).map (·.bB)).Nodup->((l.foldl (λo x=>sP x o) o).map (·.bB)).Nodup:=by intro l;induction l with
   |nil=>simp
   |cons x l I=>
    have w:∀o:List _,((sP x o).map (·.bB)).Perm ((o++[x]).map (·.bB)):=by intro o;induction o with
     |nil=>rfl
     |cons y o D=>unfold sP;grind
    grind
  exact key l _ (by assumption)
 unfold List.Nodup at q;rw[jI] at q;exact(z.and q).imp λ{a b} h=>by omega
def h463_6 {l:List b9} {i:Nat} {x:b9} {res:List b9} (P:l[i]? =some x) (hl:l.length<=1000000) {o:List b9} (ho:o.length<=1000000) (Q:RM o)
  (S:AK l ((i+1:Nat):Int) (sP x o)=some res):∀(v:Nat),v<=o.length->(∀a∈o.drop v,x.bB<a.bB)->Ju l (i:Int) (v:Int) o=some res:=by
 have V:i<l.length:=(bP.1 P).1;have G:∀(v:Nat),v<=o.length->(∀a∈o.drop v,x.bB<a.bB)->(∀a∈o.take v,a.bB<=x.bB)->
   check (0<=(v:Int)/\(v:Int)<=((o.length:Nat):Int)) (
   check ((length ([]:List b9)+length ((o.take (toNat (v:Int))).drop 0)) *16<=140737488355328/\length ([]:List b9)+length ((o.take (toNat (v:Int))).drop 0)<=4611686018427387904) (
   bq l (i:Int) λq=>
   check ((length (([]:List b9)++((o.take (toNat (v:Int))).drop 0))+length [q]) *16<=140737488355328/\length (([]:List b9)++((o.take (toNat (v:Int))).drop 0))+length [q]<=4611686018427387904) (
   check (0<=(v:Int)/\(v:Int)<=((o.length:Nat):Int)) (
   check ((length ((([]:List b9)++((o.take (toNat (v:Int))).drop 0))++[q])+length ((o.take (length o)).drop (toNat (v:Int)))) *16<=140737488355328/\length ((([]:List b9)++((o.take (toNat (v:Int))).drop 0))++[q])+length ((o.take (length o)).drop (toNat (v:Int)))<=4611686018427387904) (
   AK l (wrap .i64 ((i:Int)+1)) (((([]:List b9)++((o.take (toNat (v:Int))).drop 0))++[q])++((o.take (length o)).drop (toNat (v:Int)))))))))=some res:=by
  intro v L D R;have e:(o.take v++[x])++o.drop v=sP x o:=by have:=Kz (x:=x) D R;rw[nK] at this;exact this.symm
  rw[bW ⟨af,af⟩,aZ,p7,cC _ ai (by rw[fh];omega) af,iI P,dK,cC _ (by rw[fh];omega) ai af,bW ⟨af,af⟩,gp,cC _ aH aH af,e,bM af];exact S
 intro v;induction v with
 |zero=>intro L D;refine X6 ?_;rw[cond_neg (by rfl)];exact G 0 L D (λa w=>by cases w)
 |succ v U=>
  intro L D;refine X6 ?_;have z:v<o.length:=L;rw[cond_pos (by rw[bA];omega),qq af,A3 z,aZ,se z,iI P];by_cases N:x.bB<o[v].bB
  .rw[cond_pos (by rw[bA];exact N)];refine U af λa w=> ?_
   rw[iW z] at w;rcases aN.1 w with rfl|w
   .exact N
   .exact D a w
  .rw[cond_neg (by rw[aS];exact N)];refine G (v+1) L D λa w=> ?_
   rw[c7,aM z] at w;unfold RM at Q;rcases bu.1 w with w|w
   .obtain⟨j,I⟩:=jJ.1 w;rw[oQ] at I;split at I
    .rename_i O;have K:j<o.length:=af;rw[aM K] at I;cases I;have:=nM.1 Q j v K z O;omega
    .cases I
   .simp at w;subst w;omega
def h463 {l:List b9} (D:l.length<=1000000):∀(xs:List b9) (i:Nat) (o:List b9),l.drop i=xs->RM o->o.length<=i->AK l (i:Int) o=some (xs.foldl (λo x=>sP x o) o):=by intro xs;induction xs with
 |nil=>intro i o q _ _;refine X5 ?_;rw[bp q,aA];rfl
 |cons x xs I=>intro i o q z K;have G:=dY q;refine X5 ?_;rw[aT q,au];refine h463_6 (cr q) D af z ?_ o.length (aR _) (λa w=>by rw[rH] at w;cases w);exact I (i+1) (sP x o) (aI q) (KC z) (by rw[KA];omega)
def c463 {l:List b9} (q:l.length<=1000000):f463 l=some (Bj l):=e463 (h463 q l 0 [] rfl List.Pairwise.nil (aR _))
def AB (f:FSt) (n:Nat):List (Int×Nat):=match f.ak[n]? with
 |some x=>(Bj x.bV).map λa=>(a.bB,a.To.toNat)
 |none=>[]
def yA (f:FSt):Gr:=⟨AB f,oB f⟩
def Og (f:FSt):Prop:=∀x∈f.ak,x.bV.length<=1000000/\∀a∈x.bV,0<=a.To/\a.To<(f.ak.length:Int)
theorem yx {f:FSt} {n:Nat} (h:n<f.ak.length):AB f n=(Bj f.ak[n].bV).map λa=>(a.bB,a.To.toNat):=by unfold AB;rw[aM h]
def Qh {f:FSt} (h:Og f):Bd (yA f).sc f.ak.length:=λn hn p l=>by have l:p∈AB f n:=l;rw[yx hn] at l;obtain⟨a,q,rfl⟩:=aD.1 l;have:=(h _ (bU hn)).2 a ((qI _).2.2 a|>.1 q);show a.To.toNat<_;omega
def gL (o:List Nat):List Int:=o.map λ(x:Nat)=>(x:Int)
section
variable {f:FSt} (hf:Og f) (hn:f.ak.length<=1000000)
include hf hn
theorem h455_4 {k:Nat} (ih:∀(x:Nat) (o:List Nat) (num:List Int),x<f.ak.length->x∉o->NO f.ak.length num o->Met f.ak.length o->f.ak.length<k+o.length->
   ∃l,f455 (x:Int) f.ak num (gL o)=some ((),l,gL (nq (AB f) k x o))/\NO f.ak.length l (nq (AB f) k x o)) {as_:List b9} (has:as_.length<=1000000) (Q:∀a∈as_,0<=a.To/\a.To<(f.ak.length:Int)):
  ∀(xs:List b9) (i:Nat) (o:List Nat) (num:List Int),as_.drop i=xs->NO f.ak.length num o->Met f.ak.length o->f.ak.length<k+o.length->
   ∃l,LZ as_ (i:Int) f.ak num (gL o)=some ((),l,gL (sO (AB f) k (xs.map λa=>(a.bB,a.To.toNat)) o))/\NO f.ak.length l (sO (AB f) k (xs.map λa=>(a.bB,a.To.toNat)) o):=by
 intro xs;induction xs with
 |nil=>intro i o num q z _ _;refine⟨num,VP ?_,z⟩;rw[bp q,aA];rfl
 |cons a xs G=>
  intro i o num q z O U;have ha:=Q a (aV (cr q));obtain⟨x,R⟩:=fU ha.1;have w:x<f.ak.length:=af;have S:a.To.toNat=x:=af;have hlt:=dY q;have D:x<num.length:=by rw[z.len];exact w
  simp only[bH,sO,gb,S];by_cases K:x∈o
  .have ev:nq (AB f) k x o=o:=by
    cases k with
    |zero=>rfl
    |succ k=>rw[nq,aB K]
   rw[ev];obtain⟨l,L,N⟩:=G (i+1) o num (aI q) z O U;refine⟨l,VP ?_,N⟩;rw[aT q,au,aK q,R,tU D,z.at_ x w,aB K,cond_neg (by rw[aS];omega),aQ q af];exact L
  .obtain⟨I,f1,N1⟩:=ih x o num w K z O U;have P:=AS (Qh hf) k x o O w;have V:=JA (sc:=AB f) k x o;obtain⟨l,L,N⟩:=G (i+1) _ I (aI q) N1 P af;refine⟨l,VP ?_,N⟩;rw[aT q,au,aK q,R,tU D,z.at_ x w,az K,cond_pos (by rfl),aK q,R,f1,bG,aQ q af];exact L
theorem h455:∀(k x:Nat) (o:List Nat) (num:List Int),x<f.ak.length->x∉o->NO f.ak.length num o->Met f.ak.length o->f.ak.length<k+o.length->
  ∃l,f455 (x:Int) f.ak num (gL o)=some ((),l,gL (nq (AB f) k x o))/\NO f.ak.length l (nq (AB f) k x o):=by
 intro k;induction k with
 |zero=>intro x o num _ _ _ w R;have:=wC w.nd w.lt;omega
 |succ k U=>
  intro x o num z q K w R;have G:x<num.length:=by rw[K.len];exact z
  have S:=wC w.nd w.lt;obtain⟨D,I⟩:=hf _ (bU z);obtain⟨s1,V,s3⟩:=qI f.ak[x].bV;obtain⟨l,O,P⟩:=h455_4 hf hn U (as_:=Bj f.ak[x].bV) (by rw[V];exact D) (λa Q=>I a ((s3 a).1 Q)) (Bj f.ak[x].bV) 0 (o++[x]) (num.set x (o.length:Int)) rfl (K.snoc z q) (w.snoc z q) (by simp only[bQ,c4];omega);have N:nq (AB f) (k+1) x o=sO (AB f) k ((Bj f.ak[x].bV).map λa=>(a.bB,a.To.toNat)) (o++[x]):=by rw[nq,az q,yx z]
  rw[N];refine⟨l,e455 ?_,P⟩;rw[tU G,cC _ (by unfold gL;rw[bf];omega) ai af,cH z,c463 D,aj,aZ];have e:gL o++[(x:Int)]=gL (o++[x]):=by simp[gL]
  have L:((gL o).length:Int)=(o.length:Int):=by simp[gL]
  rw[e,L];exact O
theorem h436_14 {i:Nat} {P Q:FSt} {x:Node} {nd w l:List Node} {num q:List Int} {o:List Nat} (L:NO f.ak.length num o) (h52:w.length<=1000000) {res:FSt}:∀(xs done:List b9),done.length+xs.length<=1000000->(∀a∈xs,0<=a.To/\a.To<(f.ak.length:Int)/\a.To.toNat∈o)->
  G7 (wrap .i64 ((i:Int)+1)) P Q nd (w++[⟨x.di,done++xs.map λa=>⟨a.bB,(o.idxOf a.To.toNat:Nat)⟩⟩]) l num q=some res->
  F2 (i:Int) (done.length:Int) P Q x nd (done++xs) w l num q=some res:=by
 intro xs;induction xs with
 |nil=>intro done O _ z;refine Tk ?_;rw[cond_neg (by rw[aS];simp),cC _ af ai af,eo];rw[ey,eo] at z;exact z
 |cons a xs ih=>
  intro done O D z;simp only[bz] at O;obtain⟨S,h2,K⟩:=D a ai;obtain⟨y,V⟩:=fU S;have G:y<f.ak.length:=af;have I:a.To.toNat=y:=af;rw[I] at K;have N:∀{R:Type} (k:b9->Option R),eC (done++a::xs) done.length k=k a:=λk=>kS ai k
  refine Tk ?_;rw[cond_pos (by rw[bA];simp;omega),A3 ai,aZ,N,V,tU (by rw[L.len];exact G),L.at_ y G,aB K,bW ⟨af,ai⟩,N,bM af,nt _ _ (aR _),kD,nN]
  have:=ih (done++[⟨a.bB,(o.idxOf y:Nat)⟩]) aH (λb U=>D b (by simp[U])) (by
   rw[bH,I] at z
   rw[ee];exact z)
  rw[bQ,c4,ee] at this;exact this
theorem h436_9 {o4:FSt} {nd kA:List Node} {num:List Int} {o:List Nat} (R:NO f.ak.length num o) (G:Met f.ak.length o) (K:∀y∈o,∀p∈AB f y,p.2∈o):
  ∀(xs:List Nat) (i:Nat) (l:List Node),o.drop i=xs->l.length<=i->G7 (i:Int) f o4 nd l kA num (gL o)=some ⟨l++xs.map (Gj (yA f) o)⟩:=by
 have U:=wC G.nd G.lt;intro xs;induction xs with
 |nil=>intro i l q _;refine acU ?_;have S:=mI q;rw[cond_neg (by rw[aS];simp[gL];omega)];simp
 |cons y xs V=>
  intro i l q h52;have w:=dY q;have D:y∈o:=aV (cr q);have z:=G.lt y D;obtain⟨I,O⟩:=hf _ (bU z);obtain⟨s1,s2,s3⟩:=qI f.ak[y].bV;have N:i<(gL o).length:=by simp[gL];exact w
  have L:(gL o).getD i 0=(y:Int):=by unfold gL;rw[kL w];have:=cr q;rw[aM w] at this;rw[fe this]
  refine acU ?_;rw[cond_pos (by rw[bA];omega),tU N,L,cH z,c463 I,aj];have e0:((([]:List b9).length:Nat):Int)=0:=rfl;refine h436_14 hf hn R af (Bj f.ak[y].bV) [] aH (λa Q=> ?_) ?_
  .have P:=O a ((s3 a).1 Q);refine⟨P.1,P.2,K y D (a.bB,a.To.toNat) ?_⟩;rw[yx z];exact aD.2 ⟨a,Q,rfl⟩
  .rw[aQ q af,V (i+1) _ (aI q) aH];have e:Gj (yA f) o y=⟨f.ak[y].di,[]++(Bj f.ak[y].bV).map λa=>⟨a.bB,(o.idxOf a.To.toNat:Nat)⟩⟩:=by
    show(⟨oB f y,(AB f y).map _⟩:Node)=_;rw[uF z,yx z,eG];rfl
   rw[bH,e,ee];rfl
theorem h436_3 {root:Nat} {o4:FSt} {nd kA:List Node} {res:FSt} (D:(eV (f455 (root:Int) nd (replicate f.ak.length (-1)) []) λw l q=>G7 0 f o4 nd ([]:List Node) kA l q)=some res):
  ∀(k i:Nat),f.ak.length=i+k->QJ (root:Int) (i:Int) f o4 nd kA (replicate i (-1)) []=some res:=by
 intro k;induction k with
 |zero=>intro i z;refine acT ?_;have e:i=f.ak.length:=af;subst e;rw[cond_neg (by rw[aS];omega)];exact D
 |succ k G=>intro i z;refine acT ?_;rw[cond_pos (by rw[bA];omega),cC _ aH ai af,bM af,<-vh];exact G (i+1) af
theorem c436 {root:Nat} (l:root<f.ak.length):f436 f (root:Int)=some (kj (yA f) f.ak.length root):=by
 have D:NO f.ak.length (replicate f.ak.length (-1)) []:=⟨ai,λx I=>by rw[az ai,bw,p9,aB I];rfl⟩
 obtain⟨w,q,z⟩:=h455 hf hn (f.ak.length+1) root [] _ l ai D Met.nil ai;have hB:=Qh hf;refine e436 ?_;refine h436_3 hf hn ?_ f.ak.length 0 af
 have:gL ([]:List Nat)=[]:=rfl
 rw[this] at q;rw[q,bG];have g:=h436_9 hf hn (o4:=⟨[]⟩) (nd:=f.ak) (kA:=[]) z (sn (G:=yA f) hB l) (λy K p G=>yX (G:=yA f) hB l K G) _ 0 [] rfl (aR _);exact g
end
end Go.Proofs.YthphfjcnkinkpaaGreatDoor.cl.pf
namespace Go.Proofs.YthphfjcnkinkpaaGreatDoor.cl.pf
open Go Go.AM
def sZ (k:Nat) (x:Node):Node:=⟨x.di,uD k x.bV⟩
def h448_7 {a b:List Node} {i:Nat} {x:Node} (q:b[i]? =some x) {t:Int} {o:List Node} {G:List b9} (I:a.length<=1000000) (N:o.length<=100000000) (L:x.bV.length<=1000000) (w:∀c∈x.bV,0<=c.To/\c.To<=1000000) {res:List Node}:
  ∀(xs:List b9) (k:Nat),x.bV.drop k=xs->LW a b (wrap .i64 ((i:Int)+1)) (o++[⟨t,uD a.length x.bV⟩])=some res->
   QO a b (i:Int) (k:Int) t o G (uD a.length (x.bV.take k))=some res:=by
 intro xs;induction xs with
 |nil=>intro k l z;refine ac2 ?_;rw[iI q,bp l,aA,cC _ af ai af,iG (mI l)];omega
 |cons c xs D=>
  intro k l z;refine ac2 ?_;have K:=w c (aV (cr l));rw[iI q,aT l,au,iI q,aK l,iI q,aK l,cC _ (by grind[uD]) ai af,aQ l af,gi af af];have e:uD a.length (x.bV.take k)++[⟨c.bB,c.To+(a.length)⟩]=uD a.length (x.bV.take (k+1)):=by rw[c7,cr l];simp[uD]
  rw[e];exact D _ (aI l) z
def h448 {a b:List Node} (hn:a.length+b.length<=1000000) (w:∀x∈b,x.bV.length<=1000000/\∀c∈x.bV,0<=c.To/\c.To<=1000000):∀(xs:List Node) (i:Nat) (o:List Node),b.drop i=xs->o.length<=a.length+i->LW a b (i:Int) o=some (o++xs.map (sZ a.length)):=by intro xs;induction xs with
 |nil=>intro i o l _;refine ac1 ?_;grind
 |cons x xs D=>intro i o l G;have q:=w x (aV (cr l));have z:=dY l;refine ac1 ?_;rw[aT l,au,aK l];refine h448_7 (cr l) af af q.1 q.2 _ 0 rfl ?_;rw[aQ l af,D _ _ (aI l) aH];simp[sZ]
def c448 {a b:List Node} (hn:a.length+b.length<=1000000) (l:∀x∈b,x.bV.length<=1000000/\∀c∈x.bV,0<=c.To/\c.To<=1000000):f448 a b=some (a++b.map (sZ a.length)):=by refine e448 ?_;rw[cC _ ai af af];exact h448 hn l b 0 a rfl af
def c449 {n:Nat} (hn:n<=1000000):f449 (n:Int)=some (ids 0 n):=by
 have key:∀(k i),n=i+k->QS (n) (i) (ids 0 i)=some (ids 0 n):=by intro k;induction k with
  |zero=>simp_all[ac3]
  |succ k q=>
   intro i l;refine ac3 ?_;have e:ids 0 i++[(i:Int)]=ids 0 (i+1):=by have:=I5 0 i 1;rw[eF] at this;rw[<-this];rfl
   rw[cC _ (by rw[qE];omega) ai af,bM af];grind
 exact e449 (key n 0 af)
def NW (low high:Int) (l:List Int):List Int:=l.map λx=>if x=high then low else x
def h450 {low high:Int}:∀(xs done:List Int),done.length+xs.length<=1000000->LX low high (done.length:Int) (done++xs)=some (done++NW low high xs):=by intro xs;induction xs with
 |nil=>intro done _;refine ac4 ?_;rw[cond_neg ai];rfl
 |cons x xs z=>
  intro done q;refine ac4 ?_;have l:∀{R:Type} (k:Int->Option R),eC (done++x::xs) done.length k=k x:=λk=>kS ai k
  have w:done++NW low high (x::xs)=(done++[if x=high then low else x])++NW low high xs:=by simp[NW]
  rw[cond_pos (by grind),A3 ai,aZ,bM af];by_cases e:x=high
  .rw[bW ⟨af,ai⟩];grind
  grind
structure AW (F n:Nat) (l:List b9):Prop where
 nd:(l.map (·.bB)).Nodup
 ok:∀a∈l,(0<=a.bB/\a.bB<(F:Int))/\0<=a.To/\a.To<(n:Int)
def IA.nd {l:List b9} (h:IA l):(l.map (·.bB)).Nodup:=by unfold List.Nodup;rw[jI];exact h.imp λh=>by omega
def AO.aw {F n:Nat} {l:List b9} (h:AO F n l):AW F n l:=⟨h.vP.nd,h.ok⟩
def AW.Bj {F n:Nat} {l:List b9} (h:AW F n l):AO F n (Bj l):=⟨Qi h.nd,λa q=>h.ok a ((qI l).2.2 a|>.1 q)⟩
def AW.len {F n:Nat} {l:List b9} (h:AW F n l):l.length<=F:=by have:=h.Bj.len;rwa[(qI l).2.1] at this
def nd_uniq {l:List b9} (h:(l.map (·.bB)).Nodup) {a b:b9} (q:a∈l) (w:b∈l) (e:a.bB=b.bB):a=b:=by induction l with
 |nil=>cases q
 |cons x l z=>grind
def fa (l:List b9) (f:Int):Option b9:=l.find? λa=>a.bB==f
def IZ {l:List b9} {f:Int} {a:b9} (h:fa l f=some a):a∈l/\a.bB=f:=by have q:=nJ h;have w:=pY h;simp_all
def Xw {l:List b9} {f:Int} (h:fa l f=none):∀a∈l,a.bB≠f:=λa q e=>by have:=zH.1 h a q;simp_all
def fr (l:List b9) (f:Int):Int×Bool:=match fa l f with
 |some a=>(a.To,true)
 |none=>(0,false)
def Xz (x:b9) (l:List b9) (f:Int):fr (x::l) f=if x.bB=f then(x.To,true) else fr l f:=by unfold fr fa;grind
def c491 {l:List b9} {f:Int} (z:l.length<=1000000):f491 l f=some (fr l f):=by
 have key:∀(xs) (i),l.drop i=xs->QW l f (i)=some (fr xs f):=by intro xs;induction xs with
  |nil=>intro i q;refine ade ?_;rw[bp q];rfl
  |cons x xs w=>intro i q;refine ade ?_;rw[aT q,aK q,aK q,aQ q af,w _ (aI q),Xz];grind
 exact e491 (key l 0 rfl)
def c476 {f:FSt} {c:Nat} {x:Node} (q:f.ak[c]? =some x) {MA:Int} (z:x.bV.length<=1000000):f476 f (c:Int) MA=some (fr x.bV MA):=by
 have key:∀(xs) (i),x.bV.drop i=xs->QU MA x.bV (i)=some (fr xs MA):=by intro xs;induction xs with
  |nil=>intro i l;refine ac9 ?_;rw[bp l];rfl
  |cons x xs w=>intro i l;refine ac9 ?_;rw[aT l,aK l,aK l,aQ l af,w _ (aI l),Xz];grind
 refine e476 ?_;rw[iI q];grind
def rm (l q:List b9):List b9×List dB:=(l++q.filter λh=>(fa l h.bB).isNone,q.filterMap λh=>(fa l h.bB).map λa=>⟨a.To,h.To⟩)
def rm_ok (q D:List b9):MG q D (rm q D):=by
 refine⟨λa l=> ?_,λa l=>cM _ l,λa l=> ?_,λp I=> ?_,EB _ _⟩
 .exact(bu.1 l).imp id λh=>(cT.1 h).1
 .cases e:fa _ _ with
  |none=>exact⟨a,gz _ (cT.2 ⟨l,by rw[e];rfl⟩),rfl, .inl rfl⟩
  |some b=>obtain⟨w,z⟩:=IZ e;exact⟨b,cM _ w,z, .inr (e8.2 ⟨a,l,by rw[e];rfl⟩)⟩
 .obtain⟨h,K,e⟩:=e8.1 I;cases G:fa q h.bB with
  |none=>simp_all
  |some b=>obtain⟨w,z⟩:=IZ G;grind
def rm_aw {F n:Nat} {l D:List b9} (q:AW F n l) (w:AW F n D):AW F n (rm l D).1:=by
 refine⟨?_,λa z=>((rm_ok _ _).sub a z).elim (q.ok a) (w.ok a)⟩;show((l++_).map _).Nodup;rw[cE,jq];refine⟨q.nd,?_,λx G y I e=> ?_⟩
 .exact(zL.map _).nodup w.nd
 .obtain⟨a,z,rfl⟩:=aD.1 G;obtain⟨b,K,rfl⟩:=aD.1 I;simp_all[fa]
section
variable {n:Nat} {out:List Int} {ar:List (List b9)}
def h451_23 {i:Nat} {z G:Nat} (D:z<ar.length) (w:G<ar.length) (I:(ar.getD z []).length<=1000000) (O:(ar.getD G []).length<=1000000) {res:List Int}:∀(xs:List b9) (k:Nat) (l:List dB) (both:List b9),(ar.getD G []).drop k=xs->l.length+xs.length<=1000000000->both.length+xs.length<=2000000->
  tH (wrap .i64 ((i:Int)+1)) (l++xs.filterMap λh=>(fa (ar.getD z []) h.bB).map λa=>⟨a.To,h.To⟩) out (ar.set z (both++xs.filter λh=>(fa (ar.getD z []) h.bB).isNone))=some res->
  F4 (i:Int) (z:Int) (G:Int) (k:Int) l out ar both=some res:=by
 intro xs;induction xs with
 |nil=>intro k l both q _ _ P;refine X0 ?_;rw[rdL w,bp q,rdL D];simp_all
 |cons x xs K=>intro k l both q L N P;simp at L N;refine X0 ?_;rw[rdL w,aT q,au,rdL w,aK q,rdL D,c491 I,aj,aQ q af];unfold fr;cases e:fa _ _ with
  |none=>rw[cond_neg (by rfl),cC _ af ai af];refine K _ _ _ (aI q) af aH ?_;simp_all
  |some a=>rw[cond_pos (by rfl),cC _ af ai af];refine K _ _ _ (aI q) aH af ?_;simp_all
def h451_17 {i:Nat} {q l:Nat} {todo:List dB} (w:q<ar.length) (z:l<ar.length) (D:(ar.getD q []).length<=1000000) (G:(ar.getD l []).length<=1000000) (O:todo.length<=500000000) {res:List Int}:∀(xs done:List Int),done.length+xs.length<=1000000->
  tH (wrap .i64 ((i:Int)+1)) (todo++(rm (ar.getD q []) (ar.getD l [])).2) (done++NW q l xs) (ar.set q (rm (ar.getD q []) (ar.getD l [])).1)=some res->
  AJ (i:Int) (q:Int) (l:Int) (done.length:Int) todo (done++xs) ar=some res:=by
 intro xs;induction xs with
 |nil=>intro done I K;refine XZ ?_;rw[cond_neg ai,rdL w,cC _ ai af af,dK];exact h451_23 w z D G (ar.getD l []) 0 todo _ rfl af af K
 |cons x xs P=>
  intro done I K;simp at I;refine XZ ?_;have L:∀{R:Type} (k:Int->Option R),eC (done++x::xs) done.length k=k x:=λk=>kS ai k
  have N:done++NW q l (x::xs)=(done++[if x=(l) then(q:Int) else x])++NW q l xs:=by simp[NW]
  rw[cond_pos (by grind),A3 ai,aZ,L,bM af];by_cases e:x=(l)
  .rw[bW ⟨af,ai⟩];grind
  grind
end
def PI.ym {n:Nat} {out:List Int} {rep:Nat->Nat} (z:out.length=n) (D:∀x,x<n->out.getD x 0=(rep x:Nat)) (q:∀x,x<n->rep x<n) (w:∀x,x<n->rep (rep x)=rep x):PI n out rep (λx=>if rep x=x then 0 else 1):=by
 refine⟨z,λx l=>⟨_,q x l,D x l,w x l,?_⟩,λx l=> ?_,q,w⟩
 .grind
 grind
def Yv {low high:Int} {l:List Int} {x:Nat} (q:x<l.length):(NW low high l).getD x 0=if l.getD x 0=high then low else l.getD x 0:=by simp_all[NW]
abbrev sbT:Int->Int->Prop:=λ_ _=>True
def h451_11 {F n:Nat} {U:Gr} {W:List (Nat×Nat)} {ty:List Int} (hn:n<=1000000) (hF:F<=1000000):∀(c k i:Nat) (w:List dB) (out:List Int) (ar:List (List b9)) (rep d:Nat->Nat),
  cnt n rep<=c->w.length-i<=k->i<=w.length->w.length+cnt n rep *F<=400000000->(∀x,x<n->out.getD x 0=(rep x:Nat))->JI 1 (AW F n) sbT U n W (w.drop i) out ty ar rep d->
  ∃z G D O,tH (i:Int) w out ar=some z/\(∀x,x<n->z.getD x 0=(D x:Nat))/\∃ty',JI 1 (AW F n) sbT U n W [] z ty' G D O:=by
 intro c;induction c using Nat.strongRecOn generalizing ty with
 |ind c ihc=>
 intro k;induction k with
 |zero=>intro i w out ar rep d hc hk hi hb S J;have e:i=w.length:=af;subst e;rw[rH] at J;exact⟨out,ar,rep,d,XY (by rw[cond_neg (by rw[aS];omega)]),S,ty,J⟩
 |succ k ihk=>
  intro i w out ar rep d hc hk hi hb S J;by_cases hlt:i<w.length
  .have hd:w.drop i=w[i]::w.drop (i+1):=iW hlt;generalize hp:w[i]=p at hd;have J:=J.mem (wt':=w.drop (i+1)++[p]) (λq=>by grind);obtain⟨⟨p1,p2⟩,p3,p4⟩:=J.wo p ai;obtain⟨I,hx0⟩:=fU p1;obtain⟨K,hx1⟩:=fU p3;have L:I<n:=af;have N:K<n:=af;have r0:p.a0.toNat=I:=af;have r1:p.a1.toNat=K:=af;have hol:out.length=n:=J.pi.len;have hg:∀{R:Type} (kk:dB->Option R),check (0<=(i:Int)/\toNat (i:Int)<w.length) (eC w (toNat (i:Int)) kk)=kk p:=λkk=>by
    rw[A3 hlt,aZ,se hlt,hp]
   have step:∀(r:List Int),(bif((if((rep K:Nat):Int)<((rep I:Nat):Int) then((rep K:Nat):Int) else((rep I:Nat):Int))==(if((rep K:Nat):Int)>((rep I:Nat):Int) then((rep K:Nat):Int) else((rep I:Nat):Int))) then tH ((i+1:Nat):Int) w out ar
     else AJ (i:Int) (if((rep K:Nat):Int)<((rep I:Nat):Int) then((rep K:Nat):Int) else((rep I:Nat):Int)) (if((rep K:Nat):Int)>((rep I:Nat):Int) then((rep K:Nat):Int) else((rep I:Nat):Int)) 0 w out ar)=some r->tH (i:Int) w out ar=some r:=by
    intro r hr;refine XY ?_;rw[cond_pos (by rw[bA];omega),hg,hx0,tU af,S I L,hg,hx1,tU af,S K N,hg,hx0,tU af,S I L,hg,hx1,tU af,S K N,bM af];exact hr
   by_cases P:rep I=rep K
   .have J3:=J.skip (by rw[r0,r1];exact P);obtain⟨z,G,D,O,g1,g2,g3⟩:=ihk (i+1) w out ar rep d hc af af hb S J3;exact⟨z,G,D,O,step _ (by rw[P,cond_pos ai];exact g1),g2,g3⟩
   ·
    have fin:∀(a b:Nat),a≠b->a<n->b<n->∀(q:dB),rep q.a0.toNat=a->rep q.a1.toNat=b->JI 1 (AW F n) sbT U n W (w.drop (i+1)++[q]) out ty ar rep d->
      ∃z G D O,AJ (i:Int) (a:Int) (b:Int) 0 w out ar=some z/\(∀x,x<n->z.getD x 0=(D x:Nat))/\∃ty',JI 1 (AW F n) sbT U n W [] z ty' G D O:=by
     intro a b hab V hbn q hqa hqb Q;have hal:a<ar.length:=by rw[Q.la];exact V
     have hbl:b<ar.length:=by rw[Q.la];exact hbn
     have la:=(Q.ao _ V).len;have lb:=(Q.ao _ hbn).len;have M:=rm_ok (ar.getD a []) (ar.getD b []);have Jm:=Q.merge hqa hqb hab (λl hl c hc=>(hl.ok c hc).2) (λ_ _=>trivial) M (rm_aw (Q.ao _ V) (Q.ao _ hbn)) (t:=0) ⟨af,af⟩ trivial trivial (λ_ _ _=>trivial);have hcm:=M9 Q hqa hqb hab;have ho':∀x,x<n->(NW a b out).getD x 0=(((λx=>if rep x=b then a else rep x) x:Nat):Int):=λx hx=>by
      rw[Yv af,S x hx];show _=(((if rep x=b then a else rep x):Nat):Int)
      by_cases e:rep x=b
      .rw[aB af,aB e]
      .rw[az af,az e]
     have J3:=Jm.rF (PI.ym (out:=NW a b out) (by unfold NW;rw[bf];exact hol) ho' Jm.pi.rl Jm.pi.rr);have hmul:(cnt n (λx=>if rep x=b then a else rep x)+1) *F<=cnt n rep *F:=jR F hcm;rw[mY] at hmul;have hml:=M.le;have e3:w.drop (i+1)++(rm (ar.getD a []) (ar.getD b [])).2=(w++(rm (ar.getD a []) (ar.getD b [])).2).drop (i+1):=by grind
     rw[e3] at J3;obtain⟨z,G,D,O,g1,g2,g3⟩:=ihc _ (fG (Nat.lt_of_succ_le hcm) hc) (w++(rm (ar.getD a []) (ar.getD b [])).2).length (i+1) (w++(rm (ar.getD a []) (ar.getD b [])).2) _ _ _ _ (aR _) af (by grind) (by grind) ho' J3;refine⟨z,G,D,O,?_,g2,g3⟩;have:=h451_17 (i:=i) (todo:=w) (ar:=ar) (res:=z) hal hbl af af af out [] aH (by rw[bM af,dK];omega);exact this
    by_cases hlt2:rep K<rep I
    .obtain⟨z,G,D,O,g1,g2,g3⟩:=fin (rep K) (rep I) (λe=>P e.symm) (J.pi.rl _ N) (J.pi.rl _ L) ⟨p.a1,p.a0⟩ (by show rep p.a1.toNat=_;rw[r1]) (by show rep p.a0.toNat=_;rw[r0]) J.swap;refine⟨_,_,_,O,step _ ?_,g2,g3⟩;have e1:(if((rep K):Int)<((rep I)) then((rep K):Int) else((rep I)))=((rep _)):=aB af;have e2:(if((rep K):Int)>((rep I)) then((rep K):Int) else((rep I)))=((rep _)):=az af;rw[e1,e2,cond_neg (by rw[lM];omega)];exact g1
    .obtain⟨z,G,D,O,g1,g2,g3⟩:=fin _ _ P (J.pi.rl _ L) (J.pi.rl _ N) p (by rw[r0]) (by rw[r1]) J;grind
  grind
def h451_5 {l:List Node} {q a:Nat} (R:l.length<=1000000) (N:q<=a) (L:a<l.length) {out:List Int} {res:List Int} (P:tH 0 (if q=a then[] else[⟨a,q⟩]) out (l.map (·.bV))=some res):
  ∀(k i:Nat),l.length=i+k->LY l (NW q a (ids 0 l.length)) (i:Int) (if a<i then(if q=a then[] else[⟨a,q⟩]) else[]) out ((l.take i).map (·.bV)++replicate k [])=some res:=by
 intro k;induction k with
 |zero=>intro i O;refine ac5 ?_;have e:i=l.length:=af;subst e;rw[cond_neg (by rw[aS];omega),aB L,gp,vg,eo];exact P
 |succ k Q=>
  intro i O;have w:i<l.length:=af;refine ac5 ?_;have I:i<(NW (q:Int) (a:Int) (ids 0 l.length)).length:=by unfold NW;rw[bf,qE];exact w
  have G:(NW (q:Int) (a:Int) (ids 0 l.length)).getD i default=if i=a then(q:Int) else(i:Int):=by
   show List.getD _ _ 0=_;rw[Yv (by rw[qE];exact w),Ky w];by_cases e:i=a
   .rw[aB af,aB e]
   .rw[az af,az e]
  have D:i<((l.take i).map (·.bV)++replicate (k+1) ([]:List b9)).length:=aH;have K:((l.take i).map (·.bV)++replicate (k+1) ([]:List b9)).set i l[i].bV=(l.take (i+1)).map (·.bV)++replicate k []:=by
   rw[nt _ _ aH,c7,aM w]
   have:i-((l.take i).map (·.bV)).length=0:=aH
   rw[this,oR,nN,cE];simp
  rw[cond_pos (by rw[bA];omega),cH w,rdL D,vv I,G,aZ,K,bM af];have:=Q (i+1) af;by_cases e:i=a
  .subst e;rw[aB af] at this;rw[aB rfl,az (rP _)];by_cases z:q=i
   .rw[cond_neg (by simp[z])];rw[aB z] at this;exact this
   .rw[cond_pos (by rw[nG];omega),vv I,G,aB rfl,cC _ ai ai af];rw[az z] at this;exact this
  .rw[az e,cond_neg ai];have z:(if a<i+1 then(if q=a then[] else[(⟨(a:Int),(q:Int)⟩:dB)]) else[])=if a<i then(if q=a then[] else[⟨(a:Int),(q:Int)⟩]) else[]:=by
    by_cases h:a<i
    .rw[aB h,aB af]
    .rw[az h,az af]
   rw[z] at this;exact this
def lG (l:List Node):Gr:=⟨λx=>((l.map (·.bV)).getD x []).map λa=>(a.bB,a.To.toNat),λx=>(l.map (·.di)).getD x 0⟩
def lG0 (l:List Node):Gr:=⟨(lG l).sc,λ_=>0⟩
def c451 {F:Nat} {l:List Node} {lo a:Nat} (z:l.length<=1000000) (hF:F<=100000) (S:l.length *F<=300000000) (w:lo<=a) (G:a<l.length) (hA:∀x∈l,AW F l.length x.bV):
  ∃out ty ar rep d,f451 l (NW lo a (ids 0 l.length))=some out/\(∀x,x<l.length->out.getD x 0=(rep x:Nat))/\JI 1 (AW F l.length) sbT (lG0 l) l.length [(lo,a)] [] out ty ar rep d:=by
 have K:JI 1 (AW F l.length) sbT (lG0 l) l.length [] [] (ids 0 l.length) (replicate l.length 0) (l.map (·.bV)) id (λ_=>0):=by
  have I:∀x,x<l.length->(replicate l.length (0:Int)).getD x 0=0:=λx q=>by rw[bw,p9,aB q];rfl
  refine JI.init (λ_ _=>trivial) rfl ai ai (λx q=> ?_) (λx q=> ?_) (λx q=>rfl) (λx q=>(I x q).symm)
  .rw[I x q];omega
  .rw[kL q];exact hA _ (bU q)
 have L:=K.start (a:=lo) (b:=a) af G;have D:=JI.swap (wt:=[]) L;have N:JI 1 (AW F l.length) sbT (lG0 l) l.length [(lo,a)] (if lo=a then[] else[⟨(a:Int),(lo:Int)⟩]) (ids 0 l.length) (replicate l.length 0) (l.map (·.bV)) id (λ_=>0):=by
  by_cases e:lo=a
  .rw[aB e];exact JI.skip D (by simp[e])
  .rw[az e];exact D
 have R:=abi l.length id;have U:cnt l.length id *F<=l.length *F:=jR F R;have V:(if lo=a then[] else[(⟨(a:Int),(lo:Int)⟩:dB)]).length<=1:=by split<;>simp
 obtain⟨out,ar,rep,d,O,P,ty,Q⟩:=h451_11 z af (cnt l.length id) 1 0 (if lo=a then[] else[⟨(a:Int),(lo:Int)⟩]) (ids 0 l.length) (l.map (·.bV)) id _ (aR _) af af af (λx q=>Ky q) N;refine⟨out,ty,ar,rep,d,?_,P,Q⟩;refine e451 ?_;rw[c449 z,aj,bW ⟨af,by omega,by omega,af⟩,aZ];have:=h451_5 z w G O l.length 0 af;rw[az af,zQ,ey,dK] at this;exact this
def c450 {n x y:Nat} (hn:n<=1000000) (w:x<n) (D:y<n):f450 (ids 0 n) x y=some (NW (min x y:Nat) (max x y:Nat) (ids 0 n)):=by
 have l:∀{R:Type} {z:Nat} (q:Int->Option R),z<n->bq (ids 0 n) (z:Int) q=q z:=λq G=>by rw[vv (by rw[qE];exact G)];exact aP q (Ky G)
 refine e450 ?_;rw[l _ w,l _ D,l _ w,l _ D,cC _ ai (by rw[qE];omega) af,dK];have e1:(if(y:Int)<(x:Int) then(y:Int) else(x:Int))=((min x y:Nat):Int):=by split<;>omega
 have I:(if(y:Int)>(x:Int) then(y:Int) else(x:Int))=((max x y:Nat):Int):=by split<;>omega
 rw[e1,I];exact h450 (ids 0 n) [] (by rw[qE];simp;omega)
