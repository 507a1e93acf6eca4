/- The canonical form (the reference's). -/
import Derived.Test.YtacapiamkgkkjaaGreatDoorClXg
set_option linter.all false
open Go.IntKind (wrap)
open Int (toNat)
open List (length replicate)
namespace Go.Proofs.YtacapiamkgkkjaaGreatDoor.cl.pf
open Go Go.AM
def uc (x:cB):List cB->List cB
 |[]=>[x]
 |y::l=>if y.bM<=x.bM then y::uc x l else x::y::l
def LX (l:List cB):List cB:=l.foldl (λo x=>uc x o) []
def Ni (l:List cB):Prop:=l.Pairwise λa b=>a.bM<=b.bM
def JE {x a:cB}:∀{l:List cB},a∈uc x l↔a=x\/a∈l
 |[]=>by simp[uc]
 |y::l=>by
  unfold uc;split
  .rw[aI,JE,aI];constructor
   .rintro (h|h|h)
    .exact .inr (.inl h)
    .exact .inl h
    .exact .inr (.inr h)
   .rintro (h|h|h)
    .exact .inr (.inl h)
    .exact .inl h
    .exact .inr (.inr h)
  .simp
def JD {x:cB}:∀{l:List cB},(uc x l).length=l.length+1
 |[]=>rfl
 |y::l=>by unfold uc;split<;>simp[JD]
def JF {x:cB}:∀{l:List cB},Ni l->Ni (uc x l)
 |[],_=>uR _ _
 |y::l,h=>by
  have w:=dO.1 h;unfold uc;split
  .rename_i z;refine dO.2 ⟨λa q=> ?_,JF w.2⟩;rcases JE.1 q with rfl|q
   .exact z
   .exact w.1 a q
  .rename_i B;refine dO.2 ⟨λa q=> ?_,h⟩;rcases aI.1 q with rfl|q
   .omega
   .have:=w.1 a q;omega
def RH {x:cB} {w:List cB} (q:∀a∈w,x.bM<a.bM):∀{u:List cB},(∀a∈u,a.bM<=x.bM)->uc x (u++w)=u++[x]++w
 |[],_=>by cases w with
  |nil=>rfl
  |cons y w=>show uc x (y::w)=_;unfold uc;rw[aA (by have:=q y (by simp);omega)];rfl
 |y::u,l=>by show uc x (y::(u++w))=_;unfold uc;rw[aB (l y ai),RH q λa z=>l a (by simp[z])];rfl
def wX:∀(l:List cB),Ni (LX l)/\(LX l).length=l.length/\∀a,a∈LX l↔a∈l:=by
 intro l;unfold LX;have key:∀(l o:List cB),Ni o->Ni (l.foldl (λo x=>uc x o) o)/\(l.foldl (λo x=>uc x o) o).length=o.length+l.length/\∀a,a∈l.foldl (λo x=>uc x o) o↔a∈o\/a∈l:=by intro l;induction l with
  |nil=>intro o h;exact⟨h,rfl,λa=>by simp⟩
  |cons x l B=>
   intro o h;obtain⟨q,w,z⟩:=B (uc x o) (JF h);refine⟨q,by rw[fO,w,JD,bw];omega,λa=> ?_⟩;rw[fO,z a,JE,aI];constructor
   .rintro ((h|h)|h)
    .exact .inr (.inl h)
    .exact .inl h
    .exact .inr (.inr h)
   .rintro (h|h|h)
    .exact .inl (.inr h)
    .exact .inl (.inl h)
    .exact .inr h
 have:=key l [] List.Pairwise.nil;exact⟨this.1,by simpa using this.2.1,λa=>by simpa using this.2.2 a⟩
def Xf {l:List cB} (h:(l.map (·.bM)).Nodup):DK (LX l):=by
 obtain⟨B,_,F⟩:=wX l;have w:((LX l).map (·.bM)).Nodup:=by
  unfold LX;have key:∀(l o:List cB),((o++l).map (·.bM)).Nodup->((l.foldl (λo x=>uc x o) o).map (·.bM)).Nodup:=by intro l;induction l with
   |nil=>intro o h;simpa using h
   |cons x l D=>
    intro o h;rw[fO];refine D _ ?_;have q:∀o:List cB,((uc x o).map (·.bM)).Perm ((o++[x]).map (·.bM)):=by intro o;induction o with
     |nil=>exact List.Perm.refl _
     |cons y o z=>
      unfold uc;split
      .simp only[bu,fS];exact List.Perm.cons _ z
      .simp only[bu,fS]
       have:((y::o)++[x]).map (λa:cB=>a.bM)=(y::o).map (λa:cB=>a.bM)++[x.bM]:=ai
       simp only[bu,fS] at this;rw[this];exact(List.perm_append_singleton x.bM (y.bM::o.map λa=>a.bM)).symm
    have:((o++x::l).map (·.bM))=(o++[x]).map (·.bM)++l.map (·.bM):=ai
    rw[this] at h;rw[bZ];exact((q o).append_right _).nodup_iff.2 h
  exact key l [] (by simpa using h)
 unfold DK;unfold Ni at B;unfold List.Nodup at w;rw[kK] at w;exact(B.and w).imp λ{a b} h=>by have:=h.1;have:=h.2;omega
def h463_6 {l:List cB} {i:Nat} {x:cB} {res:List cB} (L:l[i]? =some x) (S:l.length<=1000000) {o:List cB} (U:o.length<=1000000) (N:Ni o)
  (P:zI l ((i+1:Nat):Int) (uc x o)=some res):∀(v:Nat),v<=o.length->(∀a∈o.drop v,x.bM<a.bM)->Iy l (i:Int) (v:Int) o=some res:=by
 have R:i<l.length:=(bP.1 L).1;have D:∀(v:Nat),v<=o.length->(∀a∈o.drop v,x.bM<a.bM)->(∀a∈o.take v,a.bM<=x.bM)->
   check (0<=(v:Int)/\(v:Int)<=((o.length:Nat):Int)) (
   check ((length ([]:List cB)+length ((o.take (toNat (v:Int))).drop 0)) *16<=140737488355328/\length ([]:List cB)+length ((o.take (toNat (v:Int))).drop 0)<=4611686018427387904) (
   bB l (i:Int) λq=>
   check ((length (([]:List cB)++((o.take (toNat (v:Int))).drop 0))+length [q]) *16<=140737488355328/\length (([]:List cB)++((o.take (toNat (v:Int))).drop 0))+length [q]<=4611686018427387904) (
   check (0<=(v:Int)/\(v:Int)<=((o.length:Nat):Int)) (
   check ((length ((([]:List cB)++((o.take (toNat (v:Int))).drop 0))++[q])+length ((o.take (length o)).drop (toNat (v:Int)))) *16<=140737488355328/\length ((([]:List cB)++((o.take (toNat (v:Int))).drop 0))++[q])+length ((o.take (length o)).drop (toNat (v:Int)))<=4611686018427387904) (
   zI l (wrap .i64 ((i:Int)+1)) (((([]:List cB)++((o.take (toNat (v:Int))).drop 0))++[q])++((o.take (length o)).drop (toNat (v:Int)))))))))=some res:=by
  intro v H B O;have e:(o.take v++[x])++o.drop v=uc x o:=by have:=RH (x:=x) B O;rw[nQ] at this;exact this.symm
  rw[bU ⟨af,af⟩,aV,nT,cH _ ai (by rw[fC];omega) af,iS L,dS,cH _ (by rw[fC];omega) ai af,bU ⟨af,af⟩,gw,cH _ aH aH af,e,bQ af];exact P
 intro v;induction v with
 |zero=>intro H B;refine WG ?_;rw[cond_neg (by rfl)];exact D 0 H B (λa w=>by cases w)
 |succ v Q=>
  intro H B;refine WG ?_;have z:v<o.length:=H;rw[cond_pos (by rw[bz];omega),oA af,AY z,aV,u9 z,iS L];by_cases I:x.bM<o[v].bM
  .rw[cond_pos (by rw[bz];exact I)];refine Q af λa w=> ?_
   rw[jg z] at w;rcases aI.1 w with rfl|w
   .exact I
   .exact B a w
  .rw[cond_neg (by rw[aS];exact I)];refine D (v+1) H B λa w=> ?_
   rw[dr,aN z] at w;unfold Ni at N;rcases bA.1 w with w|w
   .obtain⟨j,F⟩:=jJ.1 w;rw[oP] at F;split at F
    .rename_i K;have G:j<o.length:=af;rw[aN G] at F;cases F;have:=nR.1 N j v G z K;omega
    .cases F
   .simp at w;subst w;omega
def h463 {l:List cB} (B:l.length<=1000000):∀(xs:List cB) (i:Nat) (o:List cB),l.drop i=xs->Ni o->o.length<=i->zI l (i:Int) o=some (xs.foldl (λo x=>uc x o) o):=by intro xs;induction xs with
 |nil=>intro i o q _ _;refine WE ?_;rw[bp q,au];rfl
 |cons x xs F=>intro i o q z G;have D:=eC q;refine WE ?_;rw[aT q,aj];refine h463_6 (cn q) B af z ?_ o.length (aW _) (λa w=>by rw[rA] at w;cases w);exact F (i+1) (uc x o) (aJ q) (JF z) (by rw[JD];omega)
def c463 {l:List cB} (q:l.length<=1000000):f463 l=some (LX l):=e463 (h463 q l 0 [] rfl List.Pairwise.nil (aW _))
def LV (f:FSt) (n:Nat):List (Int×Nat):=match f.az[n]? with
 |some x=>(LX x.cu).map λa=>(a.bM,a.To.toNat)
 |none=>[]
def srG (f:FSt):Gr:=⟨LV f,sU f⟩
def Tm (f:FSt):Prop:=∀x∈f.az,x.cu.length<=1000000/\∀a∈x.cu,0<=a.To/\a.To<(f.az.length:Int)
def O6 {f:FSt} {n:Nat} (h:n<f.az.length):LV f n=(LX f.az[n].cu).map λa=>(a.bM,a.To.toNat):=by unfold LV;rw[aN h]
def acM {f:FSt} (h:Tm f):Bd (srG f).sc f.az.length:=λn hn p l=>by have l:p∈LV f n:=l;rw[O6 hn] at l;obtain⟨a,q,rfl⟩:=aD.1 l;have:=(h _ (cG hn)).2 a ((wX _).2.2 a|>.1 q);show a.To.toNat<_;omega
def iT (o:List Nat):List Int:=o.map λ(x:Nat)=>(x:Int)
section
variable {f:FSt} (hf:Tm f) (hn:f.az.length<=1000000)
include hf hn
theorem h455_4 {k:Nat} (ih:∀(x:Nat) (o:List Nat) (num:List Int),x<f.az.length->x∉o->NO f.az.length num o->Met f.az.length o->f.az.length<k+o.length->
   ∃l,f455 (x:Int) f.az num (iT o)=some ((),l,iT (nx (LV f) k x o))/\NO f.az.length l (nx (LV f) k x o)) {as_:List cB} (has:as_.length<=1000000) (N:∀a∈as_,0<=a.To/\a.To<(f.az.length:Int)):
  ∀(xs:List cB) (i:Nat) (o:List Nat) (num:List Int),as_.drop i=xs->NO f.az.length num o->Met f.az.length o->f.az.length<k+o.length->
   ∃l,K2 as_ (i:Int) f.az num (iT o)=some ((),l,iT (sC (LV f) k (xs.map λa=>(a.bM,a.To.toNat)) o))/\NO f.az.length l (sC (LV f) k (xs.map λa=>(a.bM,a.To.toNat)) o):=by
 intro xs;induction xs with
 |nil=>intro i o num q z _ _;refine⟨num,Us ?_,z⟩;rw[bp q,au];rfl
 |cons a xs D=>
  intro i o num q z K Q;have ha:=N a (bf (cn q));obtain⟨x,O⟩:=fU ha.1;have w:x<f.az.length:=af;have P:a.To.toNat=x:=af;have hlt:=eC q;have B:x<num.length:=by rw[z.len];exact w
  simp only[bu,sC,fO,P];by_cases G:x∈o
  .have U:nx (LV f) k x o=o:=by
    cases k with
    |zero=>rfl
    |succ k=>rw[nx,aB G]
   rw[U];obtain⟨l,H,I⟩:=D (i+1) o num (aJ q) z K Q;refine⟨l,Us ?_,I⟩;rw[aT q,aj,aP q,O,sG B,z.at_ x w,aB G,cond_neg (by rw[aS];omega),aQ q af];exact H
  .obtain⟨F,V,S⟩:=ih x o num w G z K Q;have L:=zQ (acM hf) k x o K w;have R:=II (sc:=LV f) k x o;obtain⟨l,H,I⟩:=D (i+1) _ F (aJ q) S L af;refine⟨l,Us ?_,I⟩;rw[aT q,aj,aP q,O,sG B,z.at_ x w,aA G,cond_pos (by rfl),aP q,O,V,bg,aQ q af];exact H
theorem h455:∀(k x:Nat) (o:List Nat) (num:List Int),x<f.az.length->x∉o->NO f.az.length num o->Met f.az.length o->f.az.length<k+o.length->
  ∃l,f455 (x:Int) f.az num (iT o)=some ((),l,iT (nx (LV f) k x o))/\NO f.az.length l (nx (LV f) k x o):=by
 intro k;induction k with
 |zero=>intro x o num _ _ _ w O;have:=x4 w.nd w.lt;omega
 |succ k Q=>
  intro x o num z q G w O;have D:x<num.length:=by rw[G.len];exact z
  have P:=x4 w.nd w.lt;obtain⟨B,F⟩:=hf _ (cG z);obtain⟨U,R,S⟩:=wX f.az[x].cu;obtain⟨l,K,L⟩:=h455_4 hf hn Q (as_:=LX f.az[x].cu) (by rw[R];exact B) (λa N=>F a ((S a).1 N)) (LX f.az[x].cu) 0 (o++[x]) (num.set x (o.length:Int)) rfl (G.snoc z q) (w.snoc z q) (by simp only[cM,c8];omega);have I:nx (LV f) (k+1) x o=sC (LV f) k ((LX f.az[x].cu).map λa=>(a.bM,a.To.toNat)) (o++[x]):=by rw[nx,aA q,O6 z]
  rw[I];refine⟨l,e455 ?_,L⟩;rw[sG D,cH _ (by unfold iT;rw[bC];omega) ai af,cQ z,c463 B,ak,aV];have e:iT o++[(x:Int)]=iT (o++[x]):=by simp[iT]
  have H:((iT o).length:Int)=(o.length:Int):=by simp[iT]
  rw[e,H];exact K
theorem h436_14 {i:Nat} {L N:FSt} {x:Node} {nd w l:List Node} {num q:List Int} {o:List Nat} (H:NO f.az.length num o) (h52:w.length<=1000000) {res:FSt}:∀(xs done:List cB),done.length+xs.length<=1000000->(∀a∈xs,0<=a.To/\a.To<(f.az.length:Int)/\a.To.toNat∈o)->
  Gp (wrap .i64 ((i:Int)+1)) L N nd (w++[⟨x.ee,done++xs.map λa=>⟨a.bM,(o.idxOf a.To.toNat:Nat)⟩⟩]) l num q=some res->
  Fg (i:Int) (done.length:Int) L N x nd (done++xs) w l num q=some res:=by
 intro xs;induction xs with
 |nil=>intro done K _ z;refine RR ?_;rw[cond_neg (by rw[aS];simp),cH _ af ai af,dN];rw[eY,dN] at z;exact z
 |cons a xs S=>
  intro done K B z;simp only[bw] at K;obtain⟨O,U,G⟩:=B a ai;obtain⟨y,Q⟩:=fU O;have D:y<f.az.length:=af;have F:a.To.toNat=y:=af;rw[F] at G;have I:∀{R:Type} (k:cB->Option R),eH (done++a::xs) done.length k=k a:=λk=>kZ ai k
  refine RR ?_;rw[cond_pos (by rw[bz];simp;omega),AY ai,aV,I,Q,sG (by rw[H.len];exact D),H.at_ y D,aB G,bU ⟨af,ai⟩,I,bQ af,pS _ _ (aW _),nK,rM]
  have:=S (done++[⟨a.bM,(o.idxOf y:Nat)⟩]) aH (λb P=>B b (by simp[P])) (by
   rw[bu,F] at z
   rw[ew];exact z)
  rw[cM,c8,ew] at this;exact this
theorem h436_9 {o4:FSt} {nd kF:List Node} {num:List Int} {o:List Nat} (O:NO f.az.length num o) (D:Met f.az.length o) (G:∀y∈o,∀p∈LV f y,p.2∈o):
  ∀(xs:List Nat) (i:Nat) (l:List Node),o.drop i=xs->l.length<=i->Gp (i:Int) f o4 nd l kF num (iT o)=some ⟨l++xs.map (OE (srG f) o)⟩:=by
 have Q:=x4 D.nd D.lt;intro xs;induction xs with
 |nil=>intro i l q _;refine abm ?_;have P:=mh q;rw[cond_neg (by rw[aS];simp[iT];omega)];simp
 |cons y xs R=>
  intro i l q h52;have w:=eC q;have B:y∈o:=bf (cn q);have z:=D.lt y B;obtain⟨F,K⟩:=hf _ (cG z);obtain⟨V,s2,S⟩:=wX f.az[y].cu;have I:i<(iT o).length:=by simp[iT];exact w
  have H:(iT o).getD i 0=(y:Int):=by unfold iT;rw[jY w];have:=cn q;rw[aN w] at this;rw[fB this]
  refine abm ?_;rw[cond_pos (by rw[bz];omega),sG I,H,cQ z,c463 F,ak];have U:((([]:List cB).length:Nat):Int)=0:=rfl;refine h436_14 hf hn O af (LX f.az[y].cu) [] aH (λa N=> ?_) ?_
  .have L:=K a ((S a).1 N);refine⟨L.1,L.2,G y B (a.bM,a.To.toNat) ?_⟩;rw[O6 z];exact aD.2 ⟨a,N,rfl⟩
  .rw[aQ q af,R (i+1) _ (aJ q) aH];have e:OE (srG f) o y=⟨f.az[y].ee,[]++(LX f.az[y].cu).map λa=>⟨a.bM,(o.idxOf a.To.toNat:Nat)⟩⟩:=by
    show(⟨sU f y,(LV f y).map _⟩:Node)=_;rw[zO z,O6 z,fk];rfl
   rw[bu,e,ew];rfl
theorem h436_3 {root:Nat} {o4:FSt} {nd kF:List Node} {res:FSt} (B:(dU (f455 (root:Int) nd (replicate f.az.length (-1)) []) λw l q=>Gp 0 f o4 nd ([]:List Node) kF l q)=some res):
  ∀(k i:Nat),f.az.length=i+k->PA (root:Int) (i:Int) f o4 nd kF (replicate i (-1)) []=some res:=by
 intro k;induction k with
 |zero=>intro i z;refine abl ?_;have e:i=f.az.length:=af;subst e;rw[cond_neg (by rw[aS];omega)];exact B
 |succ k D=>intro i z;refine abl ?_;rw[cond_pos (by rw[bz];omega),cH _ aH ai af,bQ af,<-uQ];exact D (i+1) af
theorem c436 {root:Nat} (l:root<f.az.length):f436 f (root:Int)=some (nh (srG f) f.az.length root):=by
 have D:NO f.az.length (replicate f.az.length (-1)) []:=⟨ai,λx G=>by rw[aA ai,bq,kN,aB G];rfl⟩
 obtain⟨z,q,B⟩:=h455 hf hn (f.az.length+1) root [] _ l ai D Met.nil ai;have w:=acM hf;refine e436 ?_;refine h436_3 hf hn ?_ f.az.length 0 af
 have:iT ([]:List Nat)=[]:=rfl
 rw[this] at q;rw[q,bg];have g:=h436_9 hf hn (o4:=⟨[]⟩) (nd:=f.az) (kF:=[]) B (vf (G:=srG f) w l) (λy H p F=>Bk (G:=srG f) w l H F) _ 0 [] rfl (aW _);exact g
end
end Go.Proofs.YtacapiamkgkkjaaGreatDoor.cl.pf
namespace Go.Proofs.YtacapiamkgkkjaaGreatDoor.cl.pf
open Go Go.AM
def O8 (k:Nat) (x:Node):Node:=⟨x.ee,yA k x.cu⟩
def h448_7 {a b:List Node} {i:Nat} {x:Node} (q:b[i]? =some x) {t:Int} {o:List Node} {D:List cB} (F:a.length<=1000000) (I:o.length<=100000000) (H:x.cu.length<=1000000) (w:∀c∈x.cu,0<=c.To/\c.To<=1000000) {res:List Node}:
  ∀(xs:List cB) (k:Nat),x.cu.drop k=xs->KZ a b (wrap .i64 ((i:Int)+1)) (o++[⟨t,yA a.length x.cu⟩])=some res->
   PF a b (i:Int) (k:Int) t o D (yA a.length (x.cu.take k))=some res:=by
 intro xs;induction xs with
 |nil=>intro k l z;refine abv ?_;rw[iS q,bp l,au,cH _ af ai af,jV (mh l)];omega
 |cons c xs B=>
  intro k l z;refine abv ?_;have G:=w c (bf (cn l));rw[iS q,aT l,aj,iS q,aP l,iS q,aP l,cH _ (by grind[yA]) ai af,aQ l af,oz af af];have e:yA a.length (x.cu.take k)++[⟨c.bM,c.To+(a.length)⟩]=yA a.length (x.cu.take (k+1)):=by rw[dr,cn l];simp[yA]
  rw[e];exact B _ (aJ l) z
def h448 {a b:List Node} (hn:a.length+b.length<=1000000) (w:∀x∈b,x.cu.length<=1000000/\∀c∈x.cu,0<=c.To/\c.To<=1000000):∀(xs:List Node) (i:Nat) (o:List Node),b.drop i=xs->o.length<=a.length+i->KZ a b (i:Int) o=some (o++xs.map (O8 a.length)):=by intro xs;induction xs with
 |nil=>intro i o l _;refine abu ?_;grind
 |cons x xs B=>intro i o l D;have q:=w x (bf (cn l));have z:=eC l;refine abu ?_;rw[aT l,aj,aP l];refine h448_7 (cn l) af af q.1 q.2 _ 0 rfl ?_;rw[aQ l af,B _ _ (aJ l) aH];simp[O8]
def c448 {a b:List Node} (hn:a.length+b.length<=1000000) (l:∀x∈b,x.cu.length<=1000000/\∀c∈x.cu,0<=c.To/\c.To<=1000000):f448 a b=some (a++b.map (O8 a.length)):=by refine e448 ?_;rw[cH _ ai af af];exact h448 hn l b 0 a rfl af
def c449 {n:Nat} (hn:n<=1000000):f449 (n:Int)=some (ids 0 n):=by
 have key:∀(k i),n=i+k->PG (n) (i) (ids 0 i)=some (ids 0 n):=by intro k;induction k with
  |zero=>simp_all[abw]
  |succ k q=>
   intro i l;refine abw ?_;have e:ids 0 i++[(i:Int)]=ids 0 (i+1):=by have:=HW 0 i 1;rw[eN] at this;rw[<-this];rfl
   rw[cH _ (by rw[qD];omega) ai af,bQ af];grind
 exact e449 (key n 0 af)
def MX (low high:Int) (l:List Int):List Int:=l.map λx=>if x=high then low else x
def h450 {low high:Int}:∀(xs done:List Int),done.length+xs.length<=1000000->K0 low high (done.length:Int) (done++xs)=some (done++MX low high xs):=by intro xs;induction xs with
 |nil=>intro done _;refine abx ?_;rw[cond_neg ai];rfl
 |cons x xs z=>
  intro done q;refine abx ?_;have l:∀{R:Type} (k:Int->Option R),eH (done++x::xs) done.length k=k x:=λk=>kZ ai k
  have w:done++MX low high (x::xs)=(done++[if x=high then low else x])++MX low high xs:=by simp[MX]
  rw[cond_pos (by grind),AY ai,aV,bQ af];by_cases e:x=high
  .rw[bU ⟨af,ai⟩];grind
  grind
structure AW (F n:Nat) (l:List cB):Prop where
 nd:(l.map (·.bM)).Nodup
 ok:∀a∈l,(0<=a.bM/\a.bM<(F:Int))/\0<=a.To/\a.To<(n:Int)
def DK.nd {l:List cB} (h:DK l):(l.map (·.bM)).Nodup:=by unfold List.Nodup;rw[kK];exact h.imp λh=>by omega
def AO.aw {F n:Nat} {l:List cB} (h:AO F n l):AW F n l:=⟨h.Aj.nd,h.ok⟩
def AW.LX {F n:Nat} {l:List cB} (h:AW F n l):AO F n (LX l):=⟨Xf h.nd,λa q=>h.ok a ((wX l).2.2 a|>.1 q)⟩
def AW.len {F n:Nat} {l:List cB} (h:AW F n l):l.length<=F:=by have:=h.LX.len;rwa[(wX l).2.1] at this
def nd_uniq {l:List cB} (h:(l.map (·.bM)).Nodup) {a b:cB} (q:a∈l) (w:b∈l) (e:a.bM=b.bM):a=b:=by induction l with
 |nil=>cases q
 |cons x l z=>grind
def fa (l:List cB) (f:Int):Option cB:=l.find? λa=>a.bM==f
def HT {l:List cB} {f:Int} {a:cB} (h:fa l f=some a):a∈l/\a.bM=f:=by have q:=nJ h;have w:=pZ h;simp_all
def VZ {l:List cB} {f:Int} (h:fa l f=none):∀a∈l,a.bM≠f:=λa q e=>by have:=uI.1 h a q;simp_all
def fr (l:List cB) (f:Int):Int×Bool:=match fa l f with
 |some a=>(a.To,true)
 |none=>(0,false)
def V2 (x:cB) (l:List cB) (f:Int):fr (x::l) f=if x.bM=f then(x.To,true) else fr l f:=by unfold fr fa;grind
def c491 {l:List cB} {f:Int} (z:l.length<=1000000):f491 l f=some (fr l f):=by
 have key:∀(xs) (i),l.drop i=xs->PN l f (i)=some (fr xs f):=by intro xs;induction xs with
  |nil=>intro i q;refine abF ?_;rw[bp q];rfl
  |cons x xs w=>intro i q;refine abF ?_;rw[aT q,aP q,aP q,aQ q af,w _ (aJ q),V2];grind
 exact e491 (key l 0 rfl)
def c476 {f:FSt} {c:Nat} {x:Node} (q:f.az[c]? =some x) {Jq:Int} (z:x.cu.length<=1000000):f476 f (c:Int) Jq=some (fr x.cu Jq):=by
 have key:∀(xs) (i),x.cu.drop i=xs->PK Jq x.cu (i)=some (fr xs Jq):=by intro xs;induction xs with
  |nil=>intro i l;refine abC ?_;rw[bp l];rfl
  |cons x xs w=>intro i l;refine abC ?_;rw[aT l,aP l,aP l,aQ l af,w _ (aJ l),V2];grind
 refine e476 ?_;rw[iS q];grind
def rm (l q:List cB):List cB×List dL:=(l++q.filter λh=>(fa l h.bM).isNone,q.filterMap λh=>(fa l h.bM).map λa=>⟨a.To,h.To⟩)
def rm_ok (q B:List cB):MG q B (rm q B):=by
 refine⟨λa l=> ?_,λa l=>cT _ l,λa l=> ?_,λp F=> ?_,DT _ _⟩
 .exact(bA.1 l).imp id λh=>(cE.1 h).1
 .cases e:fa _ _ with
  |none=>exact⟨a,gQ _ (cE.2 ⟨l,by rw[e];rfl⟩),rfl, .inl rfl⟩
  |some b=>obtain⟨w,z⟩:=HT e;exact⟨b,cT _ w,z, .inr (fe.2 ⟨a,l,by rw[e];rfl⟩)⟩
 .obtain⟨h,G,e⟩:=fe.1 F;cases D:fa q h.bM with
  |none=>simp_all
  |some b=>obtain⟨w,z⟩:=HT D;grind
def rm_aw {F n:Nat} {l B:List cB} (q:AW F n l) (w:AW F n B):AW F n (rm l B).1:=by
 refine⟨?_,λa z=>((rm_ok _ _).sub a z).elim (q.ok a) (w.ok a)⟩;show((l++_).map _).Nodup;rw[bZ,iE];refine⟨q.nd,?_,λx D y G e=> ?_⟩
 .exact(yQ.map _).nodup w.nd
 .obtain⟨a,z,rfl⟩:=aD.1 D;obtain⟨b,H,rfl⟩:=aD.1 G;simp_all[fa]
section
variable {n:Nat} {out:List Int} {ar:List (List cB)}
def h451_23 {i:Nat} {z D:Nat} (B:z<ar.length) (w:D<ar.length) (F:(ar.getD z []).length<=1000000) (K:(ar.getD D []).length<=1000000) {res:List Int}:∀(xs:List cB) (k:Nat) (l:List dL) (both:List cB),(ar.getD D []).drop k=xs->l.length+xs.length<=1000000000->both.length+xs.length<=2000000->
  td (wrap .i64 ((i:Int)+1)) (l++xs.filterMap λh=>(fa (ar.getD z []) h.bM).map λa=>⟨a.To,h.To⟩) out (ar.set z (both++xs.filter λh=>(fa (ar.getD z []) h.bM).isNone))=some res->
  Fh (i:Int) (z:Int) (D:Int) (k:Int) l out ar both=some res:=by
 intro xs;induction xs with
 |nil=>intro k l both q _ _ L;refine Wz ?_;rw[Y9 w,bp q,Y9 B];simp_all
 |cons x xs G=>intro k l both q H I L;simp at H I;refine Wz ?_;rw[Y9 w,aT q,aj,Y9 w,aP q,Y9 B,c491 F,ak,aQ q af];unfold fr;cases e:fa _ _ with
  |none=>rw[cond_neg (by rfl),cH _ af ai af];refine G _ _ _ (aJ q) af aH ?_;simp_all
  |some a=>rw[cond_pos (by rfl),cH _ af ai af];refine G _ _ _ (aJ q) aH af ?_;simp_all
def h451_17 {i:Nat} {q l:Nat} {todo:List dL} (w:q<ar.length) (z:l<ar.length) (B:(ar.getD q []).length<=1000000) (D:(ar.getD l []).length<=1000000) (K:todo.length<=500000000) {res:List Int}:∀(xs done:List Int),done.length+xs.length<=1000000->
  td (wrap .i64 ((i:Int)+1)) (todo++(rm (ar.getD q []) (ar.getD l [])).2) (done++MX q l xs) (ar.set q (rm (ar.getD q []) (ar.getD l [])).1)=some res->
  zH (i:Int) (q:Int) (l:Int) (done.length:Int) todo (done++xs) ar=some res:=by
 intro xs;induction xs with
 |nil=>intro done F G;refine Wy ?_;rw[cond_neg ai,Y9 w,cH _ ai af af,dS];exact h451_23 w z B D (ar.getD l []) 0 todo _ rfl af af G
 |cons x xs L=>
  intro done F G;simp at F;refine Wy ?_;have H:∀{R:Type} (k:Int->Option R),eH (done++x::xs) done.length k=k x:=λk=>kZ ai k
  have I:done++MX q l (x::xs)=(done++[if x=(l) then(q:Int) else x])++MX q l xs:=by simp[MX]
  rw[cond_pos (by grind),AY ai,aV,H,bQ af];by_cases e:x=(l)
  .rw[bU ⟨af,ai⟩];grind
  grind
end
def PI.xC {n:Nat} {out:List Int} {rep:Nat->Nat} (z:out.length=n) (B:∀x,x<n->out.getD x 0=(rep x:Nat)) (q:∀x,x<n->rep x<n) (w:∀x,x<n->rep (rep x)=rep x):PI n out rep (λx=>if rep x=x then 0 else 1):=by
 refine⟨z,λx l=>⟨_,q x l,B x l,w x l,?_⟩,λx l=> ?_,q,w⟩
 .grind
 grind
def Xc {low high:Int} {l:List Int} {x:Nat} (q:x<l.length):(MX low high l).getD x 0=if l.getD x 0=high then low else l.getD x 0:=by simp_all[MX]
abbrev sbT:Int->Int->Prop:=λ_ _=>True
def h451_11 {F n:Nat} {U:Gr} {W:List (Nat×Nat)} {ty:List Int} (hn:n<=1000000) (hF:F<=1000000):∀(c k i:Nat) (w:List dL) (out:List Int) (ar:List (List cB)) (rep d:Nat->Nat),
  cnt n rep<=c->w.length-i<=k->i<=w.length->w.length+cnt n rep *F<=400000000->(∀x,x<n->out.getD x 0=(rep x:Nat))->JI 1 (AW F n) sbT U n W (w.drop i) out ty ar rep d->
  ∃z D B L,td (i:Int) w out ar=some z/\(∀x,x<n->z.getD x 0=(B x:Nat))/\∃ty',JI 1 (AW F n) sbT U n W [] z ty' D B L:=by
 intro c;induction c using Nat.strongRecOn generalizing ty with
 |ind c ihc=>
 intro k;induction k with
 |zero=>intro i w out ar rep d hc hk hi hb P J;have e:i=w.length:=af;subst e;rw[rA] at J;exact⟨out,ar,rep,d,Wx (by rw[cond_neg (by rw[aS];omega)]),P,ty,J⟩
 |succ k ihk=>
  intro i w out ar rep d hc hk hi hb P J;by_cases V:i<w.length
  .have hd:w.drop i=w[i]::w.drop (i+1):=jg V;generalize hp:w[i]=p at hd;have J:=J.mem (wt':=w.drop (i+1)++[p]) (λq=>by grind);obtain⟨⟨p1,p2⟩,p3,p4⟩:=J.wo p ai;obtain⟨G,hx0⟩:=fU p1;obtain⟨H,hx1⟩:=fU p3;have I:G<n:=af;have K:H<n:=af;have r0:p.a0.toNat=G:=af;have r1:p.a1.toNat=H:=af;have hol:out.length=n:=J.pi.len;have hg:∀{R:Type} (kk:dL->Option R),check (0<=(i:Int)/\toNat (i:Int)<w.length) (eH w (toNat (i:Int)) kk)=kk p:=λkk=>by
    rw[AY V,aV,u9 V,hp]
   have step:∀(r:List Int),(bif((if((rep H:Nat):Int)<((rep G:Nat):Int) then((rep H:Nat):Int) else((rep G:Nat):Int))==(if((rep H:Nat):Int)>((rep G:Nat):Int) then((rep H:Nat):Int) else((rep G:Nat):Int))) then td ((i+1:Nat):Int) w out ar
     else zH (i:Int) (if((rep H:Nat):Int)<((rep G:Nat):Int) then((rep H:Nat):Int) else((rep G:Nat):Int)) (if((rep H:Nat):Int)>((rep G:Nat):Int) then((rep H:Nat):Int) else((rep G:Nat):Int)) 0 w out ar)=some r->td (i:Int) w out ar=some r:=by
    intro r hr;refine Wx ?_;rw[cond_pos (by rw[bz];omega),hg,hx0,sG af,P G I,hg,hx1,sG af,P H K,hg,hx0,sG af,P G I,hg,hx1,sG af,P H K,bQ af];exact hr
   by_cases N:rep G=rep H
   .have J3:=J.skip (by rw[r0,r1];exact N);obtain⟨z,D,B,L,g1,g2,g3⟩:=ihk (i+1) w out ar rep d hc af af hb P J3;exact⟨z,D,B,L,step _ (by rw[N,cond_pos ai];exact g1),g2,g3⟩
   ·
    have fin:∀(a b:Nat),a≠b->a<n->b<n->∀(q:dL),rep q.a0.toNat=a->rep q.a1.toNat=b->JI 1 (AW F n) sbT U n W (w.drop (i+1)++[q]) out ty ar rep d->
      ∃z D B L,zH (i:Int) (a:Int) (b:Int) 0 w out ar=some z/\(∀x,x<n->z.getD x 0=(B x:Nat))/\∃ty',JI 1 (AW F n) sbT U n W [] z ty' D B L:=by
     intro a b hab Q S q hqa hqb O;have hal:a<ar.length:=by rw[O.la];exact Q
     have Y4:b<ar.length:=by rw[O.la];exact S
     have la:=(O.ao _ Q).len;have lb:=(O.ao _ S).len;have M:=rm_ok (ar.getD a []) (ar.getD b []);have Jm:=O.merge hqa hqb hab (λl hl c hc=>(hl.ok c hc).2) (λ_ _=>trivial) M (rm_aw (O.ao _ Q) (O.ao _ S)) (t:=0) ⟨af,af⟩ trivial trivial (λ_ _ _=>trivial);have hcm:=Mb O hqa hqb hab;have ho':∀x,x<n->(MX a b out).getD x 0=(((λx=>if rep x=b then a else rep x) x:Nat):Int):=λx hx=>by
      rw[Xc af,P x hx];show _=(((if rep x=b then a else rep x):Nat):Int)
      by_cases e:rep x=b
      .rw[aB af,aB e]
      .rw[aA af,aA e]
     have J3:=Jm.qB (PI.xC (out:=MX a b out) (by unfold MX;rw[bC];exact hol) ho' Jm.pi.rl Jm.pi.rr);have hmul:(cnt n (λx=>if rep x=b then a else rep x)+1) *F<=cnt n rep *F:=jS F hcm;rw[nq] at hmul;have hml:=M.le;have e3:w.drop (i+1)++(rm (ar.getD a []) (ar.getD b [])).2=(w++(rm (ar.getD a []) (ar.getD b [])).2).drop (i+1):=by grind
     rw[e3] at J3;obtain⟨z,D,B,L,g1,g2,g3⟩:=ihc _ (eW (Nat.lt_of_succ_le hcm) hc) (w++(rm (ar.getD a []) (ar.getD b [])).2).length (i+1) (w++(rm (ar.getD a []) (ar.getD b [])).2) _ _ _ _ (aW _) af (by grind) (by grind) ho' J3;refine⟨z,D,B,L,?_,g2,g3⟩;have:=h451_17 (i:=i) (todo:=w) (ar:=ar) (res:=z) hal Y4 af af af out [] aH (by rw[bQ af,dS];omega);exact this
    by_cases hlt2:rep H<rep G
    .obtain⟨z,D,B,L,g1,g2,g3⟩:=fin (rep H) (rep G) (λe=>N e.symm) (J.pi.rl _ K) (J.pi.rl _ I) ⟨p.a1,p.a0⟩ (by show rep p.a1.toNat=_;rw[r1]) (by show rep p.a0.toNat=_;rw[r0]) J.swap;refine⟨_,_,_,L,step _ ?_,g2,g3⟩;have e1:(if((rep H):Int)<((rep G)) then((rep H):Int) else((rep G)))=((rep _)):=aB af;have e2:(if((rep H):Int)>((rep G)) then((rep H):Int) else((rep G)))=((rep _)):=aA af;rw[e1,e2,cond_neg (by rw[jf];omega)];exact g1
    .obtain⟨z,D,B,L,g1,g2,g3⟩:=fin _ _ N (J.pi.rl _ I) (J.pi.rl _ K) p (by rw[r0]) (by rw[r1]) J;grind
  grind
def h451_5 {l:List Node} {q a:Nat} (O:l.length<=1000000) (I:q<=a) (H:a<l.length) {out:List Int} {res:List Int} (L:td 0 (if q=a then[] else[⟨a,q⟩]) out (l.map (·.cu))=some res):
  ∀(k i:Nat),l.length=i+k->K1 l (MX q a (ids 0 l.length)) (i:Int) (if a<i then(if q=a then[] else[⟨a,q⟩]) else[]) out ((l.take i).map (·.cu)++replicate k [])=some res:=by
 intro k;induction k with
 |zero=>intro i K;refine aby ?_;have e:i=l.length:=af;subst e;rw[cond_neg (by rw[aS];omega),aB H,gw,yT,dN];exact L
 |succ k N=>
  intro i K;have w:i<l.length:=af;refine aby ?_;have F:i<(MX (q:Int) (a:Int) (ids 0 l.length)).length:=by unfold MX;rw[bC,qD];exact w
  have D:(MX (q:Int) (a:Int) (ids 0 l.length)).getD i default=if i=a then(q:Int) else(i:Int):=by
   show List.getD _ _ 0=_;rw[Xc (by rw[qD];exact w),JC w];by_cases e:i=a
   .rw[aB af,aB e]
   .rw[aA af,aA e]
  have B:i<((l.take i).map (·.cu)++replicate (k+1) ([]:List cB)).length:=aH;have G:((l.take i).map (·.cu)++replicate (k+1) ([]:List cB)).set i l[i].cu=(l.take (i+1)).map (·.cu)++replicate k []:=by
   rw[pS _ _ aH,dr,aN w]
   have:i-((l.take i).map (·.cu)).length=0:=aH
   rw[this,tu,rM,bZ];simp
  rw[cond_pos (by rw[bz];omega),cQ w,Y9 B,u7 F,D,aV,G,bQ af];have:=N (i+1) af;by_cases e:i=a
  .subst e;rw[aB af] at this;rw[aB rfl,aA (rI _)];by_cases z:q=i
   .rw[cond_neg (by simp[z])];rw[aB z] at this;exact this
   .rw[cond_pos (by rw[kJ];omega),u7 F,D,aB rfl,cH _ ai ai af];rw[aA z] at this;exact this
  .rw[aA e,cond_neg ai];have z:(if a<i+1 then(if q=a then[] else[(⟨(a:Int),(q:Int)⟩:dL)]) else[])=if a<i then(if q=a then[] else[⟨(a:Int),(q:Int)⟩]) else[]:=by
    by_cases h:a<i
    .rw[aB h,aB af]
    .rw[aA h,aA af]
   rw[z] at this;exact this
def lG (l:List Node):Gr:=⟨λx=>((l.map (·.cu)).getD x []).map λa=>(a.bM,a.To.toNat),λx=>(l.map (·.ee)).getD x 0⟩
def lG0 (l:List Node):Gr:=⟨(lG l).sc,λ_=>0⟩
def c451 {F:Nat} {l:List Node} {lo a:Nat} (z:l.length<=1000000) (S:F<=100000) (R:l.length *F<=300000000) (w:lo<=a) (D:a<l.length) (P:∀x∈l,AW F l.length x.cu):
  ∃out ty ar rep d,f451 l (MX lo a (ids 0 l.length))=some out/\(∀x,x<l.length->out.getD x 0=(rep x:Nat))/\JI 1 (AW F l.length) sbT (lG0 l) l.length [(lo,a)] [] out ty ar rep d:=by
 have H:JI 1 (AW F l.length) sbT (lG0 l) l.length [] [] (ids 0 l.length) (replicate l.length 0) (l.map (·.cu)) id (λ_=>0):=by
  have G:∀x,x<l.length->(replicate l.length (0:Int)).getD x 0=0:=λx q=>by rw[bq,kN,aB q];rfl
  refine JI.init (λ_ _=>trivial) rfl ai ai (λx q=> ?_) (λx q=> ?_) (λx q=>rfl) (λx q=>(G x q).symm)
  .rw[G x q];omega
  .rw[jY q];exact P _ (cG q)
 have I:=H.start (a:=lo) (b:=a) af D;have B:=JI.swap (wt:=[]) I;have K:JI 1 (AW F l.length) sbT (lG0 l) l.length [(lo,a)] (if lo=a then[] else[⟨(a:Int),(lo:Int)⟩]) (ids 0 l.length) (replicate l.length 0) (l.map (·.cu)) id (λ_=>0):=by
  by_cases e:lo=a
  .rw[aB e];exact JI.skip B (by simp[e])
  .rw[aA e];exact B
 have Q:=ZS l.length id;have U:cnt l.length id *F<=l.length *F:=jS F Q;have V:(if lo=a then[] else[(⟨(a:Int),(lo:Int)⟩:dL)]).length<=1:=by split<;>simp
 obtain⟨out,ar,rep,d,L,N,ty,O⟩:=h451_11 z af (cnt l.length id) 1 0 (if lo=a then[] else[⟨(a:Int),(lo:Int)⟩]) (ids 0 l.length) (l.map (·.cu)) id _ (aW _) af af af (λx q=>JC q) K;refine⟨out,ty,ar,rep,d,?_,N,O⟩;refine e451 ?_;rw[c449 z,ak,bU ⟨af,by omega,by omega,af⟩,aV];have:=h451_5 z w D L l.length 0 af;rw[aA af,List.take_zero,eY,dS] at this;exact this
def c450 {n x y:Nat} (hn:n<=1000000) (w:x<n) (B:y<n):f450 (ids 0 n) x y=some (MX (min x y:Nat) (max x y:Nat) (ids 0 n)):=by
 have l:∀{R:Type} {z:Nat} (q:Int->Option R),z<n->bB (ids 0 n) (z:Int) q=q z:=λq D=>by rw[u7 (by rw[qD];exact D)];exact aR q (JC D)
 refine e450 ?_;rw[l _ w,l _ B,l _ w,l _ B,cH _ ai (by rw[qD];omega) af,dS];have e1:(if(y:Int)<(x:Int) then(y:Int) else(x:Int))=((min x y:Nat):Int):=by split<;>omega
 have F:(if(y:Int)>(x:Int) then(y:Int) else(x:Int))=((max x y:Nat):Int):=by split<;>omega
 rw[e1,F];exact h450 (ids 0 n) [] (by rw[qD];simp;omega)
