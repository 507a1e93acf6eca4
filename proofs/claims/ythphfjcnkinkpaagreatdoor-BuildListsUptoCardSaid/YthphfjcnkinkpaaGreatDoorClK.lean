/- The Closure laws. -/
import Derived.Test.YthphfjcnkinkpaaGreatDoorClC
import Derived.Lib.DecodeN
set_option linter.all false
open Go.IntKind (wrap)
namespace Go.Proofs.YthphfjcnkinkpaaGreatDoor.cl
open Go Go.AM
def h112 (t:aC) (o:List ck) (l:o.length<=1073741824) (q:t.dS.length<=1073741824):∀(xs:List ck) (i:Nat),t.dS.drop i=xs->Qq o i t=some (xs.all λs=>decide (s∈o)):=by intro xs;induction xs with
 |nil=>grind[aco,bp]
 |cons x xs w=>intro i h;refine aco ?_;rw[aT h,aK h,c37 _ _ l,aQ h q,w _ (aI h)];grind
def c112 (t:aC) (o:List ck) (l:o.length<=1073741824) (q:t.dS.length<=1073741824):f112 t o=some (t.dS.all λs=>decide (s∈o)):=e112 (h112 t o l q _ 0 rfl)
structure Sz (d:List aC):Prop where
 len:d.length<=1048576
 sup:∀t∈d,t.dS.length<=1048576
structure UN (d:List aC) (o:List ck):Prop where
 nd:o.Nodup
 sub:∀x∈o,x∈kz d
 pre:∀i x,o[i]? =some x->∃t∈d,t.Name=x/\∀s∈t.dS,s∈o.take i
def Rdy (d:List aC) (o:List ck) (x:ck):Prop:=∃t∈d,t.Name=x/\x∉o/\∀s∈t.dS,s∈o
def UN.len {d:List aC} {o:List ck} (h:UN d o):o.length<=d.length:=by have:=jy h.nd h.sub;simp_all
def h73b {d:List aC} (z:Sz d) {o:List ck} (ho:o.length<=d.length):∀(xs:List aC) (i:Nat) (more:Bool) (next:ck),d.drop i=xs->(more=true->Rdy d o next)->
  ∃(l:Bool) (q:ck),(l=true->Rdy d o q)/\(l=false->∀t∈xs,t.Name∉o->∃s∈t.dS,s∉o)/\(more=true->l=true)/\
   ∀r,Ma d l (if l=true then o++[q] else o)=some r->Ge d more next i o=some r:=by
 have hl:=z.len;intro xs;induction xs with
 |nil=>
  intro i more next h L
  refine⟨more,next,L,λ_ t U=>(by cases U),λh=>h,λr w=> ?_⟩;refine Yb ?_;rw[bp h,aA];cases more with
  |true=>rw[au,cC _ af ai af];assumption
  |false=>simp_all
 |cons x xs ih=>
  intro i more next h L
  have hx:x∈d:=aV (cr h);by_cases O:x.Name∈o
  .obtain⟨G,H,F,a2,D,I⟩:=ih (i+1) more next (aI h) L
   refine⟨G,H,F,λe t U Q=> ?_,D,λr w=> ?_⟩
   .grind
   .refine Yb ?_;rw[aT h,au,aK h,c37 _ _ af,aj,cond_pos (by simpa using O),aQ h af];exact I r w
  .by_cases P:∀s∈x.dS,s∈o
   .have S:Rdy d o _:=⟨x,hx,rfl,O,P⟩
    have B:(x.dS.all λs=>decide (s∈o))=true:=by rw[cI];intro s hs;simpa using P s hs
    have go:∀N,Rdy d o N->(more=false->N=x.Name)->(more=true->N=if Op.bytesLess x.Name next=true then x.Name else next)->∃(l:Bool) (q:ck),(l=true->Rdy d o q)/\(l=false->∀t∈x::xs,t.Name∉o->∃s∈t.dS,s∉o)/\(more=true->l=true)/\
      ∀r,Ma d l (if l=true then o++[q] else o)=some r->Ge d more next i o=some r:=by
     intro N Q e1 e2;obtain⟨G,H,F,a2,D,I⟩:=ih _ _ _ (aI h) (λ_=>Q);refine⟨G,H,F,λe=>(by rw[D rfl] at e;cases e),λ_=>D rfl,λr w=> ?_⟩;have w:=I r w;refine Yb ?_;rw[aT h,au,aK h,c37 _ _ af,aj,cond_neg (by simpa using O),aK h,c112 _ _ af (by have:=z.sup x hx;omega),aj,B,dM,aA];cases more with
     |false=>rw[fN,au,aK h,aQ h af];rw[e1 rfl] at w;exact w
     |true=>rw[aK h,aK h,aQ h af];grind
    cases hm:more with
    |false=>rw[hm] at go;exact go _ S (λ_=>rfl) (λe=>by cases e)
    |true=>rw[hm] at go;refine go _ ?_ (λe=>by cases e) (λ_=>rfl);grind
   .obtain⟨G,H,F,a2,D,I⟩:=ih _ _ _ (aI h) L;have B:(x.dS.all λs=>decide (s∈o))=false:=by
     apply ff;intro hc;exact P λs hs=>by simp_all
    refine⟨G,H,F,λe t U Q=> ?_,D,λr w=> ?_⟩
    .grind
    .refine Yb ?_;rw[aT h,aK h,c37 _ _ af,aK h,c112 _ _ af (by have:=z.sup x hx;omega),B,aQ h af];simp_all
def h73 {d:List aC} (z:Sz d):∀(n:Nat) (o:List ck),d.length-o.length=n->UN d o->
  ∃out,UN d out/\(∀t∈d,t.Name∉out->∃s∈t.dS,s∉out)/\Ma d true o=some out:=by
 intro n;induction n with
 |zero=>intro o U w;have q:=w.len;obtain⟨F,G,B,H,L,I⟩:=h73b z q d 0 false [] rfl (λe=>by cases e);cases F with
  |false=>simp_all[ads]
  |true=>
   obtain⟨t,ht,e,D,hs⟩:=B rfl
   have:(o++[G]).length<=(kz d).length:=jy (by
    rw[jq]
    exact⟨w.nd,by simp,λa O b P=>by grind⟩) (λx l=>by
     rcases bu.1 l with l|l
     .exact w.sub x l
     grind)
   grind
 |succ n ih=>intro o U w;have q:=w.len;obtain⟨F,G,B,H,L,I⟩:=h73b z q d 0 false [] rfl (λe=>by cases e);cases F with
  |false=>simp_all[ads]
  |true=>
   obtain⟨t,ht,e,D,hs⟩:=B rfl;have N:UN d (o++[G]):=by
    refine⟨?_,?_,?_⟩
    .rw[jq];exact⟨w.nd,by simp,λa O b P=>by grind⟩
    .intro x l;rcases bu.1 l with l|l
     .exact w.sub x l
     grind
    .intro i x l;by_cases Q:i<o.length
     .rw[eU Q] at l;obtain⟨u,hu,e1,h1⟩:=w.pre i x l;grind
     .have S:i=o.length:=by
       apply ff;intro hc;rw[gA aH] at l;cases l
      grind
   obtain⟨out,b1,b2,b3⟩:=ih _ aH N;simp_all[ads]
def c73 {d:List aC} (z:Sz d):∃out,UN d out/\(∀t∈d,t.Name∉out->∃s∈t.dS,s∉out)/\f73 d=some out:=by obtain⟨out,q,w,B⟩:=h73 z _ [] rfl ⟨ai,λx l=>(by cases l),λi x l=>(by simp at l)⟩;simp_all[e73]
def DO (d:List aC):Prop:=∃r:ck->Nat,∀t∈d,∀s∈t.dS,r s<r t.Name
def Lh {d:List aC} {o:List ck} (I:(kz d).Nodup) (z:UN d o) (D:∀t∈d,t.Name∈o):DO d:=by
 refine⟨λx=>o.idxOf x,λt B s L=> ?_⟩;have H:=D t B;have P :=List.idxOf_lt_length_iff.2 H;have l:o[o.idxOf t.Name]? =some t.Name:=by simp_all
 obtain⟨u,N,e,q⟩:=z.pre _ _ l;have w:u=t:=by
  obtain⟨i,F,rfl⟩:=jo.1 N;obtain⟨j,G,rfl⟩:=jo.1 B
  have:(kz d)[i]'(by simp_all)=(kz d)[j]'(by simp_all):=by simpa using e
  have:=(rQ I).1 this;subst this;rfl
 subst w;have:=q s L;rw[vc] at this;obtain⟨k,Q,rfl⟩:=this;have O:o.idxOf o[k]=k:=z.nd.idxOf_getElem k _;grind
def Ko {d:List aC} {o:List ck} (l:∀t∈d,∀s∈t.dS,s∈kz d) (q:∀t∈d,t.Name∉o->∃s∈t.dS,s∉o) (w:DO d):∀t∈d,t.Name∈o:=by
 obtain⟨r,w⟩:=w;have key:∀(n) (t),t∈d->r t.Name=n->t.Name∈o:=by intro n;induction n using Nat.strongRecOn with
  |_ n z=>grind
 simp_all
def Gh (d:List aC):Nat:=(d.filter λt=>t.dS.length==0).length
open Classical in
noncomputable def IX (d:List aC):Int:=
 if UZ d=true then 7 else if xG [] d≠0 then xG [] d else if zb (kz d) d≠0 then zb (kz d) d else if Gh d≠1 then 1 else if DO d then 0 else 6
def h32 {d:List aC} (z:Sz d) (P:xG [] d=0) (Q:zb (kz d) d=0):∀(xs:List aC) (i n:Nat),d.drop i=xs->n<=i->
  LL d n i=some (open Classical in if n+Gh xs≠1 then 1 else if DO d then 0 else 6):=by
 have hl:=z.len;intro xs;induction xs with
 |nil=>
  intro i n h U;refine acy ?_;obtain⟨out,G,L,N⟩:=c73 z;have B:=((KP d []).1 P).2.1;have w:∀t∈d,∀s∈t.dS,s∈kz d:=λt D=>((LA _ d).1 Q t D).1
  rw[bp h,aA];have O:n+Gh []=n:=rfl;rw[O];by_cases H:n=1
  .rw[cond_neg aH,N,aj,az af];by_cases F:DO d
   .have l:=Ko w L F
    have:(kz d).length<=out.length:=jy B λx q=>by obtain⟨t,D,rfl⟩:=aD.1 q;exact l t D
    simp only[bf] at this;rw[cond_neg aH,aB F]
   .have:out.length<d.length:=by
     apply ff;intro hc;apply F;refine Lh B G λt D=> ?_
     exact Wm G.nd G.sub aH _ (lP D)
    rw[cond_pos aH,az F]
  .rw[cond_pos aH,aB H]
 |cons x xs I=>
  intro i n h U;refine acy ?_;have S:=dY h;rw[aT h,au,aK h,aQ h af,bM af];by_cases q:x.dS.length=0
  .rw[cond_pos (by simpa using q),I (i+1) (n+1) (aI h) af]
   have:Gh (x::xs)=Gh xs+1:=by simp[Gh,nH,q]
   rw[this,show n+1+Gh xs=n+(Gh xs+1) by omega]
  .rw[cond_neg (by simpa using q),I (i+1) n (aI h) af]
   have:Gh (x::xs)=Gh xs:=by
    have:(x.dS.length==0)=false:=by simpa using q
    simp[Gh,nH,this]
   rw[this]
def c32 {d:List aC} (z:Sz d):f32 d=some (IX d):=by
 have D:=z.len;refine e32 ?_;rw[c70,aj,c71 d af,aj,c72 d af (λt B=>by have:=z.sup t B;omega),aj];unfold IX;by_cases q:UZ d=true
 .rw[aB q,aB q];rfl
 .rw[az q,az q];by_cases l:xG [] d=0
  .by_cases w:zb (kz d) d=0
   .have:=h32 z l w d 0 0 rfl af;rw[l,w,az ai,az ai];simpa using this
   .rw[aB w,l,az ai];rw[cond_neg ai,cond_neg ai,cond_pos (by simpa using w)]
  .rw[aB l,cond_neg ai,cond_pos (by simpa using l)]
structure Acc (d:List aC):Prop where
 nd:(kz d).Nodup
 name:∀t∈d,isName t.Name=true
 dec:∀t∈d,∀s∈t.dS,s∈kz d
 top:Gh d=1
 rk:DO d
def JK {d:List aC} (h:IX d=0):Acc d:=by
 unfold IX at h;split at h
 .cases h
 split at h
 .rename_i l;exact absurd h l
 split at h
 .rename_i l;exact absurd h l
 split at h
 .cases h
 split at h
 .rename_i I l D F G;have q:xG [] d=0:=ff l;have w:zb (kz d) d=0:=ff D;obtain⟨z,B,_⟩:=(KP d []).1 q;exact⟨B,z,λt H=>((LA _ d).1 w t H).1,ff F,G⟩
 .cases h
end Go.Proofs.YthphfjcnkinkpaaGreatDoor.cl
namespace Go.Proofs.YthphfjcnkinkpaaGreatDoor.cl
open Go Go.AM
def dn (d:List aC) (x:ck):List ck:=(d.filter λt=>decide (x∈t.dS)).map (·.Name)
def up (d:List aC) (x:ck):List ck:=match d.find? (λt=>t.Name==x) with
 |some t=>t.dS
 |none=>[]
theorem KM {d:List aC} {x y:ck}:y∈dn d x↔∃t∈d,t.Name=y/\x∈t.dS:=by simp[dn];grind
def Vj {d:List aC} {x y:ck} (h:y∈dn d x):y∈kz d:=by grind[KM]
def nd_eq {d:List aC} (w:(kz d).Nodup) {t u:aC} (z:t∈d) (B:u∈d) (e:t.Name=u.Name):t=u:=by
 obtain⟨i,l,rfl⟩:=jo.1 z;obtain⟨j,q,rfl⟩:=jo.1 B
 have:(kz d)[i]'(by simp_all)=(kz d)[j]'(by simp_all):=by simpa using e
 have:=(rQ w).1 this;simp_all
def aet {d:List aC} (q:(kz d).Nodup) {t:aC} (w:t∈d):up d t.Name=t.dS:=by unfold up;cases e:d.find? _ with
 |none=>grind
 |some u=>have z:=pY e;have l:=nJ e;rw[nd_eq q l w (by simp_all)]
def adz {d:List aC} (l:(kz d).Nodup) {x y:ck} (z:x∈kz d):y∈up d x↔x∈dn d y:=by
 obtain⟨t,q,rfl⟩:=aD.1 z;rw[aet l q,KM];constructor
 .grind
 .rintro⟨u,w,e,h⟩;rw[nd_eq l w q e] at h;exact h
abbrev Le (d:List aC) (x y:ck):Prop:=kO (dn d) x y
def T5 {d:List aC} (A:Acc d) {x y:ck} (D:x∈kz d) (h:kO (up d) x y):y∈kz d/\Le d y x:=by induction h with
 |refl=>exact⟨D, .refl⟩
 | @step y z G l F=>
  obtain⟨w,B⟩:=F;refine⟨?_,?_⟩
  .obtain⟨t,q,e⟩:=aD.1 w;subst e;rw[aet A.nd q] at l;exact A.dec t q _ l
  .exact kO.trans (.step .refl ((adz A.nd w).1 l)) B
def kO.head {next:ck->List ck} {x y z:ck} (l:y∈next x) (q:kO next y z):kO next x z:=kO.trans (.step .refl l) q
def aeu {d:List aC} (A:Acc d) {x y:ck} (h:Le d y x):kO (up d) x y:=by induction h with
 |refl=>exact .refl
 | @step u v w l q=>exact kO.head ((adz A.nd (Vj l)).2 l) q
def P5 {d:List aC} (A:Acc d) {x y:ck} (l:x∈kz d):kO (up d) x y↔Le d y x:=⟨λh=>(T5 A l h).2,aeu A⟩
theorem Pr {d:List aC} {r:ck->Nat} (q:∀t∈d,∀s∈t.dS,r s<r t.Name) {x y:ck} (h:Le d x y):x=y\/r x<r y:=by induction h with
 |refl=>simp
 |step _ l B=>obtain⟨t,z,rfl,w⟩:=KM.1 l;grind
theorem le_antisymm {d:List aC} (A:Acc d) {x y:ck} (w:Le d x y) (z:Le d y x):x=y:=by
 obtain⟨r,l⟩:=A.rk;rcases Pr l w with h|h
 .exact h
 .rcases Pr l z with q|q
  .simp_all
  omega
def root {d:List aC} (A:Acc d):∃t∈kz d,∀y∈kz d,Le d t y:=by
 have w:=A.top;obtain⟨t,F⟩:=EF.1 w;have B:t∈d.filter (λt=>t.dS.length==0):=by rw[F];simp
 refine⟨_,lP (cT.1 B).1,?_⟩;obtain⟨r,G⟩:=A.rk;have key:∀(n) (u),u∈d->r u.Name=n->Le d t.Name u.Name:=by intro n;induction n using Nat.strongRecOn with
  |_ n I=>intro u z e;cases D:u.dS with
   |nil=>
    have:u∈d.filter (λt=>t.dS.length==0):=cT.2 ⟨z,by simp[D]⟩
    rw[F,cz] at this;subst this;exact .refl
   |cons s l=>
    have q:s∈u.dS:=by rw[D];simp
    obtain⟨v,H,rfl⟩:=aD.1 (A.dec u z s q);have:=G u z _ q;exact .step (I _ af v H rfl) (KM.2 ⟨u,z,rfl,q⟩)
 simp_all
def h99b {d:List aC} (z:Sz d) {i:Nat} {x:ck}:∀(xs:List aC) (k:Nat) (o:List ck),d.drop k=xs->o[i]? =some x->o.length+xs.length<=2097152->∀r,
  Us d (i+1:Nat) (mo o ((xs.filter λt=>decide (x∈t.dS)).map (·.Name)))=some r->N6 d i k o=some r:=by
 have L:=z.len;intro xs;induction xs with
 |nil=>intro k o h w l r q;refine k99_8 ?_;have D:=(bP.1 w).1;rw[bp h,aA,bM af];exact q
 |cons t xs B=>
  intro k o h w l r q;refine k99_8 ?_;have D:=(bP.1 w).1;have G:t∈d:=aV (cr h);have F:=z.sup t G;simp only[bz] at l;rw[aT h,au,aK h,BR D,aZ,kS w,c37 _ _ af,aj,aQ h af,aK h,c37 _ _ af,aj,aK h];rw[nH] at q;by_cases H:x∈t.dS
  .rw[cond_pos (by simp_all)];rw[aB (by simp_all),bH] at q;by_cases I:t.Name∈o
   .rw[cond_neg (by simp_all)];refine B (k+1) o (aI h) w af r ?_;simp_all[mo,List.filter,decide]
   .rw[cond_pos (by simp_all),cC _ af ai af];refine B _ _ (aI h) (by grind) aH r ?_;simp_all[mo]
  .rw[cond_neg (by simp_all)];rw[az (by simp_all)] at q;exact B _ o (aI h) w af r q
def h99c (o:List ck) (q:o.length<=1073741824):∀(xs:List ck) (i:Nat) (out:List ck),o.drop i=xs->out.length<=i->He out i o=some (xs.foldl (λo s=>qQ s o) out):=by intro xs;induction xs with
 |nil=>grind[adt,bp]
 |cons x xs w=>intro i out h z;refine adt ?_;have l:=dY h;have:=nj x out;rw[aT h,od h,oa h,c98 _ _ af,aj,aQ h q,w _ _ (aI h) af];rfl
def c99 {d:List aC} (z:Sz d) {x:ck} (F:x∈kz d):∃l,f99 d x=some l/\SS l/\(∀y,y∈l↔Le d x y)/\l.length<=d.length:=by
 have P:=z.len;obtain⟨o,L,G,H,N⟩:=search F (λx _ y q=>Vj q) (outer:=λi o=>Us d i o) (fin:=λo=>He [] 0 o)
  (λi o B I r D=>by simp_all[k99_5,cond_neg])
  (λi o y B w q _ r D=>by
   have I:=(bP.1 q).1;refine k99_5 ?_;rw[cond_pos aH];simp at B
   exact h99b z d 0 o rfl q af r D)
 simp at H;have Q:He _ 0 o=some (oJ o):=h99c o af o 0 _ rfl ai;refine⟨_,?_,mh o,λy=>by rw[gw,G],by have:=qo o;omega⟩;refine e99 ?_;obtain⟨j,O,e,_⟩:=I1 F;rw[Zf d _ af,aj,e,cond_neg ai];simp_all
def h138b {d:List aC} (z:Sz d) {i:Nat} {l:List ck} (F:l.length<=1048576):∀(xs:List ck) (k:Nat) (o:List ck),l.drop k=xs->i<o.length->o.length+xs.length<=2097152->∀r,
  LG d (i+1:Nat) (mo o xs)=some r->LH d i l k o=some r:=by
 intro xs;induction xs with
 |nil=>intro k o h w q r B;refine acr ?_;rw[bp h,aA,bM af];exact B
 |cons s xs D=>
  intro k o h w q r B;refine acr ?_;simp at q;rw[aT h,au,aK h,c37 _ _ af,aj,aQ h af,aK h];by_cases G:s∈o
  .rw[cond_neg (by simp_all)];refine D _ o (aI h) w af r ?_;simp_all[mo]
  .rw[cond_pos (by simp_all),cC _ af ai af];refine D _ _ (aI h) aH aH r ?_;simp_all[mo]
def h138c (o:List ck) (q:o.length<=1073741824):∀(xs:List ck) (i:Nat) (out:List ck),o.drop i=xs->out.length<=i->CS out i o=some (xs.foldl (λo s=>qQ s o) out):=by intro xs;induction xs with
 |nil=>grind[XN,bp]
 |cons x xs w=>intro i out h z;refine XN ?_;have l:=dY h;have:=nj x out;rw[aT h,od h,oa h,c98 _ _ af,aj,aQ h q,w _ _ (aI h) af];rfl
def c138 {d:List aC} (z:Sz d) (A:Acc d) {x:ck} (q:x∈kz d):∃l,f138 d x=some l/\SS l/\(∀y,y∈l↔Le d y x)/\l.length<=d.length:=by
 have hl:=z.len;obtain⟨o,S,L,N,U⟩:=search q (λx q y w=>(T5 A q (.step .refl w)).1) (outer:=λi o=>LG d i o) (fin:=λo=>CS [] 0 o)
  (λi o H B r P=>by simp_all[acq,cond_neg])
  (λi o y H G w D r P=>by
   have B:=(bP.1 w).1;refine acq ?_;obtain⟨j,F,e,O,_⟩:=I1 D;simp at H;rw[cond_pos aH,BR B,aZ,kS w,Zf d _ af,aj,e,cH _];have I:=z.sup _ (bU F);refine h138b z af d[j].dS 0 o rfl B af r ?_;have Q:up d y=d[j].dS:=by rw[<-O];exact aet A.nd (bU _)
   simp_all)
 simp at N;have hs:CS _ 0 o=some (oJ o):=h138c o af o 0 _ rfl ai;refine⟨_,?_,mh o,λy=>by rw[gw,L,P5 A q],by have:=qo o;omega⟩;refine e138 ?_;obtain⟨j,F,e,_⟩:=I1 q;rw[Zf d _ af,aj,e,cond_neg ai];simp_all
def h137 {d:List aC} (z:Sz d) (l:List ck) (F:l.length<=1048576):∀(xs:List ck) (i:Nat) (out:List ck),l.drop i=xs->out.length<=i->LF d l out i=some ((xs.filter λs=>decide (s∈kz d)).foldl (λo s=>qQ s o) out):=by have L:=z.len;intro xs;induction xs with
 |nil=>grind[acp,bp]
 |cons x xs B=>
  intro i out h I;refine acp ?_;have G:=dY h;have:=nj x out;rw[aT h,au,aK h,Zf d _ af,aj,aQ h af,aK h,nH];by_cases q:x∈kz d
  .have D:fd d x>=0:=by
    apply ff;intro H;exact OO.1 af q
   rw[cond_pos (by simp_all),c98 _ _ af,aj,B _ _ (aI h) af,aB (by simp_all)];rfl
  .have w:=OO.2 q;rw[cond_neg (by simp_all),B _ _ (aI h) af,az (by simp_all)]
def c137 {d:List aC} (z:Sz d) (l:List ck) (q:l.length<=1048576):f137 d l=some (oJ (l.filter λs=>decide (s∈kz d))):=e137 (h137 z l q l 0 _ rfl ai)
open Classical in
noncomputable def sd (d:List aC) (all:List ck) (x:ck):Bool:=all.all λy=>decide (y=x)|| !decide (Le d y x)
def h104b {d:List aC} (z:Sz d) {all up:List ck} {i:Nat} {x:ck} (w:all[i]? =some x) (F:all.Nodup) (L:all.length<=1048576) (S:up.length<=1048576) (Q:∀y,y∈up↔Le d y x) {o:List ck} (U:o.length<=1048576) {r:List ck}:
  ∀(xs:List ck) (k:Nat) (l:Bool),all.drop k=xs->
  G3 d all (i+1:Nat) (if(l&&sd d xs x)=true then o++[x] else o)=some r->G4 d all i up l k o=some r:=by
 intro xs;have B:=(bP.1 w).1;induction xs with
 |nil=>
  intro k l h q;refine ack ?_;rw[bp h,aA,bM af];have e:(l&&sd d [] x)=l:=by simp[sd]
  rw[e] at q;cases l with
  |true=>rw[au,iI w,cC _ af ai af];rw[aB rfl] at q;exact q
  |false=>rw[aA];rw[az ai] at q;exact q
 |cons y xs H=>
  intro k l h q;refine ack ?_;rw[aT h,au,aQ h af,aK h,c37 _ _ af,aj];have e:sd d (y::xs) x=((decide (y=x)|| !(open Classical in decide (Le d y x)))&&sd d xs x):=by simp[sd]
  rw[e] at q;cases l with
  |false=>rw[aA];refine H (k+1) false (aI h) ?_;rw[pR] at q⊢;exact q
  |true=>
   rw[au];by_cases N:k=i
   .subst N;rw[cr h] at w;obtain rfl:y=x:=fe w;rw[cond_pos ai];refine H (k+1) true (aI h) ?_;have e1:(decide (y=y)|| !(open Classical in decide (Le d y y)))=true:=ai;rw[e1,iz] at q;exact q
   .have G:y≠x:=by
     intro e;subst e;have I:=cr h;have D:=dY h;rw[aM D] at I;rw[aM B] at w;have:=(rQ F).1 ((fe I).trans (fe w).symm);exact N this
    rw[cond_neg aH];refine H (k+1) _ (aI h) ?_;have O:decide (y=x)=false:=by simpa using G
    have P:decide (y∈up)=(open Classical in decide (Le d y x)):=by rw[u7];exact Q y
    rw[O,pO,iz] at q;rw[P];exact q
def h104 {d:List aC} (z:Sz d) (A:Acc d) {all:List ck} (q:all.Nodup) (l:all.length<=1048576) (F:∀x∈all,x∈kz d):∀(xs:List ck) (i:Nat) (o:List ck),all.drop i=xs->o.length<=i->
  G3 d all i o=some (o++xs.filter (sd d all)):=by
 have N:=z.len;intro xs;induction xs with
 |nil=>intro i o h G;refine acj ?_;rw[bp h];simp
 |cons x xs w=>intro i o h G;refine acj ?_;have D:=dY h;obtain⟨u,H,_,B,I⟩:=c138 z A (F x (aV (cr h)));rw[aT h,au,aK h,H,aj];refine h104b z (cr h) q l af B af all 0 true rfl ?_;rw[iz,nH];cases L:sd d all x with
  |true=>rw[aB rfl,aB rfl,w (i+1) (o++[x]) (aI h) aH];simp
  |false=>rw[az ai,az ai,w (i+1) o (aI h) af]
noncomputable def wB (d:List aC) (l:List ck):List ck:=(oJ (l.filter λs=>decide (s∈kz d))).filter (sd d (oJ (l.filter λs=>decide (s∈kz d))))
def c104 {d:List aC} (z:Sz d) (A:Acc d) (l:List ck) (q:l.length<=1048576):f104 d l=some (wB d l):=by
 refine e104 ?_;rw[c137 z l q,aj];have B:=qo (l.filter λs=>decide (s∈kz d));have D:=ve (λs=>decide (s∈kz d)) l
 have:=h104 z A (all:=oJ (l.filter λs=>decide (s∈kz d))) (mh _).nodup af (λx w=>by
  have:=gw.1 w
  simpa using(cT.1 this).2) _ 0 [] rfl ai
 exact this
end Go.Proofs.YthphfjcnkinkpaaGreatDoor.cl
namespace Go.AM
section
variable {K V:Type}
def T0 (k:K):FC ([]:List (K×V)) k=none:=by simp[FC]
def NR (x:K×V) (l:List (K×V)) (k:K):FC (x::l) k=open Classical in if k=x.1 then some 0 else(FC l k).map (· +1):=by unfold FC;rw[uU];by_cases h:k=x.1<;>simp[h]
def Kr (k:K):getM ([]:List (K×V)) k=none:=by simp[getM,T0]
def yN (x:K×V) (l:List (K×V)) (k:K):getM (x::l) k=open Classical in if k=x.1 then some x.2 else getM l k:=by
 unfold getM;rw[NR];by_cases h:k=x.1
 .simp[h]
 .simp only[h,gG];cases FC l k<;>simp
def ad4 (k:K) (v:V):yt [] k v=[(k,v)]:=by simp[yt,T0]
def aag (x:K×V) (l:List (K×V)) (k:K) (v:V):yt (x::l) k v=open Classical in if k=x.1 then(k,v)::l else x::yt l k v:=by
 unfold yt;rw[NR];by_cases h:k=x.1
 .simp[h]
 .simp only[h,gG];cases FC l k<;>simp
def yO (k k':K) (v:V):∀l:List (K×V),getM (yt l k v) k'=open Classical in if k'=k then some v else getM l k':=by intro l;induction l with
 |nil=>rw[ad4,yN,Kr]
 |cons x l w=>
  rw[aag];by_cases h:k=x.1
  .rw[aB h,yN,yN];by_cases q:k'=k
   .simp[q]
   .have:¬k'=x.1:=λe=>q (by rw[e,h])
    simp[q,this]
  .rw[az h,yN,w,yN];by_cases q:k'=x.1
   .have:¬k'=k:=λe=>h (by rw[<-e,q])
    simp[q,this];intro e;exact absurd e (λe=>h e.symm)
   .simp[q]
def MD (k:K) (v:V) (l:List (K×V)):getM (yt l k v) k=some v:=by rw[yO];simp
def HN {k k':K} (h:k'≠k) (v:V) (l:List (K×V)):getM (yt l k v) k'=getM l k':=by rw[yO,az h]
variable {R:Type}
def Am {l:List (K×V)} {k:K} {v:V} (h:getM l k=some v) (f:V->Option R) (z:Option R):A7 l k f z=f v:=by unfold A7;rw[h]
def Aj {l:List (K×V)} {k:K} (h:getM l k=none) (f:V->Option R) (z:Option R):A7 l k f z=z:=by unfold A7;rw[h]
def CN {l:Type} (x:l) (k:l->Option R):Bm x k=k x:=rfl
end
end Go.AM
namespace Go.Proofs.YthphfjcnkinkpaaGreatDoor.cl
open Go Go.AM
end Go.Proofs.YthphfjcnkinkpaaGreatDoor.cl
namespace Go.Proofs.YthphfjcnkinkpaaGreatDoor.cl
open Go Go.AM
def mk (w:Nat):List Nat->Nat
 |[]=>w
 |j::l=>mk (w|||2^ j) l
def mk_bit:∀(l:List Nat) (w i:Nat),(mk w l).testBit i=(w.testBit i||decide (i∈l)):=by intro l;induction l with
 |nil=>simp[mk]
 |cons j l q=>intro w i;rw[mk];grind
def FD {j:Nat} (h:j<64):2^ j<18446744073709551616:=by have:=Nat.pow_lt_pow_right (a:=2) af h;omega
def mk_lt:∀(l:List Nat) (w:Nat),w<18446744073709551616->(∀j∈l,j<64)->mk w l<18446744073709551616:=by intro l;induction l with
 |nil=>intro w h _;exact h
 |cons j l B=>intro w h q;exact B _ (adY h (FD (q j ai))) λk z=>q k (by simp[z])
abbrev ad5 (w:Nat):W:=(w:Int)::List.replicate 63 0
def Wn (w:Nat):norm (ad5 w)=e1 w:=by rw[<-Je w];apply TM;intro j;cases j with
 |zero=>rw[Od];rfl
 |succ j=>rw[W5];unfold wd ad5;grind
def aek {x:Nat} (h:x<64):Int.tdiv (x:Int) 64=0:=by grind
theorem aem {x:Nat} (h:x<64):Int.tmod (x:Int) 64=(x:Int):=by grind
theorem xT {p:Nat} (h:p<18446744073709551616):wrap .u64 (p:Int)=(p:Int):=AX af af
def h100 {l:List Nat} (O:l.length<=1048576) (B:∀j∈l,j<64):∀(xs:List Nat) (i w:Nat),l.drop i=xs->w<18446744073709551616->Ql (cast l) i (ad5 w)=some (e1 (mk w xs),0):=by intro xs;induction xs with
 |nil=>intro i w h D;refine ach ?_;rw[bp (abc h),aA,c60 _ ai,Wn];rfl
 |cons x xs N=>
  intro i w h D;refine ach ?_;have q:x<64:=B x (aV (cr h));have z:wrap .i64 (Int.tdiv (x:Int) 64)=0:=by rw[aek q];rfl
  have F:wrap .u64 (Int.tmod (x:Int) 64)=(x:Int):=by rw[aem q,xT af]
  have G:min x (IntKind.bits .u64)=x:=by show min x 64=x;omega
  have H:wrap .u64 (1 *2^ x)=((2^ x:Nat):Int):=by
   have L:=FD q
   have:(1 *2^ x:Int)=((2^ x:Nat):Int):=ai
   rw[this,xT L]
  have I:wrap _ _=((w|||2^ x:Nat)):=adX D (FD q);simp only[aK (Gu h),aT (Gu h),au,z,F,G,H,aZ,aQ (Gu h) aH];rw[cond_neg ai,cond_neg aH,bW (by decide),bW (by decide),bW ai,kS (x:=(w:Int)) ai,bW (by decide),bW af,bW ai,kS (x:=(w:Int)) ai,I];exact N _ _ (aI h) (adY D (FD q))
def c100 {l:List Nat} (w:l.length<=1048576) (q:∀j∈l,j<64):f100 (cast l)=some (e1 (mk 0 l),0):=by refine e100 ?_;rw[bW (by decide)];exact h100 w q l 0 0 rfl af
def c103 {w i:Nat} (I:w<18446744073709551616) (F:i<64):f103 (e1 w) i=some (w.testBit i):=by
 refine e103 ?_;have l:wrap .i64 (Int.tdiv (i:Int) 64)=0:=by rw[aek F];rfl
 have q:wrap .u64 (Int.tmod (i:Int) 64)=(i:Int):=by grind[aem,xT]
 have z:min i (IntKind.bits .u64)=i:=by show min i 64=i;omega
 simp only[l,q,z,aZ];rw[cond_neg ai,bW (by decide)];by_cases D:w=0
 .simp_all[cond_pos,e1]
 .have G:e1 w=[(w:Int)]:=by simp[e1,D]
  rw[G,cond_neg ai,bW (by decide),Kq (x:=(w:Int)) af ai,bW (by decide),bW af];have H:w / 2^ i<18446744073709551616:=nv (Nat.div_le_self _ _) I;have B:=Gm H (v:=1) af;unfold Hy at B;congr 1;grind
def bitsOf (w:Nat):List Nat:=(List.range 64).filter w.testBit
def h139 {w:Nat} (G:w<18446744073709551616) (z:w≠0):∀(n i:Nat),64-i=n->i<=64->LI (e1 w) i (cast ((List.range i).filter w.testBit))=some (cast (bitsOf w)):=by
 have F:e1 w=[(w:Int)]:=by simp[e1,z]
 have l:wrap .i64 (64 *((e1 w).length:Int))=64:=by rw[F];rfl
 intro n;induction n with
 |zero=>
  intro i D q;obtain rfl:i=64:=by omega
  refine VM ?_;rw[l,cond_neg ai];rfl
 |succ n H=>intro i D q;refine VM ?_;have B:=H (i+1) af af;rw[kE,EG] at B;rw[l,cond_pos aH,c103 G af,aj,bM af];cases I:w.testBit i with
  |true=>
   rw[cC _ (by grind) ai af];grind
  |false=>simp_all
def c139 {w:Nat} (q:w<18446744073709551616):f139 (e1 w)=some (cast (bitsOf w)):=by
 refine e139 ?_;by_cases l:w=0
 .subst l;refine VM ?_;rfl
 .exact h139 q l _ 0 rfl af
def pc (w:Nat):Nat:=(bitsOf w).length
def c105 {w:Nat} (l:w<18446744073709551616):f105 (e1 w)=some (pc w:Int):=by refine e105 ?_;rw[c139 l,aj,bf];rfl
def Gz {w:Type} {p q:w->Bool}:∀{l:List w},(∀x∈l,p x=true->q x=true)->(∃x∈l,p x=false/\q x=true)->(l.filter p).length<(l.filter q).length:=by intro l;induction l with
 |nil=>simp
 |cons y l F=>
  have B:∀{l:List _},(∀x∈l,p x=true->q x=true)->(l.filter p).length<=(l.filter q).length:=by intro l;induction l with
   |nil=>simp
   |cons z l D=>grind
  grind
def pc_lt {a b:Nat} (B:b<18446744073709551616) (h:sub a b=true) (l:a≠b):pc a<pc b:=by
 apply Gz
 .simp_all[j0]
 .apply ff;intro z;apply l;refine sL h (j0.2 λi q=> ?_);have w:i<64:=by
   apply ff;intro z
   have:b.testBit i=false:=zK (fG (by omega:b<2^ 64) (u6 af af))
   rw[this] at q;cases q
  grind
open Classical in
noncomputable def idxs (d:List aC) (all:List ck) (x:ck):List Nat:=(List.range all.length).filter λi=>decide (Le d x (all.getD i []))
noncomputable def cw (d:List aC) (all:List ck) (x:ck):Nat:=mk 0 (idxs d all x)
theorem Ab {d:List aC} {all:List ck} {x:ck} {i:Nat}:(cw d all x).testBit i=true↔i<all.length/\Le d x (all.getD i []):=by simp_all[cw,mk_bit,idxs]
theorem abn {d:List aC} {all:List ck} {x:ck} (h:all.length<=64):cw d all x<18446744073709551616:=mk_lt _ _ af λj l=>by have:=gQ.1 (cT.1 l).1;omega
def h53 {d:List aC} {all low:List ck} {x:ck} (l:all.length<=64) (B:low.length<=1048576) (I:∀y,y∈low↔Le d x y):∀(n i:Nat),all.length-i=n->i<=all.length->
  Up all low i (cast (open Classical in (List.range i).filter λi=>decide (Le d x (all.getD i []))))=some (e1 (cw d all x)):=by
 intro n;induction n with
 |zero=>
  intro i D w;obtain rfl:i=all.length:=by omega
  refine k53_4 ?_;have z:(idxs d all x).length<=64:=by refine fO (ve _ _) ?_;simpa using l
  have:=c100 (l:=idxs d all x) af λj F=>by have:=gQ.1 (cT.1 F).1;omega
  unfold idxs at this;rw[cond_neg ai,this];rfl
 |succ n G=>
  intro i D w;refine k53_4 ?_;have z:=G (i+1) af af;rw[kE,EG] at z;have q:i<all.length:=af;have H:all[i]=all.getD i []:=by rw[bw,aM q];rfl
  rw[cond_pos aH,cH q,c37 _ _ af,aj,bM af];by_cases L:Le d x (all.getD i [])
  .rw[cC _ (by
    grind) ai af]
   grind
  grind
def c53 {d:List aC} (z:Sz d) {all:List ck} (q:all.length<=64) {x:ck} (D:x∈kz d):f53 d all x=some (e1 (cw d all x)):=by refine e53 ?_;obtain⟨l,w,_,B,F⟩:=c99 z D;have:=z.len;rw[w,aj];exact h53 q af B _ 0 rfl af
def h101 {l:List Nat} (z:∀c∈l,c<18446744073709551616) (B:l.length<=1048576) {w:Nat} (D:w<18446744073709551616):∀(xs:List Nat) (i:Nat),l.drop i=xs->Qm (l.map e1) (e1 w) i=some (decide (w∈xs)):=by intro xs;induction xs with
 |nil=>grind[aci,bp]
 |cons x xs F=>
  intro i h;refine aci ?_;have q:(l.map e1).drop i=e1 x::xs.map e1:=by rw[<-pV,h];rfl
  rw[aT q,aK q,o57 (z x (aV (cr h))) D,aQ q aH,F _ (aI h)];grind
def c101 {q:List Nat} (z:∀c∈q,c<18446744073709551616) (l:q.length<=1048576) {w:Nat} (B:w<18446744073709551616):f101 (q.map e1) (e1 w)=some (decide (w∈q)):=e101 (h101 z l B _ 0 rfl)
def Bt (l:List Nat) (b:Nat):List Nat:=if b=0\/b∈l then l else l++[b]
def sU (i:Nat):Nat->Nat->List Nat->List Nat
 |0,_,l=>l
 |n+1,k,l=>if l.length<=256 then sU i n (k+1) (Bt l (l.getD i 0&&&l.getD k 0)) else l
def qv:Nat->Nat->List Nat->List Nat
 |0,_,l=>l
 |n+1,i,l=>if i<l.length/\l.length<=256 then qv n (i+1) (sU i i 0 l) else l
def Bo (l:List Nat):List Nat:=qv 258 0 l
def JL (l:List Nat) (b:Nat):∃e,Bt l b=l++e/\e.length<=1:=by
 unfold Bt;split
 .simp
 simp
def Nj (i:Nat):∀(n k:Nat) (l:List Nat),l.length<=257->∃e,sU i n k l=l++e/\(l++e).length<=257:=by intro n;induction n with
 |zero=>simp_all[sU]
 |succ n B=>
  intro k l h;unfold sU;split
  .obtain⟨e,F,z⟩:=JL l (l.getD i 0&&&l.getD k 0);obtain⟨D,w,q⟩:=B (k+1) (Bt l (l.getD i 0&&&l.getD k 0)) (by grind);simp_all
  simp_all
def Xd {l:List Nat} {b:Nat} (z:∀c∈l,c<18446744073709551616) (w:b<18446744073709551616):∀c∈Bt l b,c<18446744073709551616:=by intro c q;unfold Bt at q;grind
def getD_map {l:List Nat} {i:Nat} (h:i<l.length):(l.map e1)[i]? =some (e1 (l.getD i 0)):=by simp_all
theorem OW {l:List Nat} {i:Nat} (q:∀c∈l,c<18446744073709551616) (h:i<l.length):l.getD i 0<18446744073709551616:=q _ (lF h)
def h54b {i:Nat}:∀(n k:Nat) (l:List Nat),i-k=n->k<=i->i<l.length->l.length<=257->(∀c∈l,c<18446744073709551616)->∀r,
  N4 (i+1:Nat) ((sU i n k l).map e1)=some r->N5 i k (l.map e1)=some r:=by
 intro n;induction n with
 |zero=>intro k l hn S I F w r H;refine k54_6 ?_;rw[cond_neg aH,bM af];exact H
 |succ n ih=>
  intro k l hn S I F w r H;refine k54_6 ?_;rw[cond_pos aH,bM af,bM af];unfold sU at H;by_cases B:l.length<=256
  .rw[aB B] at H;have D:=OW w I;have L:=OW w (show k<l.length by omega);have z:l.getD i 0&&&l.getD k 0<18446744073709551616:=nv rS D;rw[cond_pos aH,bW aH,aZ,kS (getD_map I),bW aH,aZ,kS (getD_map af),o61 D L,aj];have G:=JL l (l.getD i 0&&&l.getD k 0);have q:(Bt l (l.getD i 0&&&l.getD k 0)).length<=257/\i<(Bt l (l.getD i 0&&&l.getD k 0)).length:=by
    obtain⟨e,Q,U⟩:=G;rw[Q];simp;omega
   have O:=ih (k+1) (Bt l (l.getD i 0&&&l.getD k 0)) af af q.2 q.1 (Xd w z) r H;by_cases P:l.getD i 0&&&l.getD k 0=0
   .simp_all[cond_neg,e1,Bt]
   .have N:(e1 (l.getD i 0&&&l.getD k 0)).length=1:=by
     unfold e1;rw[az P];rfl
    rw[cond_pos (by simp_all),c101 w af z];by_cases hm:l.getD i 0&&&l.getD k 0∈l
    .simp_all[Bt]
    .rw[cC _ aH ai af];simp_all[Bt]
  grind
theorem abF (i:Nat):∀(n k:Nat) (l:List Nat),(∀c∈l,c<18446744073709551616)->∀c∈sU i n k l,c<18446744073709551616:=by intro n;induction n with
 |zero=>intro k l h;exact h
 |succ n q=>
  intro k l h;unfold sU;split
  .refine q _ _ (Xd h ?_);by_cases w:i<l.length
   .grind[Nat.and_le_left,OW]
   simp_all
  omega
def h54:∀(n i:Nat) (l:List Nat),258<=i+n->l.length<=257->(∀c∈l,c<18446744073709551616)->N4 i (l.map e1)=some ((qv n i l).map e1):=by intro n;induction n with
 |zero=>intro i l D q w;refine k54_3 ?_;rw[cond_neg aH];rfl
 |succ n H=>
  intro i l D q w;refine k54_3 ?_;unfold qv;by_cases z:i<l.length
  .rw[cond_pos aH];by_cases F:l.length<=256
   .rw[cond_pos aH];obtain⟨e,G,B⟩:=Nj i i 0 l q;refine h54b i 0 l rfl af z q w _ ?_;grind[abF]
   grind
  grind
def c54 {l:List Nat} (q:∀c∈l,c<18446744073709551616) (w:l.length<=256):f54 (l.map e1)=some ((Bo l).map e1):=by refine e54 ?_;rw[cC _ ai aH af];exact h54 _ 0 _ af af q
structure Fm (cs l:List Nat):Prop where
 nd:l.Nodup
 nz:∀c∈l,c≠0
 gen:∀P:Nat->Prop,(∀c∈cs,P c)->(∀a b,P a->P b->P (a&&&b))->∀c∈l,P c
 pre:∃e,l=cs++e
def Fm.add {D l:List Nat} (h:Fm D l) {i k:Nat} (F:i<l.length) (G:k<l.length):Fm D (Bt l (l.getD i 0&&&l.getD k 0)):=by
 unfold Bt;split
 .exact h
 .refine⟨?_,?_,?_,?_⟩
  .rw[jq];exact⟨h.nd,by simp,λa H b I=>by grind⟩
  .intro c w;rcases bu.1 w with q|q
   .exact h.nz c q
   simp_all
  .intro P B z c w;rcases bu.1 w with q|q
   .exact h.gen P B z c q
   .simp at q;subst q;exact z _ _ (h.gen P B z _ (lF F)) (h.gen P B z _ (lF G))
  .obtain⟨e,L⟩:=h.pre;simp_all
theorem addF_in (l:List Nat) (b:Nat):b=0\/b∈Bt l b:=by grind[Bt]
def Vq {z:List Nat} (i:Nat):∀(n k:Nat) (l:List Nat),Fm z l->i<l.length->k+n<=i->Fm z (sU i n k l)/\((sU i n k l).length<=256->∀j,k<=j->j<k+n->l.getD i 0&&&l.getD j 0=0\/l.getD i 0&&&l.getD j 0∈sU i n k l)/\∃e,sU i n k l=l++e:=by intro n;induction n with
 |zero=>intro k l h B G;exact⟨h,λ_ j P Q=>by omega,[],by simp[sU]⟩
 |succ n H=>
  intro k l h B G;unfold sU;split
  .obtain⟨e,F,_⟩:=JL l _;have w:i<(Bt l (l.getD i 0&&&l.getD k 0)).length:=by rw[F];simp;omega
   obtain⟨I,L,O,N⟩:=H (k+1) _ (h.add B af) w af;grind[addF_in]
  .rename_i D;refine⟨h,λq=>absurd q D,[],ai⟩
def SC {B:List Nat}:∀(n i:Nat) (l:List Nat),258<=i+n->l.length<=257->Fm B l->(∀a b,a<i->b<a->a<l.length->l.getD a 0&&&l.getD b 0=0\/l.getD a 0&&&l.getD b 0∈l)->
  Fm B (qv n i l)/\(qv n i l).length<=257/\((qv n i l).length<=256->∀a b,b<a->a<(qv n i l).length->(qv n i l).getD a 0&&&(qv n i l).getD b 0=0\/(qv n i l).getD a 0&&&(qv n i l).getD b 0∈qv n i l):=by
 intro n;induction n with
 |zero=>intro i l N q h D;exact⟨h,q,λ_ a b G H=>D a b af G H⟩
 |succ n U=>
  intro i l N q h D;unfold qv;split
  .rename_i L;obtain⟨O,P,e,Q⟩:=Vq i i 0 l h L.1 af;obtain⟨S,I,F⟩:=Nj i i 0 l q;by_cases w:(sU i i 0 l).length<=256
   .grind
   .have z:∀n,qv n (i+1) (sU i i 0 l)=sU i i 0 l:=by
     intro n;cases n with
     |zero=>rfl
     |succ n=>simp_all[qv,az]
    grind
  grind
def E6 {l:List Nat} (G:l.Nodup) (H:∀c∈l,c≠0) (L:l.length<=256):Fm l (Bo l)/\(Bo l).length<=257/\((Bo l).length<=256->∀a∈Bo l,∀b∈Bo l,a&&&b≠0->a&&&b∈Bo l):=by
 obtain⟨D,N,I⟩:=SC 258 0 _ af af ⟨G,H,λP D _=>D,[],ai⟩ (λa b h=>by omega);refine⟨D,N,λw a O b Q q=> ?_⟩;obtain⟨i,S,rfl⟩:=jo.1 O;obtain⟨j,U,rfl⟩:=jo.1 Q;have z:(Bo _)[i]=(Bo l).getD i 0:=by rw[bw,aM _];rfl
 have B:(Bo _)[j]=(Bo l).getD j 0:=by rw[bw,aM _];rfl
 rw[z,B] at q⊢;by_cases e:i=j
 .grind
 .by_cases F:j<i
  .exact(I w i j F S).resolve_left q
  .rw[Nat.and_comm] at q⊢;exact(I w j i af U).resolve_left q
