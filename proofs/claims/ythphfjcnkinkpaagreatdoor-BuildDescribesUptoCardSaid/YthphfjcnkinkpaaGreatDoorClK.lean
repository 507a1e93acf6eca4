/- The Closure laws. -/
import Derived.Test.YthphfjcnkinkpaaGreatDoorClC
import Derived.Lib.DecodeN
set_option linter.all false
open Go.IntKind (wrap)
namespace Go.Proofs.YthphfjcnkinkpaaGreatDoor.cl
open Go Go.AM
def h112 (t:aC) (o:List cn) (l:o.length<=1073741824) (q:t.ee.length<=1073741824):∀(xs:List cn) (i:Nat),t.ee.drop i=xs->Qa o i t=some (xs.all λs=>decide (s∈o)):=by intro xs;induction xs with
 |nil=>grind[ab5,aW]
 |cons x xs w=>intro i h;refine ab5 ?_;rw[aP h,aJ h,c37 _ _ l,aN h q,w _ (aH h)];grind
def c112 (t:aC) (o:List cn) (l:o.length<=1073741824) (q:t.ee.length<=1073741824):f112 t o=some (t.ee.all λs=>decide (s∈o)):=e112 (h112 t o l q _ 0 rfl)
structure Sz (d:List aC):Prop where
 len:d.length<=1048576
 sup:∀t∈d,t.ee.length<=1048576
structure UG (d:List aC) (o:List cn):Prop where
 nd:o.Nodup
 sub:∀x∈o,x∈ku d
 pre:∀i x,o[i]? =some x->∃t∈d,t.Name=x/\∀s∈t.ee,s∈o.take i
def Rdy (d:List aC) (o:List cn) (x:cn):Prop:=∃t∈d,t.Name=x/\x∉o/\∀s∈t.ee,s∈o
def UG.len {d:List aC} {o:List cn} (h:UG d o):o.length<=d.length:=by have:=jA h.nd h.sub;simp_all
def h73b {d:List aC} (z:Sz d) {o:List cn} (ho:o.length<=d.length):∀(xs:List aC) (i:Nat) (more:Bool) (next:cn),d.drop i=xs->(more=true->Rdy d o next)->
  ∃(l:Bool) (q:cn),(l=true->Rdy d o q)/\(l=false->∀t∈xs,t.Name∉o->∃s∈t.ee,s∉o)/\(more=true->l=true)/\
   ∀r,LM d l (if l=true then o++[q] else o)=some r->FH d more next i o=some r:=by
 have hl:=z.len;intro xs;induction xs with
 |nil=>
  intro i more next h L
  refine⟨more,next,L,λ_ t U=>(by cases U),λh=>h,λr w=> ?_⟩;refine X6 ?_;rw[aW h,aA];cases more with
  |true=>rw[ak,cC _ af ai af];assumption
  |false=>simp_all
 |cons x xs ih=>
  intro i more next h L
  have hx:x∈d:=aR (bV h);by_cases O:x.Name∈o
  .obtain⟨G,H,F,a2,D,I⟩:=ih (i+1) more next (aH h) L
   refine⟨G,H,F,λe t U Q=> ?_,D,λr w=> ?_⟩
   .grind
   .refine X6 ?_;rw[aP h,ak,aJ h,c37 _ _ af,aj,cond_pos (by simpa using O),aN h af];exact I r w
  .by_cases P:∀s∈x.ee,s∈o
   .have S:Rdy d o _:=⟨x,hx,rfl,O,P⟩
    have B:(x.ee.all λs=>decide (s∈o))=true:=by rw[cI];intro s hs;simpa using P s hs
    have go:∀N,Rdy d o N->(more=false->N=x.Name)->(more=true->N=if Op.bytesLess x.Name next=true then x.Name else next)->∃(l:Bool) (q:cn),(l=true->Rdy d o q)/\(l=false->∀t∈x::xs,t.Name∉o->∃s∈t.ee,s∉o)/\(more=true->l=true)/\
      ∀r,LM d l (if l=true then o++[q] else o)=some r->FH d more next i o=some r:=by
     intro N Q e1 e2;obtain⟨G,H,F,a2,D,I⟩:=ih _ _ _ (aH h) (λ_=>Q);refine⟨G,H,F,λe=>(by rw[D rfl] at e;cases e),λ_=>D rfl,λr w=> ?_⟩;have w:=I r w;refine X6 ?_;rw[aP h,ak,aJ h,c37 _ _ af,aj,cond_neg (by simpa using O),aJ h,c112 _ _ af (by have:=z.sup x hx;omega),aj,B,dS,aA];cases more with
     |false=>rw[fS,ak,aJ h,aN h af];rw[e1 rfl] at w;exact w
     |true=>rw[aJ h,aJ h,aN h af];grind
    cases hm:more with
    |false=>rw[hm] at go;exact go _ S (λ_=>rfl) (λe=>by cases e)
    |true=>rw[hm] at go;refine go _ ?_ (λe=>by cases e) (λ_=>rfl);grind
   .obtain⟨G,H,F,a2,D,I⟩:=ih _ _ _ (aH h) L;have B:(x.ee.all λs=>decide (s∈o))=false:=by
     apply fh;intro hc;exact P λs hs=>by simp_all
    refine⟨G,H,F,λe t U Q=> ?_,D,λr w=> ?_⟩
    .grind
    .refine X6 ?_;rw[aP h,aJ h,c37 _ _ af,aJ h,c112 _ _ af (by have:=z.sup x hx;omega),B,aN h af];simp_all
def h73 {d:List aC} (z:Sz d):∀(n:Nat) (o:List cn),d.length-o.length=n->UG d o->
  ∃out,UG d out/\(∀t∈d,t.Name∉out->∃s∈t.ee,s∉out)/\LM d true o=some out:=by
 intro n;induction n with
 |zero=>intro o U w;have q:=w.len;obtain⟨F,G,B,H,L,I⟩:=h73b z q d 0 false [] rfl (λe=>by cases e);cases F with
  |false=>simp_all[adm]
  |true=>
   obtain⟨t,ht,e,D,hs⟩:=B rfl
   have:(o++[G]).length<=(ku d).length:=jA (by
    rw[ig]
    exact⟨w.nd,by simp,λa O b P=>by grind⟩) (λx l=>by
     rcases bu.1 l with l|l
     .exact w.sub x l
     grind)
   grind
 |succ n ih=>intro o U w;have q:=w.len;obtain⟨F,G,B,H,L,I⟩:=h73b z q d 0 false [] rfl (λe=>by cases e);cases F with
  |false=>simp_all[adm]
  |true=>
   obtain⟨t,ht,e,D,hs⟩:=B rfl;have N:UG d (o++[G]):=by
    refine⟨?_,?_,?_⟩
    .rw[ig];exact⟨w.nd,by simp,λa O b P=>by grind⟩
    .intro x l;rcases bu.1 l with l|l
     .exact w.sub x l
     grind
    .intro i x l;by_cases Q:i<o.length
     .rw[fV Q] at l;obtain⟨u,hu,e1,h1⟩:=w.pre i x l;grind
     .have S:i=o.length:=by
       apply fh;intro hc;rw[gH aI] at l;cases l
      grind
   obtain⟨out,b1,b2,b3⟩:=ih _ aI N;simp_all[adm]
def c73 {d:List aC} (z:Sz d):∃out,UG d out/\(∀t∈d,t.Name∉out->∃s∈t.ee,s∉out)/\f73 d=some out:=by obtain⟨out,q,w,B⟩:=h73 z _ [] rfl ⟨ai,λx l=>(by cases l),λi x l=>(by simp at l)⟩;simp_all[e73]
def Dk (d:List aC):Prop:=∃r:cn->Nat,∀t∈d,∀s∈t.ee,r s<r t.Name
def KN {d:List aC} {o:List cn} (I:(ku d).Nodup) (z:UG d o) (D:∀t∈d,t.Name∈o):Dk d:=by
 refine⟨λx=>o.idxOf x,λt B s L=> ?_⟩;have H:=D t B;have P :=List.idxOf_lt_length_iff.2 H;have l:o[o.idxOf t.Name]? =some t.Name:=by simp_all
 obtain⟨u,N,e,q⟩:=z.pre _ _ l;have w:u=t:=by
  obtain⟨i,F,rfl⟩:=jw.1 N;obtain⟨j,G,rfl⟩:=jw.1 B
  have:(ku d)[i]'(by simp_all)=(ku d)[j]'(by simp_all):=by simpa using e
  have:=(rU I).1 this;subst this;rfl
 subst w;have:=q s L;rw[uX] at this;obtain⟨k,Q,rfl⟩:=this;have O:o.idxOf o[k]=k:=z.nd.idxOf_getElem k _;grind
def JT {d:List aC} {o:List cn} (l:∀t∈d,∀s∈t.ee,s∈ku d) (q:∀t∈d,t.Name∉o->∃s∈t.ee,s∉o) (w:Dk d):∀t∈d,t.Name∈o:=by
 obtain⟨r,w⟩:=w;have key:∀(n) (t),t∈d->r t.Name=n->t.Name∈o:=by intro n;induction n using Nat.strongRecOn with
  |_ n z=>grind
 simp_all
def FK (d:List aC):Nat:=(d.filter λt=>t.ee.length==0).length
open Classical in
noncomputable def Ir (d:List aC):Int:=
 if UP d=true then 7 else if xm [] d≠0 then xm [] d else if yL (ku d) d≠0 then yL (ku d) d else if FK d≠1 then 1 else if Dk d then 0 else 6
def h32 {d:List aC} (z:Sz d) (P:xm [] d=0) (Q:yL (ku d) d=0):∀(xs:List aC) (i n:Nat),d.drop i=xs->n<=i->
  Lf d n i=some (open Classical in if n+FK xs≠1 then 1 else if Dk d then 0 else 6):=by
 have hl:=z.len;intro xs;induction xs with
 |nil=>
  intro i n h U;refine acg ?_;obtain⟨out,G,L,N⟩:=c73 z;have B:=((Ko d []).1 P).2.1;have w:∀t∈d,∀s∈t.ee,s∈ku d:=λt D=>((K4 _ d).1 Q t D).1
  rw[aW h,aA];have O:n+FK []=n:=rfl;rw[O];by_cases H:n=1
  .rw[cond_neg aI,N,aj,az af];by_cases F:Dk d
   .have l:=JT w L F
    have:(ku d).length<=out.length:=jA B λx q=>by obtain⟨t,D,rfl⟩:=aG.1 q;exact l t D
    simp only[bz] at this;rw[cond_neg aI,aB F]
   .have:out.length<d.length:=by
     apply fh;intro hc;apply F;refine KN B G λt D=> ?_
     exact Wi G.nd G.sub aI _ (nP D)
    rw[cond_pos aI,az F]
  .rw[cond_pos aI,aB H]
 |cons x xs I=>
  intro i n h U;refine acg ?_;have S:=dN h;rw[aP h,ak,aJ h,aN h af,bM af];by_cases q:x.ee.length=0
  .rw[cond_pos (by simpa using q),I (i+1) (n+1) (aH h) af]
   have:FK (x::xs)=FK xs+1:=by simp[FK,nM,q]
   rw[this,show n+1+FK xs=n+(FK xs+1) by omega]
  .rw[cond_neg (by simpa using q),I (i+1) n (aH h) af]
   have:FK (x::xs)=FK xs:=by
    have:(x.ee.length==0)=false:=by simpa using q
    simp[FK,nM,this]
   rw[this]
def c32 {d:List aC} (z:Sz d):f32 d=some (Ir d):=by
 have D:=z.len;refine e32 ?_;rw[c70,aj,c71 d af,aj,c72 d af (λt B=>by have:=z.sup t B;omega),aj];unfold Ir;by_cases q:UP d=true
 .rw[aB q,aB q];rfl
 .rw[az q,az q];by_cases l:xm [] d=0
  .by_cases w:yL (ku d) d=0
   .have:=h32 z l w d 0 0 rfl af;rw[l,w,az ai,az ai];simpa using this
   .rw[aB w,l,az ai];rw[cond_neg ai,cond_neg ai,cond_pos (by simpa using w)]
  .rw[aB l,cond_neg ai,cond_pos (by simpa using l)]
structure Acc (d:List aC):Prop where
 nd:(ku d).Nodup
 name:∀t∈d,isName t.Name=true
 dec:∀t∈d,∀s∈t.ee,s∈ku d
 top:FK d=1
 rk:Dk d
def Jh {d:List aC} (h:Ir d=0):Acc d:=by
 unfold Ir at h;split at h
 .cases h
 split at h
 .rename_i l;exact absurd h l
 split at h
 .rename_i l;exact absurd h l
 split at h
 .cases h
 split at h
 .rename_i I l D F G;have q:xm [] d=0:=fh l;have w:yL (ku d) d=0:=fh D;obtain⟨z,B,_⟩:=(Ko d []).1 q;exact⟨B,z,λt H=>((K4 _ d).1 w t H).1,fh F,G⟩
 .cases h
end Go.Proofs.YthphfjcnkinkpaaGreatDoor.cl
namespace Go.Proofs.YthphfjcnkinkpaaGreatDoor.cl
open Go Go.AM
def dn (d:List aC) (x:cn):List cn:=(d.filter λt=>decide (x∈t.ee)).map (·.Name)
def up (d:List aC) (x:cn):List cn:=match d.find? (λt=>t.Name==x) with
 |some t=>t.ee
 |none=>[]
theorem Kk {d:List aC} {x y:cn}:y∈dn d x↔∃t∈d,t.Name=y/\x∈t.ee:=by simp[dn];grind
def U9 {d:List aC} {x y:cn} (h:y∈dn d x):y∈ku d:=by grind[Kk]
def nd_eq {d:List aC} (w:(ku d).Nodup) {t u:aC} (z:t∈d) (B:u∈d) (e:t.Name=u.Name):t=u:=by
 obtain⟨i,l,rfl⟩:=jw.1 z;obtain⟨j,q,rfl⟩:=jw.1 B
 have:(ku d)[i]'(by simp_all)=(ku d)[j]'(by simp_all):=by simpa using e
 have:=(rU w).1 this;simp_all
def ael {d:List aC} (q:(ku d).Nodup) {t:aC} (w:t∈d):up d t.Name=t.ee:=by unfold up;cases e:d.find? _ with
 |none=>grind
 |some u=>have z:=nN e;have l:=lR e;rw[nd_eq q l w (by simp_all)]
def ads {d:List aC} (l:(ku d).Nodup) {x y:cn} (z:x∈ku d):y∈up d x↔x∈dn d y:=by
 obtain⟨t,q,rfl⟩:=aG.1 z;rw[ael l q,Kk];constructor
 .grind
 .rintro⟨u,w,e,h⟩;rw[nd_eq l w q e] at h;exact h
abbrev Le (d:List aC) (x y:cn):Prop:=qG (dn d) x y
def TT {d:List aC} (A:Acc d) {x y:cn} (D:x∈ku d) (h:qG (up d) x y):y∈ku d/\Le d y x:=by induction h with
 |refl=>exact⟨D, .refl⟩
 | @step y z G l F=>
  obtain⟨w,B⟩:=F;refine⟨?_,?_⟩
  .obtain⟨t,q,e⟩:=aG.1 w;subst e;rw[ael A.nd q] at l;exact A.dec t q _ l
  .exact qG.trans (.step .refl ((ads A.nd w).1 l)) B
def qG.head {next:cn->List cn} {x y z:cn} (l:y∈next x) (q:qG next y z):qG next x z:=qG.trans (.step .refl l) q
theorem aem {d:List aC} (A:Acc d) {x y:cn} (h:Le d y x):qG (up d) x y:=by induction h with
 |refl=>exact .refl
 | @step u v w l q=>exact qG.head ((ads A.nd (U9 l)).2 l) q
def PL {d:List aC} (A:Acc d) {x y:cn} (l:x∈ku d):qG (up d) x y↔Le d y x:=⟨λh=>(TT A l h).2,aem A⟩
def Pb {d:List aC} {r:cn->Nat} (q:∀t∈d,∀s∈t.ee,r s<r t.Name) {x y:cn} (h:Le d x y):x=y\/r x<r y:=by induction h with
 |refl=>simp
 |step _ l B=>obtain⟨t,z,rfl,w⟩:=Kk.1 l;grind
theorem le_antisymm {d:List aC} (A:Acc d) {x y:cn} (w:Le d x y) (z:Le d y x):x=y:=by
 obtain⟨r,l⟩:=A.rk;rcases Pb l w with h|h
 .exact h
 .rcases Pb l z with q|q
  .simp_all
  omega
def root {d:List aC} (A:Acc d):∃t∈ku d,∀y∈ku d,Le d t y:=by
 have w:=A.top;obtain⟨t,F⟩:=zi.1 w;have B:t∈d.filter (λt=>t.ee.length==0):=by rw[F];simp
 refine⟨_,nP (c7.1 B).1,?_⟩;obtain⟨r,G⟩:=A.rk;have key:∀(n) (u),u∈d->r u.Name=n->Le d t.Name u.Name:=by intro n;induction n using Nat.strongRecOn with
  |_ n I=>intro u z e;cases D:u.ee with
   |nil=>
    have:u∈d.filter (λt=>t.ee.length==0):=c7.2 ⟨z,by simp[D]⟩
    rw[F,cQ] at this;subst this;exact .refl
   |cons s l=>
    have q:s∈u.ee:=by rw[D];simp
    obtain⟨v,H,rfl⟩:=aG.1 (A.dec u z s q);have:=G u z _ q;exact .step (I _ af v H rfl) (Kk.2 ⟨u,z,rfl,q⟩)
 simp_all
def h99b {d:List aC} (z:Sz d) {i:Nat} {x:cn}:∀(xs:List aC) (k:Nat) (o:List cn),d.drop k=xs->o[i]? =some x->o.length+xs.length<=2097152->∀r,
  Ug d (i+1:Nat) (mD o ((xs.filter λt=>decide (x∈t.ee)).map (·.Name)))=some r->NG d i k o=some r:=by
 have L:=z.len;intro xs;induction xs with
 |nil=>intro k o h w l r q;refine k99_8 ?_;have D:=(bR.1 w).1;rw[aW h,aA,bM af];exact q
 |cons t xs B=>
  intro k o h w l r q;refine k99_8 ?_;have D:=(bR.1 w).1;have G:t∈d:=aR (bV h);have F:=z.sup t G;simp only[bD] at l;rw[aP h,ak,aJ h,Bv D,aT,kW w,c37 _ _ af,aj,aN h af,aJ h,c37 _ _ af,aj,aJ h];rw[nM] at q;by_cases H:x∈t.ee
  .rw[cond_pos (by simp_all)];rw[aB (by simp_all),bS] at q;by_cases I:t.Name∈o
   .rw[cond_neg (by simp_all)];refine B (k+1) o (aH h) w af r ?_;simp_all[mD,List.filter,decide]
   .rw[cond_pos (by simp_all),cC _ af ai af];refine B _ _ (aH h) (by grind) aI r ?_;simp_all[mD]
  .rw[cond_neg (by simp_all)];rw[az (by simp_all)] at q;exact B _ o (aH h) w af r q
def h99c (o:List cn) (q:o.length<=1073741824):∀(xs:List cn) (i:Nat) (out:List cn),o.drop i=xs->out.length<=i->GI out i o=some (xs.foldl (λo s=>qU s o) out):=by intro xs;induction xs with
 |nil=>grind[adn,aW]
 |cons x xs w=>intro i out h z;refine adn ?_;have l:=dN h;have:=nD x out;rw[aP h,mh h,me h,c98 _ _ af,aj,aN h q,w _ _ (aH h) af];rfl
def c99 {d:List aC} (z:Sz d) {x:cn} (F:x∈ku d):∃l,f99 d x=some l/\SS l/\(∀y,y∈l↔Le d x y)/\l.length<=d.length:=by
 have P:=z.len;obtain⟨o,L,G,H,N⟩:=search F (λx _ y q=>U9 q) (outer:=λi o=>Ug d i o) (fin:=λo=>GI [] 0 o)
  (λi o B I r D=>by simp_all[k99_5,cond_neg])
  (λi o y B w q _ r D=>by
   have I:=(bR.1 q).1;refine k99_5 ?_;rw[cond_pos aI];simp at B
   exact h99b z d 0 o rfl q af r D)
 simp at H;have Q:GI _ 0 o=some (oO o):=h99c o af o 0 _ rfl ai;refine⟨_,?_,mz o,λy=>by rw[gB,G],by have:=qp o;omega⟩;refine e99 ?_;obtain⟨j,O,e,_⟩:=Iv F;rw[Y5 d _ af,aj,e,cond_neg ai];simp_all
def h138b {d:List aC} (z:Sz d) {i:Nat} {l:List cn} (F:l.length<=1048576):∀(xs:List cn) (k:Nat) (o:List cn),l.drop k=xs->i<o.length->o.length+xs.length<=2097152->∀r,
  K9 d (i+1:Nat) (mD o xs)=some r->La d i l k o=some r:=by
 intro xs;induction xs with
 |nil=>intro k o h w q r B;refine ab8 ?_;rw[aW h,aA,bM af];exact B
 |cons s xs D=>
  intro k o h w q r B;refine ab8 ?_;simp at q;rw[aP h,ak,aJ h,c37 _ _ af,aj,aN h af,aJ h];by_cases G:s∈o
  .rw[cond_neg (by simp_all)];refine D _ o (aH h) w af r ?_;simp_all[mD]
  .rw[cond_pos (by simp_all),cC _ af ai af];refine D _ _ (aH h) aI aI r ?_;simp_all[mD]
def h138c (o:List cn) (q:o.length<=1073741824):∀(xs:List cn) (i:Nat) (out:List cn),o.drop i=xs->out.length<=i->CA out i o=some (xs.foldl (λo s=>qU s o) out):=by intro xs;induction xs with
 |nil=>grind[XH,aW]
 |cons x xs w=>intro i out h z;refine XH ?_;have l:=dN h;have:=nD x out;rw[aP h,mh h,me h,c98 _ _ af,aj,aN h q,w _ _ (aH h) af];rfl
def c138 {d:List aC} (z:Sz d) (A:Acc d) {x:cn} (q:x∈ku d):∃l,f138 d x=some l/\SS l/\(∀y,y∈l↔Le d y x)/\l.length<=d.length:=by
 have hl:=z.len;obtain⟨o,S,L,N,U⟩:=search q (λx q y w=>(TT A q (.step .refl w)).1) (outer:=λi o=>K9 d i o) (fin:=λo=>CA [] 0 o)
  (λi o H B r P=>by simp_all[ab7,cond_neg])
  (λi o y H G w D r P=>by
   have B:=(bR.1 w).1;refine ab7 ?_;obtain⟨j,F,e,O,_⟩:=Iv D;simp at H;rw[cond_pos aI,Bv B,aT,kW w,Y5 d _ af,aj,e,bU _];have I:=z.sup _ (bB F);refine h138b z af d[j].ee 0 o rfl B af r ?_;have Q:up d y=d[j].ee:=by rw[<-O];exact ael A.nd (bB _)
   simp_all)
 simp at N;have hs:CA _ 0 o=some (oO o):=h138c o af o 0 _ rfl ai;refine⟨_,?_,mz o,λy=>by rw[gB,L,PL A q],by have:=qp o;omega⟩;refine e138 ?_;obtain⟨j,F,e,_⟩:=Iv q;rw[Y5 d _ af,aj,e,cond_neg ai];simp_all
def h137 {d:List aC} (z:Sz d) (l:List cn) (F:l.length<=1048576):∀(xs:List cn) (i:Nat) (out:List cn),l.drop i=xs->out.length<=i->K8 d l out i=some ((xs.filter λs=>decide (s∈ku d)).foldl (λo s=>qU s o) out):=by have L:=z.len;intro xs;induction xs with
 |nil=>grind[ab6,aW]
 |cons x xs B=>
  intro i out h I;refine ab6 ?_;have G:=dN h;have:=nD x out;rw[aP h,ak,aJ h,Y5 d _ af,aj,aN h af,aJ h,nM];by_cases q:x∈ku d
  .have D:fd d x>=0:=by
    apply fh;intro H;exact Ov.1 af q
   rw[cond_pos (by simp_all),c98 _ _ af,aj,B _ _ (aH h) af,aB (by simp_all)];rfl
  .have w:=Ov.2 q;rw[cond_neg (by simp_all),B _ _ (aH h) af,az (by simp_all)]
def c137 {d:List aC} (z:Sz d) (l:List cn) (q:l.length<=1048576):f137 d l=some (oO (l.filter λs=>decide (s∈ku d))):=e137 (h137 z l q l 0 _ rfl ai)
open Classical in
noncomputable def sj (d:List aC) (all:List cn) (x:cn):Bool:=all.all λy=>decide (y=x)|| !decide (Le d y x)
def h104b {d:List aC} (z:Sz d) {all up:List cn} {i:Nat} {x:cn} (w:all[i]? =some x) (F:all.Nodup) (L:all.length<=1048576) (S:up.length<=1048576) (Q:∀y,y∈up↔Le d y x) {o:List cn} (U:o.length<=1048576) {r:List cn}:
  ∀(xs:List cn) (k:Nat) (l:Bool),all.drop k=xs->
  Gy d all (i+1:Nat) (if(l&&sj d xs x)=true then o++[x] else o)=some r->Gz d all i up l k o=some r:=by
 intro xs;have B:=(bR.1 w).1;induction xs with
 |nil=>
  intro k l h q;refine ab2 ?_;rw[aW h,aA,bM af];have e:(l&&sj d [] x)=l:=by simp[sj]
  rw[e] at q;cases l with
  |true=>rw[ak,gM w,cC _ af ai af];rw[aB rfl] at q;exact q
  |false=>rw[aA];rw[az ai] at q;exact q
 |cons y xs H=>
  intro k l h q;refine ab2 ?_;rw[aP h,ak,aN h af,aJ h,c37 _ _ af,aj];have e:sj d (y::xs) x=((decide (y=x)|| !(open Classical in decide (Le d y x)))&&sj d xs x):=by simp[sj]
  rw[e] at q;cases l with
  |false=>rw[aA];refine H (k+1) false (aH h) ?_;rw[p5] at q⊢;exact q
  |true=>
   rw[ak];by_cases N:k=i
   .subst N;rw[bV h] at w;obtain rfl:y=x:=fR w;rw[cond_pos ai];refine H (k+1) true (aH h) ?_;have e1:(decide (y=y)|| !(open Classical in decide (Le d y y)))=true:=ai;rw[e1,iF] at q;exact q
   .have G:y≠x:=by
     intro e;subst e;have I:=bV h;have D:=dN h;rw[aM D] at I;rw[aM B] at w;have:=(rU F).1 ((fR I).trans (fR w).symm);exact N this
    rw[cond_neg aI];refine H (k+1) _ (aH h) ?_;have O:decide (y=x)=false:=by simpa using G
    have P:decide (y∈up)=(open Classical in decide (Le d y x)):=by rw[uV];exact Q y
    rw[O,pX,iF] at q;rw[P];exact q
def h104 {d:List aC} (z:Sz d) (A:Acc d) {all:List cn} (q:all.Nodup) (l:all.length<=1048576) (F:∀x∈all,x∈ku d):∀(xs:List cn) (i:Nat) (o:List cn),all.drop i=xs->o.length<=i->
  Gy d all i o=some (o++xs.filter (sj d all)):=by
 have N:=z.len;intro xs;induction xs with
 |nil=>intro i o h G;refine ab1 ?_;rw[aW h];simp
 |cons x xs w=>intro i o h G;refine ab1 ?_;have D:=dN h;obtain⟨u,H,_,B,I⟩:=c138 z A (F x (aR (bV h)));rw[aP h,ak,aJ h,H,aj];refine h104b z (bV h) q l af B af all 0 true rfl ?_;rw[iF,nM];cases L:sj d all x with
  |true=>rw[aB rfl,aB rfl,w (i+1) (o++[x]) (aH h) aI];simp
  |false=>rw[az ai,az ai,w (i+1) o (aH h) af]
noncomputable def wj (d:List aC) (l:List cn):List cn:=(oO (l.filter λs=>decide (s∈ku d))).filter (sj d (oO (l.filter λs=>decide (s∈ku d))))
def c104 {d:List aC} (z:Sz d) (A:Acc d) (l:List cn) (q:l.length<=1048576):f104 d l=some (wj d l):=by
 refine e104 ?_;rw[c137 z l q,aj];have B:=qp (l.filter λs=>decide (s∈ku d));have D:=uY (λs=>decide (s∈ku d)) l
 have:=h104 z A (all:=oO (l.filter λs=>decide (s∈ku d))) (mz _).nodup af (λx w=>by
  have:=gB.1 w
  simpa using(c7.1 this).2) _ 0 [] rfl ai
 exact this
end Go.Proofs.YthphfjcnkinkpaaGreatDoor.cl
namespace Go.AM
section
variable {K V:Type}
def TJ (k:K):E5 ([]:List (K×V)) k=none:=by simp[E5]
def Ns (x:K×V) (l:List (K×V)) (k:K):E5 (x::l) k=open Classical in if k=x.1 then some 0 else(E5 l k).map (· +1):=by unfold E5;rw[uO];by_cases h:k=x.1<;>simp[h]
def JU (k:K):getM ([]:List (K×V)) k=none:=by simp[getM,TJ]
def yq (x:K×V) (l:List (K×V)) (k:K):getM (x::l) k=open Classical in if k=x.1 then some x.2 else getM l k:=by
 unfold getM;rw[Ns];by_cases h:k=x.1
 .simp[h]
 .simp only[h,gL];cases E5 l k<;>simp
def adY (k:K) (v:V):x6 [] k v=[(k,v)]:=by simp[x6,TJ]
theorem Z3 (x:K×V) (l:List (K×V)) (k:K) (v:V):x6 (x::l) k v=open Classical in if k=x.1 then(k,v)::l else x::x6 l k v:=by
 unfold x6;rw[Ns];by_cases h:k=x.1
 .simp[h]
 .simp only[h,gL];cases E5 l k<;>simp
def yt (k k':K) (v:V):∀l:List (K×V),getM (x6 l k v) k'=open Classical in if k'=k then some v else getM l k':=by intro l;induction l with
 |nil=>rw[adY,yq,JU]
 |cons x l w=>
  rw[Z3];by_cases h:k=x.1
  .rw[aB h,yq,yq];by_cases q:k'=k
   .simp[q]
   .have:¬k'=x.1:=λe=>q (by rw[e,h])
    simp[q,this]
  .rw[az h,yq,w,yq];by_cases q:k'=x.1
   .have:¬k'=k:=λe=>h (by rw[<-e,q])
    simp[q,this];intro e;exact absurd e (λe=>h e.symm)
   .simp[q]
def Mf (k:K) (v:V) (l:List (K×V)):getM (x6 l k v) k=some v:=by rw[yt];simp
def Hi {k k':K} (h:k'≠k) (v:V) (l:List (K×V)):getM (x6 l k v) k'=getM l k':=by rw[yt,az h]
variable {R:Type}
def zQ {l:List (K×V)} {k:K} {v:V} (h:getM l k=some v) (f:V->Option R) (z:Option R):AD l k f z=f v:=by unfold AD;rw[h]
def zP {l:List (K×V)} {k:K} (h:getM l k=none) (f:V->Option R) (z:Option R):AD l k f z=z:=by unfold AD;rw[h]
def Cw {l:Type} (x:l) (k:l->Option R):AT x k=k x:=rfl
end
end Go.AM
namespace Go.Proofs.YthphfjcnkinkpaaGreatDoor.cl
open Go Go.AM
end Go.Proofs.YthphfjcnkinkpaaGreatDoor.cl
namespace Go.Proofs.YthphfjcnkinkpaaGreatDoor.cl
open Go Go.AM
def mk (w:Nat):List Nat->Nat
 |[]=>w
 |j::l=>mk (w|||2^ j) l
def mk_bit:∀(l:List Nat) (w i:Nat),(mk w l).testBit i=(w.testBit i||decide (i∈l)):=by intro l;induction l with
 |nil=>simp[mk]
 |cons j l q=>intro w i;rw[mk];grind
def E6 {j:Nat} (h:j<64):2^ j<18446744073709551616:=by have:=Nat.pow_lt_pow_right (a:=2) af h;omega
def mk_lt:∀(l:List Nat) (w:Nat),w<18446744073709551616->(∀j∈l,j<64)->mk w l<18446744073709551616:=by intro l;induction l with
 |nil=>intro w h _;exact h
 |cons j l B=>intro w h q;exact B _ (adS h (E6 (q j ai))) λk z=>q k (by simp[z])
abbrev adZ (w:Nat):W:=(w:Int)::List.replicate 63 0
def Wj (w:Nat):norm (adZ w)=e1 w:=by rw[<-IK w];apply Tv;intro j;cases j with
 |zero=>rw[NN];rfl
 |succ j=>rw[WY];unfold wd adZ;grind
def aeb {x:Nat} (h:x<64):Int.tdiv (x:Int) 64=0:=by grind
theorem aed {x:Nat} (h:x<64):Int.tmod (x:Int) 64=(x:Int):=by grind
theorem xG {p:Nat} (h:p<18446744073709551616):wrap .u64 (p:Int)=(p:Int):=As af af
def h100 {l:List Nat} (O:l.length<=1048576) (B:∀j∈l,j<64):∀(xs:List Nat) (i w:Nat),l.drop i=xs->w<18446744073709551616->P6 (cast l) i (adZ w)=some (e1 (mk w xs),0):=by intro xs;induction xs with
 |nil=>intro i w h D;refine abZ ?_;rw[aW (aaX h),aA,c60 _ ai,Wj];rfl
 |cons x xs N=>
  intro i w h D;refine abZ ?_;have q:x<64:=B x (aR (bV h));have z:wrap .i64 (Int.tdiv (x:Int) 64)=0:=by rw[aeb q];rfl
  have F:wrap .u64 (Int.tmod (x:Int) 64)=(x:Int):=by rw[aed q,xG af]
  have G:min x (IntKind.bits .u64)=x:=by show min x 64=x;omega
  have H:wrap .u64 (1 *2^ x)=((2^ x:Nat):Int):=by
   have L:=E6 q
   have:(1 *2^ x:Int)=((2^ x:Nat):Int):=ai
   rw[this,xG L]
  have I:wrap _ _=((w|||2^ x:Nat)):=adR D (E6 q);simp only[aJ (F1 h),aP (F1 h),ak,z,F,G,H,aT,aN (F1 h) aI];rw[cond_neg ai,cond_neg aI,bT (by decide),bT (by decide),bT ai,kW (x:=(w:Int)) ai,bT (by decide),bT af,bT ai,kW (x:=(w:Int)) ai,I];exact N _ _ (aH h) (adS D (E6 q))
def c100 {l:List Nat} (w:l.length<=1048576) (q:∀j∈l,j<64):f100 (cast l)=some (e1 (mk 0 l),0):=by refine e100 ?_;rw[bT (by decide)];exact h100 w q l 0 0 rfl af
def c103 {w i:Nat} (I:w<18446744073709551616) (F:i<64):f103 (e1 w) i=some (w.testBit i):=by
 refine e103 ?_;have l:wrap .i64 (Int.tdiv (i:Int) 64)=0:=by rw[aeb F];rfl
 have q:wrap .u64 (Int.tmod (i:Int) 64)=(i:Int):=by grind[aed,xG]
 have z:min i (IntKind.bits .u64)=i:=by show min i 64=i;omega
 simp only[l,q,z,aT];rw[cond_neg ai,bT (by decide)];by_cases D:w=0
 .simp_all[cond_pos,e1]
 .have G:e1 w=[(w:Int)]:=by simp[e1,D]
  rw[G,cond_neg ai,bT (by decide),BD (x:=(w:Int)) af ai,bT (by decide),bT af];have H:w / 2^ i<18446744073709551616:=nE (Nat.div_le_self _ _) I;have B:=FU H (v:=1) af;unfold G2 at B;congr 1;grind
def bitsOf (w:Nat):List Nat:=(List.range 64).filter w.testBit
def h139 {w:Nat} (G:w<18446744073709551616) (z:w≠0):∀(n i:Nat),64-i=n->i<=64->Lb (e1 w) i (cast ((List.range i).filter w.testBit))=some (cast (bitsOf w)):=by
 have F:e1 w=[(w:Int)]:=by simp[e1,z]
 have l:wrap .i64 (64 *((e1 w).length:Int))=64:=by rw[F];rfl
 intro n;induction n with
 |zero=>
  intro i D q;obtain rfl:i=64:=by omega
  refine VD ?_;rw[l,cond_neg ai];rfl
 |succ n H=>intro i D q;refine VD ?_;have B:=H (i+1) af af;rw[kE,D8] at B;rw[l,cond_pos aI,c103 G af,aj,bM af];cases I:w.testBit i with
  |true=>
   rw[cC _ (by grind) ai af];grind
  |false=>simp_all
def c139 {w:Nat} (q:w<18446744073709551616):f139 (e1 w)=some (cast (bitsOf w)):=by
 refine e139 ?_;by_cases l:w=0
 .subst l;refine VD ?_;rfl
 .exact h139 q l _ 0 rfl af
def pc (w:Nat):Nat:=(bitsOf w).length
def c105 {w:Nat} (l:w<18446744073709551616):f105 (e1 w)=some (pc w:Int):=by refine e105 ?_;rw[c139 l,aj,bz];rfl
def F8 {w:Type} {p q:w->Bool}:∀{l:List w},(∀x∈l,p x=true->q x=true)->(∃x∈l,p x=false/\q x=true)->(l.filter p).length<(l.filter q).length:=by intro l;induction l with
 |nil=>simp
 |cons y l F=>
  have B:∀{l:List _},(∀x∈l,p x=true->q x=true)->(l.filter p).length<=(l.filter q).length:=by intro l;induction l with
   |nil=>simp
   |cons z l D=>grind
  grind
def pc_lt {a b:Nat} (B:b<18446744073709551616) (h:sub a b=true) (l:a≠b):pc a<pc b:=by
 apply F8
 .simp_all[j8]
 .apply fh;intro z;apply l;refine sP h (j8.2 λi q=> ?_);have w:i<64:=by
   apply fh;intro z
   have:b.testBit i=false:=zh (fH (by omega:b<2^ 64) (uU af af))
   rw[this] at q;cases q
  grind
open Classical in
noncomputable def idxs (d:List aC) (all:List cn) (x:cn):List Nat:=(List.range all.length).filter λi=>decide (Le d x (all.getD i []))
noncomputable def cw (d:List aC) (all:List cn) (x:cn):Nat:=mk 0 (idxs d all x)
theorem zH {d:List aC} {all:List cn} {x:cn} {i:Nat}:(cw d all x).testBit i=true↔i<all.length/\Le d x (all.getD i []):=by simp_all[cw,mk_bit,idxs]
theorem aa8 {d:List aC} {all:List cn} {x:cn} (h:all.length<=64):cw d all x<18446744073709551616:=mk_lt _ _ af λj l=>by have:=gU.1 (c7.1 l).1;omega
def h53 {d:List aC} {all low:List cn} {x:cn} (l:all.length<=64) (B:low.length<=1048576) (I:∀y,y∈low↔Le d x y):∀(n i:Nat),all.length-i=n->i<=all.length->
  Ud all low i (cast (open Classical in (List.range i).filter λi=>decide (Le d x (all.getD i []))))=some (e1 (cw d all x)):=by
 intro n;induction n with
 |zero=>
  intro i D w;obtain rfl:i=all.length:=by omega
  refine k53_4 ?_;have z:(idxs d all x).length<=64:=by refine fU (uY _ _) ?_;simpa using l
  have:=c100 (l:=idxs d all x) af λj F=>by have:=gU.1 (c7.1 F).1;omega
  unfold idxs at this;rw[cond_neg ai,this];rfl
 |succ n G=>
  intro i D w;refine k53_4 ?_;have z:=G (i+1) af af;rw[kE,D8] at z;have q:i<all.length:=af;have H:all[i]=all.getD i []:=by rw[bA,aM q];rfl
  rw[cond_pos aI,bU q,c37 _ _ af,aj,bM af];by_cases L:Le d x (all.getD i [])
  .rw[cC _ (by
    grind) ai af]
   grind
  grind
def c53 {d:List aC} (z:Sz d) {all:List cn} (q:all.length<=64) {x:cn} (D:x∈ku d):f53 d all x=some (e1 (cw d all x)):=by refine e53 ?_;obtain⟨l,w,_,B,F⟩:=c99 z D;have:=z.len;rw[w,aj];exact h53 q af B _ 0 rfl af
def h101 {l:List Nat} (z:∀c∈l,c<18446744073709551616) (B:l.length<=1048576) {w:Nat} (D:w<18446744073709551616):∀(xs:List Nat) (i:Nat),l.drop i=xs->P7 (l.map e1) (e1 w) i=some (decide (w∈xs)):=by intro xs;induction xs with
 |nil=>grind[ab0,aW]
 |cons x xs F=>
  intro i h;refine ab0 ?_;have q:(l.map e1).drop i=e1 x::xs.map e1:=by rw[<-p7,h];rfl
  rw[aP q,aJ q,o57 (z x (aR (bV h))) D,aN q aI,F _ (aH h)];grind
def c101 {q:List Nat} (z:∀c∈q,c<18446744073709551616) (l:q.length<=1048576) {w:Nat} (B:w<18446744073709551616):f101 (q.map e1) (e1 w)=some (decide (w∈q)):=e101 (h101 z l B _ 0 rfl)
def A6 (l:List Nat) (b:Nat):List Nat:=if b=0\/b∈l then l else l++[b]
def sX (i:Nat):Nat->Nat->List Nat->List Nat
 |0,_,l=>l
 |n+1,k,l=>if l.length<=256 then sX i n (k+1) (A6 l (l.getD i 0&&&l.getD k 0)) else l
def qw:Nat->Nat->List Nat->List Nat
 |0,_,l=>l
 |n+1,i,l=>if i<l.length/\l.length<=256 then qw n (i+1) (sX i i 0 l) else l
def AZ (l:List Nat):List Nat:=qw 258 0 l
def Ji (l:List Nat) (b:Nat):∃e,A6 l b=l++e/\e.length<=1:=by
 unfold A6;split
 .simp
 simp
def MV (i:Nat):∀(n k:Nat) (l:List Nat),l.length<=257->∃e,sX i n k l=l++e/\(l++e).length<=257:=by intro n;induction n with
 |zero=>simp_all[sX]
 |succ n B=>
  intro k l h;unfold sX;split
  .obtain⟨e,F,z⟩:=Ji l (l.getD i 0&&&l.getD k 0);obtain⟨D,w,q⟩:=B (k+1) (A6 l (l.getD i 0&&&l.getD k 0)) (by grind);simp_all
  simp_all
def W8 {l:List Nat} {b:Nat} (z:∀c∈l,c<18446744073709551616) (w:b<18446744073709551616):∀c∈A6 l b,c<18446744073709551616:=by intro c q;unfold A6 at q;grind
def getD_map {l:List Nat} {i:Nat} (h:i<l.length):(l.map e1)[i]? =some (e1 (l.getD i 0)):=by simp_all
theorem OC {l:List Nat} {i:Nat} (q:∀c∈l,c<18446744073709551616) (h:i<l.length):l.getD i 0<18446744073709551616:=q _ (lI h)
def h54b {i:Nat}:∀(n k:Nat) (l:List Nat),i-k=n->k<=i->i<l.length->l.length<=257->(∀c∈l,c<18446744073709551616)->∀r,
  ND (i+1:Nat) ((sX i n k l).map e1)=some r->NF i k (l.map e1)=some r:=by
 intro n;induction n with
 |zero=>intro k l hn S I F w r H;refine k54_6 ?_;rw[cond_neg aI,bM af];exact H
 |succ n ih=>
  intro k l hn S I F w r H;refine k54_6 ?_;rw[cond_pos aI,bM af,bM af];unfold sX at H;by_cases B:l.length<=256
  .rw[aB B] at H;have D:=OC w I;have L:=OC w (show k<l.length by omega);have z:l.getD i 0&&&l.getD k 0<18446744073709551616:=nE rW D;rw[cond_pos aI,bT aI,aT,kW (getD_map I),bT aI,aT,kW (getD_map af),o61 D L,aj];have G:=Ji l (l.getD i 0&&&l.getD k 0);have q:(A6 l (l.getD i 0&&&l.getD k 0)).length<=257/\i<(A6 l (l.getD i 0&&&l.getD k 0)).length:=by
    obtain⟨e,Q,U⟩:=G;rw[Q];simp;omega
   have O:=ih (k+1) (A6 l (l.getD i 0&&&l.getD k 0)) af af q.2 q.1 (W8 w z) r H;by_cases P:l.getD i 0&&&l.getD k 0=0
   .simp_all[cond_neg,e1,A6]
   .have N:(e1 (l.getD i 0&&&l.getD k 0)).length=1:=by
     unfold e1;rw[az P];rfl
    rw[cond_pos (by simp_all),c101 w af z];by_cases hm:l.getD i 0&&&l.getD k 0∈l
    .simp_all[A6]
    .rw[cC _ aI ai af];simp_all[A6]
  grind
theorem abp (i:Nat):∀(n k:Nat) (l:List Nat),(∀c∈l,c<18446744073709551616)->∀c∈sX i n k l,c<18446744073709551616:=by intro n;induction n with
 |zero=>intro k l h;exact h
 |succ n q=>
  intro k l h;unfold sX;split
  .refine q _ _ (W8 h ?_);by_cases w:i<l.length
   .grind[Nat.and_le_left,OC]
   simp_all
  omega
def h54:∀(n i:Nat) (l:List Nat),258<=i+n->l.length<=257->(∀c∈l,c<18446744073709551616)->ND i (l.map e1)=some ((qw n i l).map e1):=by intro n;induction n with
 |zero=>intro i l D q w;refine k54_3 ?_;rw[cond_neg aI];rfl
 |succ n H=>
  intro i l D q w;refine k54_3 ?_;unfold qw;by_cases z:i<l.length
  .rw[cond_pos aI];by_cases F:l.length<=256
   .rw[cond_pos aI];obtain⟨e,G,B⟩:=MV i i 0 l q;refine h54b i 0 l rfl af z q w _ ?_;grind[abp]
   grind
  grind
def c54 {l:List Nat} (q:∀c∈l,c<18446744073709551616) (w:l.length<=256):f54 (l.map e1)=some ((AZ l).map e1):=by refine e54 ?_;rw[cC _ ai aI af];exact h54 _ 0 _ af af q
structure Fm (cs l:List Nat):Prop where
 nd:l.Nodup
 nz:∀c∈l,c≠0
 gen:∀P:Nat->Prop,(∀c∈cs,P c)->(∀a b,P a->P b->P (a&&&b))->∀c∈l,P c
 pre:∃e,l=cs++e
def Fm.add {D l:List Nat} (h:Fm D l) {i k:Nat} (F:i<l.length) (G:k<l.length):Fm D (A6 l (l.getD i 0&&&l.getD k 0)):=by
 unfold A6;split
 .exact h
 .refine⟨?_,?_,?_,?_⟩
  .rw[ig];exact⟨h.nd,by simp,λa H b I=>by grind⟩
  .intro c w;rcases bu.1 w with q|q
   .exact h.nz c q
   simp_all
  .intro P B z c w;rcases bu.1 w with q|q
   .exact h.gen P B z c q
   .simp at q;subst q;exact z _ _ (h.gen P B z _ (lI F)) (h.gen P B z _ (lI G))
  .obtain⟨e,L⟩:=h.pre;simp_all
theorem addF_in (l:List Nat) (b:Nat):b=0\/b∈A6 l b:=by grind[A6]
def Vg {z:List Nat} (i:Nat):∀(n k:Nat) (l:List Nat),Fm z l->i<l.length->k+n<=i->Fm z (sX i n k l)/\((sX i n k l).length<=256->∀j,k<=j->j<k+n->l.getD i 0&&&l.getD j 0=0\/l.getD i 0&&&l.getD j 0∈sX i n k l)/\∃e,sX i n k l=l++e:=by intro n;induction n with
 |zero=>intro k l h B G;exact⟨h,λ_ j P Q=>by omega,[],by simp[sX]⟩
 |succ n H=>
  intro k l h B G;unfold sX;split
  .obtain⟨e,F,_⟩:=Ji l _;have w:i<(A6 l (l.getD i 0&&&l.getD k 0)).length:=by rw[F];simp;omega
   obtain⟨I,L,O,N⟩:=H (k+1) _ (h.add B af) w af;grind[addF_in]
  .rename_i D;refine⟨h,λq=>absurd q D,[],ai⟩
def Sn {B:List Nat}:∀(n i:Nat) (l:List Nat),258<=i+n->l.length<=257->Fm B l->(∀a b,a<i->b<a->a<l.length->l.getD a 0&&&l.getD b 0=0\/l.getD a 0&&&l.getD b 0∈l)->
  Fm B (qw n i l)/\(qw n i l).length<=257/\((qw n i l).length<=256->∀a b,b<a->a<(qw n i l).length->(qw n i l).getD a 0&&&(qw n i l).getD b 0=0\/(qw n i l).getD a 0&&&(qw n i l).getD b 0∈qw n i l):=by
 intro n;induction n with
 |zero=>intro i l N q h D;exact⟨h,q,λ_ a b G H=>D a b af G H⟩
 |succ n U=>
  intro i l N q h D;unfold qw;split
  .rename_i L;obtain⟨O,P,e,Q⟩:=Vg i i 0 l h L.1 af;obtain⟨S,I,F⟩:=MV i i 0 l q;by_cases w:(sX i i 0 l).length<=256
   .grind
   .have z:∀n,qw n (i+1) (sX i i 0 l)=sX i i 0 l:=by
     intro n;cases n with
     |zero=>rfl
     |succ n=>simp_all[qw,az]
    grind
  grind
def EA {l:List Nat} (G:l.Nodup) (H:∀c∈l,c≠0) (L:l.length<=256):Fm l (AZ l)/\(AZ l).length<=257/\((AZ l).length<=256->∀a∈AZ l,∀b∈AZ l,a&&&b≠0->a&&&b∈AZ l):=by
 obtain⟨D,N,I⟩:=Sn 258 0 _ af af ⟨G,H,λP D _=>D,[],ai⟩ (λa b h=>by omega);refine⟨D,N,λw a O b Q q=> ?_⟩;obtain⟨i,S,rfl⟩:=jw.1 O;obtain⟨j,U,rfl⟩:=jw.1 Q;have z:(AZ _)[i]=(AZ l).getD i 0:=by rw[bA,aM _];rfl
 have B:(AZ _)[j]=(AZ l).getD j 0:=by rw[bA,aM _];rfl
 rw[z,B] at q⊢;by_cases e:i=j
 .grind
 .by_cases F:j<i
  .exact(I w i j F S).resolve_left q
  .rw[Nat.and_comm] at q⊢;exact(I w j i af U).resolve_left q
