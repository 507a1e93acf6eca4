/- Layer 5. -/
import Derived.Test.YthphfjcnkinkpaaGreatDoorClSa
set_option linter.all false
namespace Go.Proofs.YthphfjcnkinkpaaGreatDoor.cl
open Go Go.AM
def xR (d:List aC) (F:ck):List ck:=(d.filter λt=>(val t F).isSome).map (·.Name)
def GH {d:List aC} {F x:ck}:x∈xR d F↔∃t∈d,(val t F).isSome=true/\t.Name=x:=by unfold xR;grind
def Hg {d:List aC} {F x:ck} (h:x∈xR d F):x∈kz d:=by obtain⟨t,l,_,rfl⟩:=GH.1 h;grind
def one:List ck->Option ck
 |[x]=>some x
 |_=>none
def adV {l:List ck} {x:ck} (h:one l=some x):l=[x]:=by cases l with
 |nil=>cases h
 |cons y l=>cases l with
  |nil=>simp_all[one]
  |cons z l=>cases h
def eq_one {l:List ck} {u:ck} (D:l.Nodup) (q:∀x∈l,x=u) (w:u∈l):l=[u]:=by cases l with
 |nil=>cases w
 |cons y l=>have B:=q y ai;subst B;cases l with
  |nil=>rfl
  |cons z l=>simp_all
noncomputable def C7 (d:List aC) (F:ck):Option ck:=one (wB d (oJ (xR d F)))
def Te {d:List aC} (A:Acc d) {F u:ck}:C7 d F=some u↔u∈xR d F/\∀v∈xR d F,Le d u v:=by
 have w:∀x,x∈oJ ((oJ (xR d F)).filter λs=>decide (s∈kz d))↔x∈xR d F:=by intro x;rw[gw,cT,gw];exact⟨λh=>h.1,λh=>⟨h,by simpa using Hg h⟩⟩
 have q:=mh ((oJ (xR d F)).filter λs=>decide (s∈kz d));unfold C7 wB;generalize oJ _=l at w q;constructor
 .intro h;have e:=adV h;refine⟨?_,λv D=> ?_⟩
  .have:u∈l.filter (sd d l):=by rw[e];simp
   grind
  grind[GG]
 .rintro⟨z,B⟩;have e:l.filter (sd d l)=[u]:=by
   refine eq_one (q.nodup.filter _) (λx G=> ?_) ?_
   .simp_all[CL]
   .grind[CL,le_antisymm]
  rw[e];rfl
def Tf {d:List aC} (A:Acc d) {F u:ck} (h:C7 d F=some u):u∈kz d:=Hg ((Te A).1 h).1
def h357 {d:List aC} (O:Ok d) (B:Fz d) (F:ck):∀(xs:List aC) (i:Nat) (o:List ck),d.drop i=xs->o.length<=i->i<=d.length->
  LP d F o i=some (match one (wB d ((xR xs F).foldl (λo s=>qQ s o) o)) with|some x=>(x,true)|none=>([],false)):=by
 have w:=O.len;intro xs;induction xs with
 |nil=>intro i o h D q;refine acH ?_;rw[bp h,c104 O.z O.acc o af];show _=some (match one (wB d o) with|some x=>(x,true)|none=>([],false));generalize wB d o=l;cases l with
  |nil=>rfl
  |cons x l=>cases l with
   |nil=>exact cH ai _
   |cons y l=>rfl
 |cons t xs z=>intro i o h D q;refine acH ?_;have hi:=dY h;have G:=B t (aV (cr h));rw[aK h,c373 _ _ G,aj,aQ h af];cases L:val t F with
  |none=>rw[z _ o (aI h) af af];simp_all[xR]
  |some v=>have I:=nj t.Name o;rw[aK h,c98 _ _ af,aj,z _ _ (aI h) af af];simp_all[xR]
def c357 {d:List aC} (O:Ok d) (l:Fz d) (F:ck):f357 d F=some (match C7 d F with|some x=>(x,true)|none=>([],false)):=
 e357 (h357 O l F d 0 _ rfl ai af)
def h358 {l:List fL} (w:l.length<=1048576) (x:ck):∀(xs:List fL) (i:Nat),l.drop i=xs->QA l x i=some (ja (λc=>c.Name==x) xs i):=by intro xs;induction xs with
 |nil=>intro i h;refine acI ?_;rw[bp h];rfl
 |cons y xs q=>intro i h;refine acI ?_;rw[aT h,aK h,aQ h af,q _ (aI h),ja];grind
def o358 {d:List aC} (O:Ok d) {x:ck} (q:x∈kz d):f358 (z7 d) x=some (nu d x:Int):=by have l:=O.cG;rw[<-nZ] at l;refine e358 ((h358 (l:=z7 d) af x (z7 d) 0 rfl).trans ?_);rw[(O.Ar q).1]
def Ok.code_nu {d:List aC} (O:Ok d) {x:ck} (l:x∈kz d) (q:nu d x<(z7 d).length):(z7 d)[nu d x].Code=e1 (cwd d x):=by rw[O.cd.code,(O.Ar l).2.2.1]
def Ok.nu_lt {d:List aC} (O:Ok d) {x:ck} (l:x∈kz d):nu d x<(z7 d).length:=by rw[nZ];exact(O.Ar l).2.1
def comb (o:Option Nat) (c:Nat):Nat:=match o with
 |some a=>a&&&c
 |none=>c
noncomputable def Bp (d:List aC) (w:Nat) (F:ck) (o:Option Nat) (t:aC):Option Nat:=match val t F with
 |some v=>if sub w (cwd d t.Name)=true then some (comb o (cwd d v)) else o
 |none=>o
noncomputable def inh (d:List aC) (w:Nat) (F:ck):Option Nat:=d.foldl (Bp d w F) none
def Vd (d:List aC):Prop:=∀t∈d,∀x∈t.bD,x.Value∈kz d
def Vd.val {d:List aC} (h:Vd d) {t:aC} (l:t∈d) {F v:ck} (q:val t F=some v):v∈kz d:=by obtain⟨x,w,_,rfl⟩:=aev q;exact h t l x w
def stp_in {d:List aC} (O:Ok d) (D:Vd d) {w:Nat} {F:ck}:∀(xs:List aC) (o:Option Nat),(∀t∈xs,t∈d)->(∀c,o=some c->c=0\/c∈tys d)->∀c,xs.foldl (Bp d w F) o=some c->c=0\/c∈tys d:=by intro xs;induction xs with
 |nil=>simp
 |cons t xs Q=>intro o B L c G;refine Q _ (λu N=>B u (by simp[N])) (λc' l=> ?_) c G;unfold Bp at l;cases z:val t F with
  |none=>simp_all
  |some v=>
   rw[z] at l;have I:=O.cwmem (D.val (B t ai) z);simp at l;split at l
   .cases o with
    |none=>simp_all[comb]
    |some a=>
     simp[comb] at l;rcases L a rfl with q|q
     .simp_all
     .by_cases P:a&&&cwd d v=0
      .omega
      .right;rw[<-l];exact O.VC.cl a q _ I P
   simp_all
def inh_in {d:List aC} (O:Ok d) (l:Vd d) {w:Nat} {F:ck} {c:Nat} (h:inh d w F=some c):c=0\/c∈tys d:=
 stp_in O l d _ (λt h=>h) (λc h=>by cases h) c h
def Ok.ltmem {d:List aC} (O:Ok d) {c:Nat} (h:c∈tys d):c<18446744073709551616:=O.cd.lt c h
def h370 {d:List aC} (O:Ok d) (R:Fz d) (N:Vd d) {T:Nat} (hT:T<(tys d).length) (F:ck):∀(xs:List aC) (i:Nat) (o:Option Nat),d.drop i=xs->(∀c,o=some c->c<18446744073709551616)->
  G5 d (z7 d) T F o.isSome (e1 (o.getD ((tys d).getD 0 0))) i=some (e1 ((xs.foldl (Bp d ((tys d).getD T 0) F) o).getD ((tys d).getD 0 0)),(xs.foldl (Bp d ((tys d).getD T 0) F) o).isSome):=by
 have D:=O.len;intro xs;induction xs with
 |nil=>grind[acM,bp]
 |cons t xs B=>intro i o h G;refine acM ?_;have q:t∈d:=aV (cr h);have U:=R t q;rw[aT h,au,aK h,c373 _ _ U,aj,aQ h af,gb];cases z:val t F with
  |none=>
   have e:Bp d ((tys d).getD T 0) F o t=o:=by unfold Bp;rw[z]
   rw[cond_pos (by rfl),B (i+1) o (aI h) G,e]
  |some v=>have l:=N.val q z;have w:=TE q;have I:=O.Ar w;have S:=O.Ar l;rw[cond_neg (by rfl),aK h,o358 O w,aj,o25 O.cd I.2.1 hT,aj,I.2.2.1];unfold Bp;rw[z];simp only;cases L:sub ((tys d).getD T 0) (cwd d t.Name) with
   |false=>rw[fN,au,az ai];exact B (i+1) o (aI h) G
   |true=>
    rw[dM,aA,aB rfl,o358 O l,aj,cH (O.nu_lt l),O.code_nu l _];have P:(o.getD ((tys d).getD 0 0))<18446744073709551616:=by cases o with
     |none=>exact O.lt O.VC.pos
     |some a=>simp_all
    rw[o61 P (O.cwlt v),aj];have e:o.getD ((tys d).getD 0 0)&&&cwd d v=comb o (cwd d v):=by cases o with
     |some a=>rfl
     |none=>rw[Nat.and_comm];exact Yz.1 (O.VC.top _ (O.cwmem l))
    rw[e];refine B _ (some (comb o _)) (aI h) (λc Q=> ?_);grind[Nat.and_le_left]
def c370 {d:List aC} (O:Ok d) (q:Fz d) (l:Vd d) {T:Nat} (hT:T<(tys d).length) (F:ck):f370 d (z7 d) T F=some (e1 ((inh d ((tys d).getD T 0) F).getD ((tys d).getD 0 0)),(inh d ((tys d).getD T 0) F).isSome):=by
 have w:0<(z7 d).length:=by rw[nZ];exact O.VC.pos
 refine e370 ?_;rw[show(0:Int)=((0:Nat)) from rfl,cH w,O.cd.code];exact h370 O q l hT F d 0 none rfl (λc h=>by cases h)
noncomputable def CP (d:List aC) (l:List ck):Bool:=l.any λF=>(C7 d F).isNone
noncomputable def DQ (d:List aC) (l:List Nat):Bool:=l.any λw=>(qz d).any λF=>inh d w F==some 0
noncomputable def x7 (d:List aC):Int:=
 if IX d≠0 then IX d else if(Bo (qs d)).length>256 then 7 else if(qz d).length>64 then 7 else if r9 (kz d) d≠0 then r9 (kz d) d
 else if CP d (qz d)=true then 10 else if DQ d (tys d)=true then 11 else 0
def h318c {d:List aC} (O:Ok d) (w:Fz d) (q:Vd d) {T:Nat} (hT:T<(tys d).length) {r:Int} (z:(qz d).length<=1000) (B:FX d (z7 d) (qz d) (T+1:Nat)=some r):∀(xs:List ck) (i:Nat),(qz d).drop i=xs->
  FY d (z7 d) (qz d) T i=some (if(xs.any λF=>inh d ((tys d).getD T 0) F==some 0)=true then 11 else r):=by
 have G:=O.cG;intro xs;induction xs with
 |nil=>intro i h;refine XQ ?_;rw[bp h,aA,bM af,B];rfl
 |cons F xs D=>intro i h;refine XQ ?_;rw[aT h,aK h,c370 O w q hT,aj,aQ h af,D _ (aI h),wX];cases hi:inh d _ F with
  |none=>rfl
  |some c=>
   simp only[EH,au];by_cases l:c=0
   .subst l;rfl
   .have:(some c==some 0)=false:=by simpa using l
    rw[this,pO,cond_neg (by grind[EZ])]
def h318b {d:List aC} (O:Ok d) (z:Fz d) (q:Vd d) (l:(qz d).length<=1000):∀(xs:List Nat) (T:Nat),(tys d).drop T=xs->
  FX d (z7 d) (qz d) T=some (if DQ d xs=true then 11 else 0):=by
 intro xs;induction xs with
 |nil=>intro T h;refine XP ?_;rw[nZ,bp h];rfl
 |cons w xs B=>
  intro T h;refine XP ?_;have hT:=dY h;have D:(tys d).getD T 0=w:=by rw[bw,cr h];rfl
  rw[nZ,aT h,au];refine(h318c O z q hT l (B _ (aI h)) _ 0 rfl).trans ?_;unfold DQ;grind
def h318a {d:List aC} (O:Ok d) (q:Fz d) (w:Vd d) (l:(qz d).length<=1000):∀(xs:List ck) (i:Nat),(qz d).drop i=xs->
  Jl d (z7 d) (qz d) i=some (if CP d xs=true then 10 else if DQ d (tys d)=true then 11 else 0):=by
 intro xs;induction xs with
 |nil=>intro i h;refine XO ?_;rw[bp h,aA];exact h318b O q w l _ 0 rfl
 |cons F xs z=>intro i h;refine XO ?_;rw[aT h,aK h,c357 O q,aQ h af,z _ (aI h)];unfold CP;grind
def ok_of {d:List aC} (z:Sz d) (l:d.length<=64) (q:IX d=0) (w:¬(Bo (qs d)).length>256):Ok d:=⟨z,JK q,l,af⟩
theorem Oa {d:List aC} (h:r9 (kz d) d=0):Vd d:=λt l x q=>(((Vr _ d).1 h t l).1 x q).2
def c318 {d:List aC} (z:Sz d) (l:d.length<=64) (B:Fz d):f318 d=some (x7 d):=by
 refine e318 ?_;unfold x7;rw[c15 z l,aj];by_cases D:IX d=0
 .have q:¬(IX d≠0):=λh=>h D
  rw[az q,az q];by_cases w:(Bo (qs d)).length>256
  .simp_all
  .rw[az w,az w,cond_neg ai,c345 af B,aj];have O:=ok_of z l D w;by_cases I:(qz d).length>64
   .grind
   .rw[az I,cond_neg (by grind),c346 af B,aj];by_cases G:r9 (kz d) d=0
    .rw[G,cond_neg ai];exact h318a O B (Oa G) af _ 0 rfl
    grind
 grind
structure Ok5 (d:List aC):Prop where
 ok:Ok d
 fz:Fz d
 f64:(qz d).length<=64
 fd:r9 (kz d) d=0
 intro:∀F∈qz d,∃u,C7 d F=some u
 vals:∀w∈tys d,∀F∈qz d,inh d w F≠some 0
def K8 {d:List aC} (z:Sz d) (l:d.length<=64) (N:Fz d) (h:x7 d=0):Ok5 d/\IX d=0/\¬(Bo (qs d)).length>256:=by
 unfold x7 at h;by_cases B:IX d=0
 .by_cases D:(Bo (qs d)).length>256
  .omega
  .by_cases Q:(qz d).length>64
   .omega
   .by_cases G:r9 (kz d) d=0
    .by_cases I:CP d (qz d)=true
     .simp_all
     .by_cases L:DQ d (tys d)=true
      .simp_all
      .refine⟨⟨ok_of z l B D,N,by omega,G,λF q=> ?_,λw P F q e=> ?_⟩,B,D⟩
       .cases hi:C7 d F with
        |some u=>simp
        |none=>exact absurd (nE.2 ⟨F,q,by simp_all⟩) I
       .exact L (nE.2 ⟨w,P,nE.2 ⟨F,q,by simp_all⟩⟩)
    omega
 omega
noncomputable def MA (d:List aC) (F:ck):cO:=⟨F,(nu d ((C7 d F).getD []):Int)⟩
noncomputable def vZ (d:List aC):List cO:=(qz d).map (MA d)
def h320 {d:List aC} (O:Ok5 d):∀(xs:List ck) (i:Nat) (o:List cO),(qz d).drop i=xs->o.length<=i->Qt d (z7 d) (qz d) i o=some (o++xs.map (MA d),0):=by have q:=O.f64;intro xs;induction xs with
 |nil=>intro i o h w;refine acv ?_;grind
 |cons F xs z=>
  intro i o h w;refine acv ?_;have hi:=dY h;obtain⟨u,l⟩:=O.intro F (aV (cr h))
  rw[aK h,c357 O.ok O.fz,aj,l,aK h,o358 O.ok (Tf O.ok.acc l),aj,cC _ af ai af,aQ h af,
   z _ _ (aI h) (by simp_all)]
  simp_all[MA]
def c320 {d:List aC} (z:Sz d) (l:d.length<=64) (q:Fz d):f320 d=some (if x7 d=0 then(vZ d,0) else([],x7 d)):=by
 refine e320 ?_;rw[c318 z l q,aj];by_cases h:x7 d=0
 .obtain⟨O,w,B⟩:=K8 z l q h;rw[aB h,cond_neg (by simpa using h),c15 z l,az (show¬(IX d≠0) from λh=>h w),az B,aj,c345 af q,aj];exact h320 O (qz d) 0 [] rfl ai
 .rw[az h,cond_pos (by simpa using h)]
noncomputable def yu (d:List aC) (w:Nat):List ck->Nat->List fR
 |[],_=>[]
 |F::l,k=>match inh d w F with
  |some c=>⟨(k:Int),HK (tys d) c⟩::yu d w l (k+1)
  |none=>yu d w l (k+1)
noncomputable def Me (d:List aC):List (List fR):=(tys d).map λw=>yu d w (qz d) 0
def Ie {d:List aC} {w:Nat}:∀(l:List ck) (k:Nat),(yu d w l k).length<=l.length:=by intro l;induction l with
 |nil=>intro k;simp[yu]
 |cons F l q=>intro k;have:=q (k+1);unfold yu;cases inh d w F<;>simp<;>omega
def h323b {d:List aC} (O:Ok5 d) {T:Nat} (hT:T<(tys d).length) {o:List (List fR)} (G:o.length<=T) {r:List (List fR)×Int}:∀(xs:List ck) (i:Nat) (row:List fR),(qz d).drop i=xs->row.length<=i->
  LK d (z7 d) (qz d) (T+1:Nat) (o++[row++yu d ((tys d).getD T 0) xs i])=some r->FZ d (z7 d) (qz d) T i o row=some r:=by
 have B:=O.f64;have D:=O.ok.cG;intro xs;induction xs with
 |nil=>intro i row h w l;refine XR ?_;rw[bp h,aA,cC _ af ai af,bM af];rwa[yu,eo] at l
 |cons F xs z=>intro i row h w l;refine XR ?_;have hi:=dY h;rw[aT h,au,aK h,c370 O.ok O.fz (Oa O.fd) hT,aj,aQ h af];unfold yu at l;cases q:inh d ((tys d).getD T 0) F with
  |none=>rw[q] at l;simp only[Option.isSome_none,aA];exact z (i+1) row (aI h) af l
  |some c=>rw[q] at l;simp only[EH,rK,au];rw[o19 O.ok.cd,aj,cC _ af ai af];refine z (i+1) _ (aI h) (by rw[bQ];simp;omega) ?_;rw[ee];exact l
def h323 {d:List aC} (O:Ok5 d):∀(xs:List Nat) (T:Nat) (o:List (List fR)),(tys d).drop T=xs->o.length<=T->
  LK d (z7 d) (qz d) T o=some (o++xs.map (λw=>yu d w (qz d) 0),0):=by
 intro xs;induction xs with
 |nil=>intro T o h l;refine acw ?_;rw[nZ,bp h,aA,ey,eo]
 |cons w xs z=>
  intro T o h l;refine acw ?_;have q:(tys d).getD T 0=w:=by rw[bw,cr h];rfl
  rw[nZ,aT h,au];refine h323b O (dY h) l (qz d) 0 [] rfl ai ?_;rw[z (T+1) _ (aI h) (by rw[bQ];simp;omega),q,ee];rfl
def c323 {d:List aC} (z:Sz d) (l:d.length<=64) (q:Fz d):f323 d=some (if x7 d=0 then(Me d,0) else([],x7 d)):=by
 refine e323 ?_;rw[c318 z l q,aj];by_cases h:x7 d=0
 .obtain⟨O,w,B⟩:=K8 z l q h;rw[aB h,cond_neg (by simpa using h),c15 z l,az (show¬(IX d≠0) from λh=>h w),az B,aj,c345 af q,aj];exact h323 O (tys d) 0 [] rfl ai
 .rw[az h,cond_pos (by simpa using h)]
end Go.Proofs.YthphfjcnkinkpaaGreatDoor.cl
namespace Go.Proofs.YthphfjcnkinkpaaGreatDoor.cl
open Go Go.AM
def Kj {d:List aC}:(vZ d).length=(qz d).length:=by simp[vZ]
def aas {d:List aC}:(Me d).length=(tys d).length:=by simp[Me]
end Go.Proofs.YthphfjcnkinkpaaGreatDoor.cl
namespace Go.Proofs.YthphfjcnkinkpaaGreatDoor.cl
open Go Go.AM
def Nq {d:List aC} {w:Nat} {F:ck}:∀(xs:List aC) (o:Option Nat),
  ((xs.foldl (Bp d w F) o).isSome=true↔o.isSome=true\/∃t∈xs,(val t F).isSome=true/\sub w (cwd d t.Name)=true)/\
  ∀c,xs.foldl (Bp d w F) o=some c->∀i,c.testBit i=true↔(∀a,o=some a->a.testBit i=true)/\∀t∈xs,∀v,val t F=some v->sub w (cwd d t.Name)=true->(cwd d v).testBit i=true:=by
 intro xs;induction xs with
 |nil=>intro o;refine⟨ai,λc G i=> ?_⟩;rw[List.foldl_nil] at G;subst G;simp
 |cons t xs S=>intro o;obtain⟨L,N⟩:=S (Bp d w F o t);rw[gb];cases I:val t F with
  |none=>
   have e:Bp d w F o t=o:=by unfold Bp;rw[I]
   rw[e] at L N⊢;constructor
   .rw[L];constructor
    .rintro (h|⟨u,q,h⟩)
     .exact .inl h
     .exact .inr ⟨u,by simp[q],h⟩
    .rintro (h|⟨u,q,h⟩)
     .exact .inl h
     .rcases aN.1 q with rfl|q
      .rw[I] at h;simp at h
      .exact .inr ⟨u,q,h⟩
   .intro c G i;rw[N c G i];constructor
    .rintro⟨a,b⟩;refine⟨a,λu q v l B=> ?_⟩;rcases aN.1 q with rfl|q
     .rw[I] at l;cases l
     .exact b u q v l B
    .rintro⟨a,b⟩;exact⟨a,λu q v l B=>b u (by simp[q]) v l B⟩
  |some v=>cases B:sub w (cwd d t.Name) with
   |false=>
    have e:Bp d w F o t=o:=by unfold Bp;rw[I,B];simp
    rw[e] at L N⊢;constructor
    .rw[L];constructor
     .rintro (h|⟨u,q,h⟩)
      .exact .inl h
      .exact .inr ⟨u,by simp[q],h⟩
     .rintro (h|⟨u,q,h⟩)
      .exact .inl h
      .rcases aN.1 q with rfl|q
       .rw[B] at h;simp at h
       .exact .inr ⟨u,q,h⟩
    .intro c G i;rw[N c G i];constructor
     .rintro⟨a,b⟩;refine⟨a,λu q v l z=> ?_⟩;rcases aN.1 q with rfl|q
      .rw[B] at z;cases z
      .exact b u q v l z
     .rintro⟨a,b⟩;exact⟨a,λu q v l z=>b u (by simp[q]) v l z⟩
   |true=>
    have e:Bp d w F o t=some (comb o (cwd d v)):=by unfold Bp;rw[I,B];cases o<;>rfl
    rw[e] at L N⊢;have D:∀i,(comb o (cwd d v)).testBit i=true↔(∀a,o=some a->a.testBit i=true)/\(cwd d v).testBit i=true:=by intro i;cases o with
     |none=>simp[comb]
     |some a=>simp[comb,lN]
    constructor
    .rw[L];constructor
     .intro _;exact .inr ⟨t,by simp,by rw[I];rfl,B⟩
     .intro _;exact .inl rfl
    .intro c G i;rw[N c G i];constructor
     .rintro⟨a,b⟩;have R:=(D i).1 (a _ rfl);refine⟨R.1,λu q Q l z=> ?_⟩;rcases aN.1 q with rfl|q
      .rw[I] at l;injection l with l;rw[<-l];exact R.2
      .exact b u q Q l z
     .rintro⟨a,b⟩;refine⟨λx P=> ?_,λu q Q l z=>b u (by simp[q]) Q l z⟩;injection P with P;rw[<-P];exact(D i).2 ⟨a,b t ai v I B⟩
def S9 {d:List aC} {w:Nat} {F:ck}:(inh d w F).isSome=true↔∃t∈d,(val t F).isSome=true/\sub w (cwd d t.Name)=true:=by have:=(Nq (d:=d) (w:=w) (F:=F) d none).1;unfold inh;rw[this];simp
def XK {d:List aC} {w:Nat} {F:ck} {c:Nat} (h:inh d w F=some c) (i:Nat):c.testBit i=true↔∀t∈d,∀v,val t F=some v->sub w (cwd d t.Name)=true->(cwd d v).testBit i=true:=by rw[(Nq (d:=d) (w:=w) (F:=F) d none).2 c h i];exact⟨λh=>h.2,λh=>⟨λa l=>(by cases l),h⟩⟩
def ab9 {d:List aC} {w v:Nat} {F:ck} {a b:Nat} (z:sub v w=true) (l:inh d w F=some a) (q:inh d v F=some b):sub b a=true:=by rw[j0];intro i hi;rw[XK l];intro t B x G D;exact(XK q i).1 hi t B x G (zg z D)
def inh_up {d:List aC} {w v:Nat} {F:ck} (z:sub v w=true) (h:(inh d w F).isSome=true):(inh d v F).isSome=true:=by rw[S9] at h⊢;obtain⟨t,B,l,q⟩:=h;exact⟨t,B,l,zg z q⟩
def ZN {d:List aC} (A:Acc d) {w:Nat} {F u:ck} (h:C7 d F=some u):(inh d w F).isSome=sub w (cwd d u):=by
 obtain⟨D,G⟩:=(Te A).1 h;rw[iU,S9];constructor
 .rintro⟨t,q,z,l⟩;have B:t.Name∈xR d F:=GH.2 ⟨t,q,z,rfl⟩;exact zg l ((OF (Hg B)).2 (G _ B))
 .intro l;obtain⟨t,q,z,rfl⟩:=GH.1 D;exact⟨t,q,z,l⟩
def Ok5.num {d:List aC} (O:Ok5 d) {w:Nat} (I:w∈tys d) {F:ck} (G:F∈qz d) {c:Nat} (h:inh d w F=some c):∃q:Nat,HK (tys d) c=(q:Int)/\q<(tys d).length/\(tys d).getD q 0=c:=by
 rcases inh_in O.ok (Oa O.fd) h with l|l
 .rw[l] at h;exact absurd h (O.vals w I F G)
 .obtain⟨q,z,B,D⟩:=OS l;exact⟨q,D,z,B⟩
def rowF_ge {d:List aC} {w:Nat}:∀(l:List ck) (k:Nat),∀x∈yu d w l k,(k:Int)<=x.bB:=by intro l;induction l with
 |nil=>intro k x q;cases q
 |cons F l z=>intro k x q;unfold yu at q;cases h:inh d w F with
  |none=>rw[h] at q;have:=z (k+1) x q;omega
  |some c=>
   rw[h] at q;rcases aN.1 q with rfl|q
   .simp
   .have:=z (k+1) x q;omega
def aai {d:List aC} {w:Nat}:∀(l:List ck) (k j:Nat) (F:ck),l[j]? =some F->(yu d w l k).find? (λx=>x.bB==((k+j:Nat):Int))=(inh d w F).map λc=>(⟨((k+j:Nat):Int),HK (tys d) c⟩:fR):=by intro l;induction l with
 |nil=>intro k j F h;simp at h
 |cons G l I=>intro k j F h;unfold yu;cases j with
  |zero=>
   have:G=F:=by simpa using h
   subst this;cases B:inh d w G with
   |none=>simp only[Option.map_none];rw[zH];intro x D;have:=rowF_ge l (k+1) x D;simp only[iV];omega
   |some c=>simp only[lR,lV,beq_self_eq_true,e9]
  |succ j=>
   have z:l[j]? =some F:=by simpa using h
   have q:=I (k+1) j F z;have e:k+1+j=k+(j+1):=af;rw[e] at q;cases B:inh d w G with
   |none=>exact q
   |some c=>simp only[lR];rw[show((k:Int)==((k+(j+1):Nat):Int))=false by rw[lM];omega];exact q
theorem aew {d:List aC} {T:Nat} (hT:T<(tys d).length):∃h:T<(Me d).length,(Me d)[T]=yu d ((tys d).getD T 0) (qz d) 0:=by refine⟨by rw[aas];exact hT,?_⟩;unfold Me;rw[kF];congr 1;rw[bw,aM hT];rfl
def Zx {d:List aC} {j:Nat} {F:ck} (h:(qz d)[j]? =some F):∃hj:j<(vZ d).length,(vZ d)[j]=MA d F:=by obtain⟨hj,e⟩:=bP.1 h;refine⟨by rw[Kj];exact hj,?_⟩;unfold vZ;rw[kF,e]
end Go.Proofs.YthphfjcnkinkpaaGreatDoor.cl
namespace Go.Proofs.YthphfjcnkinkpaaGreatDoor.cl
open Go Go.AM
noncomputable def adO (d:List aC) (i:Nat):ck:=((eL d).getD i ([],0)).1
noncomputable def W0 (d:List aC) (i:Nat):fK:=⟨adO d i,e1 ((tys d).getD i 0),cast (aeh (tys d) i),yu d ((tys d).getD i 0) (qz d) 0⟩
noncomputable def sg (d:List aC):aJ:=⟨(List.range (tys d).length).map (W0 d),vZ d⟩
def cds_at {d:List aC} {i:Nat} (h:i<(z7 d).length):(z7 d)[i]=⟨adO d i,e1 ((tys d).getD i 0)⟩:=by
 have hi:i<(eL d).length:=by simpa[z7] using h
 have e:(z7 d)[i]? =some ⟨adO d i,e1 ((tys d).getD i 0)⟩:=by unfold z7 adO tys;rw[dA,aM hi,bw,aM hi,bw,dA,aM hi];rfl
 rw[aM h] at e;exact fe e
def WC {l:Type} (g:Nat->l) (i:Nat):(List.range i).map g++[g i]=(List.range (i+1)).map g:=by rw[kE,cE];rfl
section
variable {d:List aC} (O:Ok5 d)
include O
theorem h332 (D:f320 d=some (vZ d,0)) {L:aJ} {b:List cO}:∀(n i:Nat),(tys d).length-i=n->i<=(tys d).length->
  Qu d (Me d) (z7 d) i L ((List.range i).map (W0 d)) b=some (sg d,0):=by
 have N:=O.ok.cG;have G:=nZ (d:=d);intro n;induction n with
 |zero=>
  intro i hi w;refine acz ?_
  have:i=(tys d).length:=af
  subst this;rw[cond_neg (by rw[aS];omega),D];rfl
 |succ n I=>intro i hi w;refine acz ?_;have q:i<(tys d).length:=af;have l:i<(z7 d).length:=af;obtain⟨z,B⟩:=aew q;rw[cond_pos (by rw[bA];omega),cH l,cH l,o28 O.ok.cd q,aj,cH z,B,cds_at l,cC _ (by rw[bf,List.length_range];omega) ai af,bM af];have:=WC (W0 d) i;unfold W0 at this⊢;rw[this];exact I (i+1) af af
end
def c332 {d:List aC} (z:Sz d) (l:d.length<=64) (q:Fz d):f332 d=some (if x7 d=0 then(sg d,0) else(⟨[],[]⟩,x7 d)):=by
 refine e332 ?_;rw[c323 z l q,aj,c15 z l,aj];by_cases h:x7 d=0
 .obtain⟨O,B,D⟩:=K8 z l q h;have w:=c320 z l q;rw[aB h] at w;rw[aB h,aB h,az (by simpa using B),az D,cond_neg ai];exact h332 O w _ 0 rfl af
 .rw[az h,cond_pos (by simpa using h),az h]
def DC:List ck->List dH
 |a::b::l=>⟨a,b⟩::DC l
 |_=>[]
def UE {i:Nat} (h:i<4611686018427387904):IntKind.wrap .i64 ((i:Int)+2)=((i+2:Nat):Int):=by rw[gi af af];omega
theorem Yp {l:List ck} (L:l.length<=1000) {name:ck} {o6:aC} {sup a c:List ck} {b:List dH}:∀(n:Nat) (xs:List ck),xs.length<=n->∀(i:Nat) (w:List dH),l.drop i=xs->w.length<=i->i<=2000->
  Qw l i o6 name sup a b c w=some ⟨name,sup,w++DC xs⟩/\Jo l i o6 name a b c w=some ⟨name,c,w++DC xs⟩:=by
 intro n;induction n with
 |zero=>
  intro xs D i w h z hi
  have:xs=[]:=lQ.1 af
  subst this;have:=mI h;constructor
  .refine O9 ?_;rw[bM af,cond_neg (by rw[aS];omega)];simp[DC]
  .refine I6 ?_;rw[bM af,cond_neg (by rw[aS];omega)];simp[DC]
 |succ n I=>intro xs D i w h z hi;match xs,h,D with
  |[],h,_=>
   have:=mI h;constructor
   .refine O9 ?_;rw[bM af,cond_neg (by rw[aS];omega)];simp[DC]
   .refine I6 ?_;rw[bM af,cond_neg (by rw[aS];omega)];simp[DC]
  |[x],h,_=>
   have:=mI (aI h);constructor
   .refine O9 ?_;rw[bM af,cond_neg (by rw[aS];omega)];simp[DC]
   .refine I6 ?_;rw[bM af,cond_neg (by rw[aS];omega)];simp[DC]
  |x::y::r,h,D=>
   have B:=aI h;have:=dY B;have G:=aI B;simp only[bz] at D;obtain⟨p,q⟩:=I r af (i+2) (w++[⟨x,y⟩]) G (by rw[bQ];simp;omega) af;rw[ee] at p q;constructor
   .refine O9 ?_;rw[bM af,cond_pos (by rw[bA];omega),aK h,aK B,cC _ af ai af,UE af];exact p
   .refine I6 ?_;rw[bM af,cond_pos (by rw[bA];omega),aK h,aK B,cC _ af ai af,UE af];exact q
def Gp (name super:ck) (l:List ck) (w:l.length<=1000):f351 name super l=some ⟨name,if super=[] then[] else[super],DC l⟩:=by
 refine e351 ?_;by_cases h:super=[]
 .subst h;have:=(Yp w (name:=name) (o6:=⟨[],[],[]⟩) (sup:=[]) (a:=[]) (c:=[]) (b:=[]) _ l (aR _) 0 [] rfl ai af).2;have q:(!(([]:List UInt8)==([]:List UInt8)))=false:=rfl;rw[dK] at this;rw[cond_neg q,aB rfl];exact this
 .have:=(Yp w (name:=name) (o6:=⟨[],[],[]⟩) (sup:=[super]) (a:=[]) (c:=[]) (b:=[]) _ l (aR _) 0 [] rfl ai af).1;have q:(!(super==([]:List UInt8)))=true:=by simpa using h
  rw[dK] at this;rw[cond_pos q,az h];exact this
def Bn:List aC:=[
 ⟨[116,111,112],[],[]⟩,
 ⟨[108,105,115,116],[[116,111,112]],[]⟩,
 ⟨[99,111,110,115],[[108,105,115,116]],[⟨[70,73,82,83,84],[116,111,112]⟩,⟨[82,69,83,84],[108,105,115,116]⟩]⟩,
 ⟨[110,117,108,108],[[108,105,115,116]],[]⟩,
 ⟨[100,108,105,115,116],[[116,111,112]],[⟨[76,73,83,84],[108,105,115,116]⟩,⟨[76,65,83,84],[108,105,115,116]⟩]⟩,
 ⟨[105,110,100,101,120],[[116,111,112]],[]⟩,
 ⟨[104,97,110,100,108,101],[[105,110,100,101,120]],[]⟩,
 ⟨[101,118,101,110,116],[[105,110,100,101,120]],[]⟩,
 ⟨[101,110,116,105,116,121],[[105,110,100,101,120]],[]⟩,
 ⟨[114,101,108],[[116,111,112]],[⟨[76,65,66,69,76],[104,97,110,100,108,101]⟩]⟩,
 ⟨[113,101,113],[[116,111,112]],[⟨[72,73,71,72],[104,97,110,100,108,101]⟩,⟨[76,79,87],[104,97,110,100,108,101]⟩]⟩,
 ⟨[115,101,109],[[116,111,112]],[⟨[84,79,80],[104,97,110,100,108,101]⟩,⟨[73,78,68,69,88],[105,110,100,101,120]⟩,⟨[82,69,76,83],[100,108,105,115,116]⟩,⟨[67,79,78,83],[100,108,105,115,116]⟩]⟩,
 ⟨[115,105,103,110],[[116,111,112]],[⟨[83,69,77],[115,101,109]⟩,⟨[65,82,71,83],[108,105,115,116]⟩]⟩]
def c327:f327=some Bn:=by refine e327 ?_;rw[Gp _ _ _ (by decide),Gp _ _ _ (by decide),Gp _ _ _ (by decide),Gp _ _ _ (by decide),Gp _ _ _ (by decide),Gp _ _ _ (by decide),Gp _ _ _ (by decide),Gp _ _ _ (by decide),Gp _ _ _ (by decide),Gp _ _ _ (by decide),Gp _ _ _ (by decide),Gp _ _ _ (by decide),Gp _ _ _ (by decide)];simp only[aj];rfl
end Go.Proofs.YthphfjcnkinkpaaGreatDoor.cl
namespace Go.Proofs.YthphfjcnkinkpaaGreatDoor.cl
open Go Go.AM
structure Hd (h:aJ) (cs:List Nat):Prop where
 eq:h.Types.map (·.Code)=cs.map e1
 lt:∀c∈cs,c<18446744073709551616
 len:cs.length<=1000
def Hd.length {h:aJ} {cs:List Nat} (H:Hd h cs):h.Types.length=cs.length:=by have:=aP (λl=>l.length) H.eq;simpa using this
def Hd.code {h:aJ} {cs:List Nat} (H:Hd h cs) {i:Nat} (hi:i<h.Types.length):h.Types[i].Code=e1 (cs.getD i 0):=by
 have q:i<cs.length:=by rw[<-H.length];exact hi
 have:=aP (λl=>l[i]?) H.eq;simp only[dA,aM hi,aM q,e9,bg] at this;rw[this,bw,aM q];rfl
def Hd.get {h:aJ} {cs:List Nat} (H:Hd h cs) {i:Nat} (hi:i<cs.length):cs.getD i 0<18446744073709551616:=H.lt _ (lF hi)
def ZK {d:List aC} {i:Nat} (hi:i<(tys d).length):∃h:i<(sg d).Types.length,(sg d).Types[i]=W0 d i:=by refine⟨by simpa[sg] using hi,?_⟩;simp[sg]
def hd5 {d:List aC} (O:Ok5 d):Hd (sg d) (tys d):=by
 refine⟨?_,λc q=>O.ok.ltmem q,by have:=O.ok.cG;omega⟩;apply nF
 .simp[sg]
 .intro i w l;have hi:i<(tys d).length:=by simpa using l
  simp only[sg,kF,ED,W0];rw[bw,aM hi];rfl
def Dv (cs:List Nat) (w:Nat):Int×Bool:=if HK cs w<0 then(0,false) else(HK cs w,true)
def fnI (xs:List Nat) (w i:Nat):Int:=match xs.findIdx? (· ==w) with
 |some j=>((i+j:Nat):Int)
 |none=> -1
def SH (cs:List Nat) (w:Nat):fnI cs w 0=HK cs w:=by unfold fnI HK;cases cs.findIdx? (· ==w)<;>simp
def SG (c:Nat) (xs:List Nat) (w i:Nat):fnI (c::xs) w i=if c=w then(i:Int) else fnI xs w (i+1):=by
 unfold fnI;rw[uU];by_cases e:c=w
 .subst e;simp
 .have l:(c==w)=false:=by simpa using e
  rw[l,az e];cases xs.findIdx? (· ==w) with
  |none=>rfl
  |some j=>
   show((i+(j+1):Nat):Int)=((i+1+j:Nat):Int)
   omega
def XF {h:aJ} {cs:List Nat} (H:Hd h cs) {i c:Nat} {xs:List Nat} (l:cs.drop i=c::xs):∃hi:i<h.Types.length,h.Types[i].Code=e1 c/\c<18446744073709551616:=by
 have hi:=dY l;have q:=H.length;refine⟨af,?_,?_⟩
 .rw[H.code,bw,cr l];rfl
 .exact H.lt c (aV (cr l))
section
variable {h:aJ} {cs:List Nat} (H:Hd h cs)
include H
theorem h353 {w:Nat} (G:w<18446744073709551616):∀(xs:List Nat) (i:Nat),cs.drop i=xs->Qx h.Types (e1 w) h.Types.length i=some (fnI xs w i):=by have L:=H.len;intro xs;induction xs with
 |nil=>intro i z;refine acE ?_;rw[H.length,bp z];rfl
 |cons c xs I=>
  intro i z;refine acE ?_;obtain⟨hi,D,q⟩:=XF H z;have l:f371 h.Types[i] (e1 w)=some (decide (c=w)):=by refine e371 ?_;rw[D,o31 q G];rfl
  have B:=H.length;rw[cond_pos (by rw[bA];omega),cH hi,l,aj,bM af,I (i+1) (aI z),SG];by_cases e:c=w
  .rw[aB e,cond_pos (by simpa using e)]
  .rw[az e,cond_neg (by simpa using e)]
theorem o353 {w:Nat} (l:w<18446744073709551616):f353 h.Types (e1 w)=some (HK cs w):=by refine e353 ?_;rw[<-SH];exact h353 H l cs 0 rfl
theorem h354 {w:Nat} (D:w<18446744073709551616):∀(xs:List Nat) (i:Nat),cs.drop i=xs->Qy (e1 w) i h=some (if fnI xs w i<0 then(0,false) else(fnI xs w i,true)):=by have I:=H.len;intro xs;induction xs with
 |nil=>intro i q;refine acF ?_;rw[H.length,bp q];rfl
 |cons c xs G=>
  intro i q;refine acF ?_;obtain⟨hi,B,l⟩:=XF H q;have z:=H.length;rw[cond_pos (by rw[bA];omega),cH hi,B,o57 l D,aj,bM af,G (i+1) (aI q),SG];by_cases e:c=w
  .rw[aB e,cond_pos (by simpa using e),az af]
  .rw[az e,cond_neg (by simpa using e)]
theorem o354 {w:Nat} (l:w<18446744073709551616):f354 h (e1 w)=some (Dv cs w):=by refine e354 ?_;unfold Dv;rw[<-SH];exact h354 H l cs 0 rfl
variable (K:aaN cs) {i j:Nat} (hi:i<cs.length) (hj:j<cs.length)
include hi
theorem o339 {j:Nat} (hj:j<cs.length):f339 h i j=some (sub (cs.getD j 0) (cs.getD i 0)):=by refine e339 ?_;have l:=H.length;rw[cH af,cH af,H.code,H.code,o63 (H.get hj) (H.get hi)];rfl
theorem o340 {j:Nat} (hj:j<cs.length):f340 h i j=some (sub (cs.getD j 0) (cs.getD i 0)):=by refine e340 ?_;have l:=H.length;rw[cH af,cH af,H.code,H.code,o65 (H.get hj) (H.get hi)];rfl
include K hj
theorem o335:f335 h i j=some (Dv cs (cs.getD i 0&&&cs.getD j 0)):=by
 refine e335 ?_;have B:=H.length;have z:cs.getD i 0&&&cs.getD j 0<18446744073709551616:=nv rS (H.get hi);rw[cH af,cH af,H.code,H.code,Z1 (H.get hi) (H.get hj),aj];by_cases q:cs.getD i 0&&&cs.getD j 0=0
 .rw[q,cond_pos (by rfl)];unfold Dv;rw[Xy (λw=>K.nz 0 w rfl)];rfl
 .rw[cond_neg (by rw[lM];intro e;exact q (EZ af)),o353 H z,aj];unfold Dv;by_cases l:HK cs (cs.getD i 0&&&cs.getD j 0)<0
  .rw[cond_pos (by simpa using l),aB l]
  .rw[cond_neg (by simpa using l),az l]
theorem o336:f336 h i j=some (Dv cs (cs.getD i 0&&&cs.getD j 0)):=by refine e336 ?_;have q:=H.length;have l:cs.getD i 0&&&cs.getD j 0<18446744073709551616:=nv rS (H.get hi);rw[cH af,cH af,H.code,H.code,o61 (H.get hi) (H.get hj),aj,o354 H l];rfl
end
def h355 {l:List fR} (B:l.length<=1000) (f:Int):∀(xs:List fR) (i:Nat),l.drop i=xs->Jq f l l.length i=some (match xs.find? λx=>x.bB==f with|some x=>(x.Value,true)|none=>(0,false)):=by intro xs;induction xs with
 |nil=>intro i q;refine XU ?_;rw[bp q];rfl
 |cons x xs w=>intro i q;refine XU ?_;rw[aT q,au,aK q,aQ q af,w (i+1) (aI q),lR];cases z:x.bB==f<;>simp
def h356 {l:List fR} (B:l.length<=1000) (f:Int):∀(xs:List fR) (i:Nat),l.drop i=xs->Qz f l i=some (match xs.find? λx=>x.bB==f with|some x=>(x.Value,true)|none=>(0,false)):=by intro xs;induction xs with
 |nil=>intro i q;refine acG ?_;rw[bp q];rfl
 |cons x xs w=>intro i q;refine acG ?_;rw[aT q,au,aK q,aK q,aQ q af,w (i+1) (aI q),lR];cases z:x.bB==f<;>rfl
def Ue {d:List aC} {w j:Nat} {F:ck} (h:(qz d)[j]? =some F):(match(yu d w (qz d) 0).find? (λx=>x.bB==(j:Int)) with|some x=>(x.Value,true)|none=>(0,false))=(match inh d w F with|some c=>(HK (tys d) c,true)|none=>(0,false)):=by have:=aai (d:=d) (w:=w) (qz d) 0 j F h;rw[eF] at this;rw[this];cases inh d w F<;>rfl
section
variable {d:List aC} (O:Ok5 d) {T:Nat} (hT:T<(tys d).length) {j:Nat} {F:ck} (hj:(qz d)[j]? =some F)
include O hT hj
theorem o355:f355 (sg d) T j=some (match inh d ((tys d).getD T 0) F with|some c=>(HK (tys d) c,true)|none=>(0,false)):=by obtain⟨l,q⟩:=ZK hT;have z:=Ie (d:=d) (w:=(tys d).getD T 0) (qz d) 0;have w:=O.f64;refine e355 ?_;rw[cH l,q,<-Ue hj];exact h355 (by show(yu _ _ _ _).length<=1000;omega) j _ 0 rfl
theorem o356:f356 (sg d) T j=some (match inh d ((tys d).getD T 0) F with|some c=>(HK (tys d) c,true)|none=>(0,false)):=by obtain⟨l,q⟩:=ZK hT;have z:=Ie (d:=d) (w:=(tys d).getD T 0) (qz d) 0;have w:=O.f64;refine e356 ?_;rw[cH l,q,<-Ue hj];exact h356 (by show(yu _ _ _ _).length<=1000;omega) j _ 0 rfl
end
