/- Layer 5. -/
import Derived.Test.YthphfjcnkinkpaaGreatDoorClSa
set_option linter.all false
namespace Go.Proofs.YthphfjcnkinkpaaGreatDoor.cl
open Go Go.AM
def xF (d:List aC) (F:cn):List cn:=(d.filter λt=>(val t F).isSome).map (·.Name)
def Gf {d:List aC} {F x:cn}:x∈xF d F↔∃t∈d,(val t F).isSome=true/\t.Name=x:=by unfold xF;grind
def GK {d:List aC} {F x:cn} (h:x∈xF d F):x∈ku d:=by obtain⟨t,l,_,rfl⟩:=Gf.1 h;grind
def one:List cn->Option cn
 |[x]=>some x
 |_=>none
def adQ {l:List cn} {x:cn} (h:one l=some x):l=[x]:=by cases l with
 |nil=>cases h
 |cons y l=>cases l with
  |nil=>simp_all[one]
  |cons z l=>cases h
def eq_one {l:List cn} {u:cn} (D:l.Nodup) (q:∀x∈l,x=u) (w:u∈l):l=[u]:=by cases l with
 |nil=>cases w
 |cons y l=>have B:=q y ai;subst B;cases l with
  |nil=>rfl
  |cons z l=>simp_all
noncomputable def CJ (d:List aC) (F:cn):Option cn:=one (wj d (oO (xF d F)))
def SZ {d:List aC} (A:Acc d) {F u:cn}:CJ d F=some u↔u∈xF d F/\∀v∈xF d F,Le d u v:=by
 have w:∀x,x∈oO ((oO (xF d F)).filter λs=>decide (s∈ku d))↔x∈xF d F:=by intro x;rw[gB,c7,gB];exact⟨λh=>h.1,λh=>⟨h,by simpa using GK h⟩⟩
 have q:=mz ((oO (xF d F)).filter λs=>decide (s∈ku d));unfold CJ wj;generalize oO _=l at w q;constructor
 .intro h;have e:=adQ h;refine⟨?_,λv D=> ?_⟩
  .have:u∈l.filter (sj d l):=by rw[e];simp
   grind
  grind[Ge]
 .rintro⟨z,B⟩;have e:l.filter (sj d l)=[u]:=by
   refine eq_one (q.nodup.filter _) (λx G=> ?_) ?_
   .simp_all[Cu]
   .grind[Cu,le_antisymm]
  rw[e];rfl
def S0 {d:List aC} (A:Acc d) {F u:cn} (h:CJ d F=some u):u∈ku d:=GK ((SZ A).1 h).1
def h357 {d:List aC} (O:Ok d) (B:Fz d) (F:cn):∀(xs:List aC) (i:Nat) (o:List cn),d.drop i=xs->o.length<=i->i<=d.length->
  Ll d F o i=some (match one (wj d ((xF xs F).foldl (λo s=>qU s o) o)) with|some x=>(x,true)|none=>([],false)):=by
 have w:=O.len;intro xs;induction xs with
 |nil=>intro i o h D q;refine acq ?_;rw[aW h,c104 O.z O.acc o af];show _=some (match one (wj d o) with|some x=>(x,true)|none=>([],false));generalize wj d o=l;cases l with
  |nil=>rfl
  |cons x l=>cases l with
   |nil=>exact bU ai _
   |cons y l=>rfl
 |cons t xs z=>intro i o h D q;refine acq ?_;have hi:=dN h;have G:=B t (aR (bV h));rw[aJ h,c373 _ _ G,aj,aN h af];cases L:val t F with
  |none=>rw[z _ o (aH h) af af];simp_all[xF]
  |some v=>have I:=nD t.Name o;rw[aJ h,c98 _ _ af,aj,z _ _ (aH h) af af];simp_all[xF]
def c357 {d:List aC} (O:Ok d) (l:Fz d) (F:cn):f357 d F=some (match CJ d F with|some x=>(x,true)|none=>([],false)):=
 e357 (h357 O l F d 0 _ rfl ai af)
def h358 {l:List fO} (w:l.length<=1048576) (x:cn):∀(xs:List fO) (i:Nat),l.drop i=xs->Qj l x i=some (jf (λc=>c.Name==x) xs i):=by intro xs;induction xs with
 |nil=>intro i h;refine acr ?_;rw[aW h];rfl
 |cons y xs q=>intro i h;refine acr ?_;rw[aP h,aJ h,aN h af,q _ (aH h),jf];grind
def o358 {d:List aC} (O:Ok d) {x:cn} (q:x∈ku d):f358 (zF d) x=some (nu d x:Int):=by have l:=O.cG;rw[<-oc] at l;refine e358 ((h358 (l:=zF d) af x (zF d) 0 rfl).trans ?_);rw[(O.zV q).1]
def Ok.code_nu {d:List aC} (O:Ok d) {x:cn} (l:x∈ku d) (q:nu d x<(zF d).length):(zF d)[nu d x].Code=e1 (cwd d x):=by rw[O.cd.code,(O.zV l).2.2.1]
def Ok.nu_lt {d:List aC} (O:Ok d) {x:cn} (l:x∈ku d):nu d x<(zF d).length:=by rw[oc];exact(O.zV l).2.1
def comb (o:Option Nat) (c:Nat):Nat:=match o with
 |some a=>a&&&c
 |none=>c
noncomputable def Ac (d:List aC) (w:Nat) (F:cn) (o:Option Nat) (t:aC):Option Nat:=match val t F with
 |some v=>if sub w (cwd d t.Name)=true then some (comb o (cwd d v)) else o
 |none=>o
noncomputable def inh (d:List aC) (w:Nat) (F:cn):Option Nat:=d.foldl (Ac d w F) none
def Vd (d:List aC):Prop:=∀t∈d,∀x∈t.bC,x.Value∈ku d
def Vd.val {d:List aC} (h:Vd d) {t:aC} (l:t∈d) {F v:cn} (q:val t F=some v):v∈ku d:=by obtain⟨x,w,_,rfl⟩:=aeo q;exact h t l x w
def stp_in {d:List aC} (O:Ok d) (D:Vd d) {w:Nat} {F:cn}:∀(xs:List aC) (o:Option Nat),(∀t∈xs,t∈d)->(∀c,o=some c->c=0\/c∈tys d)->∀c,xs.foldl (Ac d w F) o=some c->c=0\/c∈tys d:=by intro xs;induction xs with
 |nil=>simp
 |cons t xs Q=>intro o B L c G;refine Q _ (λu N=>B u (by simp[N])) (λc' l=> ?_) c G;unfold Ac at l;cases z:val t F with
  |none=>simp_all
  |some v=>
   rw[z] at l;have I:=O.cwmem (D.val (B t ai) z);simp at l;split at l
   .cases o with
    |none=>simp_all[comb]
    |some a=>
     simp[comb] at l;rcases L a rfl with q|q
     .simp_all
     .by_cases P:a&&&cwd d v=0
      .omega
      .right;rw[<-l];exact O.Vs.cl a q _ I P
   simp_all
def inh_in {d:List aC} (O:Ok d) (l:Vd d) {w:Nat} {F:cn} {c:Nat} (h:inh d w F=some c):c=0\/c∈tys d:=
 stp_in O l d _ (λt h=>h) (λc h=>by cases h) c h
def Ok.ltmem {d:List aC} (O:Ok d) {c:Nat} (h:c∈tys d):c<18446744073709551616:=O.cd.lt c h
def h370 {d:List aC} (O:Ok d) (R:Fz d) (N:Vd d) {T:Nat} (hT:T<(tys d).length) (F:cn):∀(xs:List aC) (i:Nat) (o:Option Nat),d.drop i=xs->(∀c,o=some c->c<18446744073709551616)->
  GA d (zF d) T F o.isSome (e1 (o.getD ((tys d).getD 0 0))) i=some (e1 ((xs.foldl (Ac d ((tys d).getD T 0) F) o).getD ((tys d).getD 0 0)),(xs.foldl (Ac d ((tys d).getD T 0) F) o).isSome):=by
 have D:=O.len;intro xs;induction xs with
 |nil=>grind[acw,aW]
 |cons t xs B=>intro i o h G;refine acw ?_;have q:t∈d:=aR (bV h);have U:=R t q;rw[aP h,ak,aJ h,c373 _ _ U,aj,aN h af,gx];cases z:val t F with
  |none=>
   have e:Ac d ((tys d).getD T 0) F o t=o:=by unfold Ac;rw[z]
   rw[cond_pos (by rfl),B (i+1) o (aH h) G,e]
  |some v=>have l:=N.val q z;have w:=Tq q;have I:=O.zV w;have S:=O.zV l;rw[cond_neg (by rfl),aJ h,o358 O w,aj,o25 O.cd I.2.1 hT,aj,I.2.2.1];unfold Ac;rw[z];simp only;cases L:sub ((tys d).getD T 0) (cwd d t.Name) with
   |false=>rw[fS,ak,az ai];exact B (i+1) o (aH h) G
   |true=>
    rw[dS,aA,aB rfl,o358 O l,aj,bU (O.nu_lt l),O.code_nu l _];have P:(o.getD ((tys d).getD 0 0))<18446744073709551616:=by cases o with
     |none=>exact O.lt O.Vs.pos
     |some a=>simp_all
    rw[o61 P (O.cwlt v),aj];have e:o.getD ((tys d).getD 0 0)&&&cwd d v=comb o (cwd d v):=by cases o with
     |some a=>rfl
     |none=>rw[Nat.and_comm];exact Yt.1 (O.Vs.top _ (O.cwmem l))
    rw[e];refine B _ (some (comb o _)) (aH h) (λc Q=> ?_);grind[Nat.and_le_left]
def c370 {d:List aC} (O:Ok d) (q:Fz d) (l:Vd d) {T:Nat} (hT:T<(tys d).length) (F:cn):f370 d (zF d) T F=some (e1 ((inh d ((tys d).getD T 0) F).getD ((tys d).getD 0 0)),(inh d ((tys d).getD T 0) F).isSome):=by
 have w:0<(zF d).length:=by rw[oc];exact O.Vs.pos
 refine e370 ?_;rw[show(0:Int)=((0:Nat)) from rfl,bU w,O.cd.code];exact h370 O q l hT F d 0 none rfl (λc h=>by cases h)
noncomputable def Cy (d:List aC) (l:List cn):Bool:=l.any λF=>(CJ d F).isNone
noncomputable def Dm (d:List aC) (l:List Nat):Bool:=l.any λw=>(qA d).any λF=>inh d w F==some 0
noncomputable def xN (d:List aC):Int:=
 if Ir d≠0 then Ir d else if(AZ (qt d)).length>256 then 7 else if(qA d).length>64 then 7 else if sg (ku d) d≠0 then sg (ku d) d
 else if Cy d (qA d)=true then 10 else if Dm d (tys d)=true then 11 else 0
def h318c {d:List aC} (O:Ok d) (w:Fz d) (q:Vd d) {T:Nat} (hT:T<(tys d).length) {r:Int} (z:(qA d).length<=1000) (B:Fp d (zF d) (qA d) (T+1:Nat)=some r):∀(xs:List cn) (i:Nat),(qA d).drop i=xs->
  Fq d (zF d) (qA d) T i=some (if(xs.any λF=>inh d ((tys d).getD T 0) F==some 0)=true then 11 else r):=by
 have G:=O.cG;intro xs;induction xs with
 |nil=>intro i h;refine XK ?_;rw[aW h,aA,bM af,B];rfl
 |cons F xs D=>intro i h;refine XK ?_;rw[aP h,aJ h,c370 O w q hT,aj,aN h af,D _ (aH h),wL];cases hi:inh d _ F with
  |none=>rfl
  |some c=>
   simp only[D9,ak];by_cases l:c=0
   .subst l;rfl
   .have:(some c==some 0)=false:=by simpa using l
    rw[this,pX,cond_neg (by grind[Es])]
def h318b {d:List aC} (O:Ok d) (z:Fz d) (q:Vd d) (l:(qA d).length<=1000):∀(xs:List Nat) (T:Nat),(tys d).drop T=xs->
  Fp d (zF d) (qA d) T=some (if Dm d xs=true then 11 else 0):=by
 intro xs;induction xs with
 |nil=>intro T h;refine XJ ?_;rw[oc,aW h];rfl
 |cons w xs B=>
  intro T h;refine XJ ?_;have hT:=dN h;have D:(tys d).getD T 0=w:=by rw[bA,bV h];rfl
  rw[oc,aP h,ak];refine(h318c O z q hT l (B _ (aH h)) _ 0 rfl).trans ?_;unfold Dm;grind
def h318a {d:List aC} (O:Ok d) (q:Fz d) (w:Vd d) (l:(qA d).length<=1000):∀(xs:List cn) (i:Nat),(qA d).drop i=xs->
  IT d (zF d) (qA d) i=some (if Cy d xs=true then 10 else if Dm d (tys d)=true then 11 else 0):=by
 intro xs;induction xs with
 |nil=>intro i h;refine XI ?_;rw[aW h,aA];exact h318b O q w l _ 0 rfl
 |cons F xs z=>intro i h;refine XI ?_;rw[aP h,aJ h,c357 O q,aN h af,z _ (aH h)];unfold Cy;grind
def ok_of {d:List aC} (z:Sz d) (l:d.length<=64) (q:Ir d=0) (w:¬(AZ (qt d)).length>256):Ok d:=⟨z,Jh q,l,af⟩
def NK {d:List aC} (h:sg (ku d) d=0):Vd d:=λt l x q=>(((Vh _ d).1 h t l).1 x q).2
def c318 {d:List aC} (z:Sz d) (l:d.length<=64) (B:Fz d):f318 d=some (xN d):=by
 refine e318 ?_;unfold xN;rw[c15 z l,aj];by_cases D:Ir d=0
 .have q:¬(Ir d≠0):=λh=>h D
  rw[az q,az q];by_cases w:(AZ (qt d)).length>256
  .simp_all
  .rw[az w,az w,cond_neg ai,c345 af B,aj];have O:=ok_of z l D w;by_cases I:(qA d).length>64
   .grind
   .rw[az I,cond_neg (by grind),c346 af B,aj];by_cases G:sg (ku d) d=0
    .rw[G,cond_neg ai];exact h318a O B (NK G) af _ 0 rfl
    grind
 grind
structure Ok5 (d:List aC):Prop where
 ok:Ok d
 fz:Fz d
 f64:(qA d).length<=64
 fd:sg (ku d) d=0
 intro:∀F∈qA d,∃u,CJ d F=some u
 vals:∀w∈tys d,∀F∈qA d,inh d w F≠some 0
def KG {d:List aC} (z:Sz d) (l:d.length<=64) (N:Fz d) (h:xN d=0):Ok5 d/\Ir d=0/\¬(AZ (qt d)).length>256:=by
 unfold xN at h;by_cases B:Ir d=0
 .by_cases D:(AZ (qt d)).length>256
  .omega
  .by_cases Q:(qA d).length>64
   .omega
   .by_cases G:sg (ku d) d=0
    .by_cases I:Cy d (qA d)=true
     .simp_all
     .by_cases L:Dm d (tys d)=true
      .simp_all
      .refine⟨⟨ok_of z l B D,N,by omega,G,λF q=> ?_,λw P F q e=> ?_⟩,B,D⟩
       .cases hi:CJ d F with
        |some u=>simp
        |none=>exact absurd (nJ.2 ⟨F,q,by simp_all⟩) I
       .exact L (nJ.2 ⟨w,P,nJ.2 ⟨F,q,by simp_all⟩⟩)
    omega
 omega
noncomputable def JO (d:List aC) (F:cn):cW:=⟨F,(nu d ((CJ d F).getD []):Int)⟩
noncomputable def vR (d:List aC):List cW:=(qA d).map (JO d)
def h320 {d:List aC} (O:Ok5 d):∀(xs:List cn) (i:Nat) (o:List cW),(qA d).drop i=xs->o.length<=i->Qc d (zF d) (qA d) i o=some (o++xs.map (JO d),0):=by have q:=O.f64;intro xs;induction xs with
 |nil=>intro i o h w;refine ace ?_;grind
 |cons F xs z=>
  intro i o h w;refine ace ?_;have hi:=dN h;obtain⟨u,l⟩:=O.intro F (aR (bV h))
  rw[aJ h,c357 O.ok O.fz,aj,l,aJ h,o358 O.ok (S0 O.ok.acc l),aj,cC _ af ai af,aN h af,
   z _ _ (aH h) (by simp_all)]
  simp_all[JO]
def c320 {d:List aC} (z:Sz d) (l:d.length<=64) (q:Fz d):f320 d=some (if xN d=0 then(vR d,0) else([],xN d)):=by
 refine e320 ?_;rw[c318 z l q,aj];by_cases h:xN d=0
 .obtain⟨O,w,B⟩:=KG z l q h;rw[aB h,cond_neg (by simpa using h),c15 z l,az (show¬(Ir d≠0) from λh=>h w),az B,aj,c345 af q,aj];exact h320 O (qA d) 0 [] rfl ai
 .rw[az h,cond_pos (by simpa using h)]
noncomputable def x7 (d:List aC) (w:Nat):List cn->Nat->List ga
 |[],_=>[]
 |F::l,k=>match inh d w F with
  |some c=>⟨(k:Int),Hg (tys d) c⟩::x7 d w l (k+1)
  |none=>x7 d w l (k+1)
noncomputable def LP (d:List aC):List (List ga):=(tys d).map λw=>x7 d w (qA d) 0
def HC {d:List aC} {w:Nat}:∀(l:List cn) (k:Nat),(x7 d w l k).length<=l.length:=by intro l;induction l with
 |nil=>intro k;simp[x7]
 |cons F l q=>intro k;have:=q (k+1);unfold x7;cases inh d w F<;>simp<;>omega
def h323b {d:List aC} (O:Ok5 d) {T:Nat} (hT:T<(tys d).length) {o:List (List ga)} (G:o.length<=T) {r:List (List ga)×Int}:∀(xs:List cn) (i:Nat) (row:List ga),(qA d).drop i=xs->row.length<=i->
  Ld d (zF d) (qA d) (T+1:Nat) (o++[row++x7 d ((tys d).getD T 0) xs i])=some r->Fs d (zF d) (qA d) T i o row=some r:=by
 have B:=O.f64;have D:=O.ok.cG;intro xs;induction xs with
 |nil=>intro i row h w l;refine XL ?_;rw[aW h,aA,cC _ af ai af,bM af];rwa[x7,dF] at l
 |cons F xs z=>intro i row h w l;refine XL ?_;have hi:=dN h;rw[aP h,ak,aJ h,c370 O.ok O.fz (NK O.fd) hT,aj,aN h af];unfold x7 at l;cases q:inh d ((tys d).getD T 0) F with
  |none=>rw[q] at l;simp only[Option.isSome_none,aA];exact z (i+1) row (aH h) af l
  |some c=>rw[q] at l;simp only[D9,rO,ak];rw[o19 O.ok.cd,aj,cC _ af ai af];refine z (i+1) _ (aH h) (by rw[cE];simp;omega) ?_;rw[ef];exact l
def h323 {d:List aC} (O:Ok5 d):∀(xs:List Nat) (T:Nat) (o:List (List ga)),(tys d).drop T=xs->o.length<=T->
  Ld d (zF d) (qA d) T o=some (o++xs.map (λw=>x7 d w (qA d) 0),0):=by
 intro xs;induction xs with
 |nil=>intro T o h l;refine acf ?_;rw[oc,aW h,aA,fI,dF]
 |cons w xs z=>
  intro T o h l;refine acf ?_;have q:(tys d).getD T 0=w:=by rw[bA,bV h];rfl
  rw[oc,aP h,ak];refine h323b O (dN h) l (qA d) 0 [] rfl ai ?_;rw[z (T+1) _ (aH h) (by rw[cE];simp;omega),q,ef];rfl
def c323 {d:List aC} (z:Sz d) (l:d.length<=64) (q:Fz d):f323 d=some (if xN d=0 then(LP d,0) else([],xN d)):=by
 refine e323 ?_;rw[c318 z l q,aj];by_cases h:xN d=0
 .obtain⟨O,w,B⟩:=KG z l q h;rw[aB h,cond_neg (by simpa using h),c15 z l,az (show¬(Ir d≠0) from λh=>h w),az B,aj,c345 af q,aj];exact h323 O (tys d) 0 [] rfl ai
 .rw[az h,cond_pos (by simpa using h)]
end Go.Proofs.YthphfjcnkinkpaaGreatDoor.cl
namespace Go.Proofs.YthphfjcnkinkpaaGreatDoor.cl
open Go Go.AM
def JP {d:List aC}:(vR d).length=(qA d).length:=by simp[vR]
def aad {d:List aC}:(LP d).length=(tys d).length:=by simp[LP]
end Go.Proofs.YthphfjcnkinkpaaGreatDoor.cl
namespace Go.Proofs.YthphfjcnkinkpaaGreatDoor.cl
open Go Go.AM
def M0 {d:List aC} {w:Nat} {F:cn}:∀(xs:List aC) (o:Option Nat),
  ((xs.foldl (Ac d w F) o).isSome=true↔o.isSome=true\/∃t∈xs,(val t F).isSome=true/\sub w (cwd d t.Name)=true)/\
  ∀c,xs.foldl (Ac d w F) o=some c->∀i,c.testBit i=true↔(∀a,o=some a->a.testBit i=true)/\∀t∈xs,∀v,val t F=some v->sub w (cwd d t.Name)=true->(cwd d v).testBit i=true:=by
 intro xs;induction xs with
 |nil=>intro o;refine⟨ai,λc G i=> ?_⟩;rw[List.foldl_nil] at G;subst G;simp
 |cons t xs S=>intro o;obtain⟨L,N⟩:=S (Ac d w F o t);rw[gx];cases I:val t F with
  |none=>
   have e:Ac d w F o t=o:=by unfold Ac;rw[I]
   rw[e] at L N⊢;constructor
   .rw[L];constructor
    .rintro (h|⟨u,q,h⟩)
     .exact .inl h
     .exact .inr ⟨u,by simp[q],h⟩
    .rintro (h|⟨u,q,h⟩)
     .exact .inl h
     .rcases aS.1 q with rfl|q
      .rw[I] at h;simp at h
      .exact .inr ⟨u,q,h⟩
   .intro c G i;rw[N c G i];constructor
    .rintro⟨a,b⟩;refine⟨a,λu q v l B=> ?_⟩;rcases aS.1 q with rfl|q
     .rw[I] at l;cases l
     .exact b u q v l B
    .rintro⟨a,b⟩;exact⟨a,λu q v l B=>b u (by simp[q]) v l B⟩
  |some v=>cases B:sub w (cwd d t.Name) with
   |false=>
    have e:Ac d w F o t=o:=by unfold Ac;rw[I,B];simp
    rw[e] at L N⊢;constructor
    .rw[L];constructor
     .rintro (h|⟨u,q,h⟩)
      .exact .inl h
      .exact .inr ⟨u,by simp[q],h⟩
     .rintro (h|⟨u,q,h⟩)
      .exact .inl h
      .rcases aS.1 q with rfl|q
       .rw[B] at h;simp at h
       .exact .inr ⟨u,q,h⟩
    .intro c G i;rw[N c G i];constructor
     .rintro⟨a,b⟩;refine⟨a,λu q v l z=> ?_⟩;rcases aS.1 q with rfl|q
      .rw[B] at z;cases z
      .exact b u q v l z
     .rintro⟨a,b⟩;exact⟨a,λu q v l z=>b u (by simp[q]) v l z⟩
   |true=>
    have e:Ac d w F o t=some (comb o (cwd d v)):=by unfold Ac;rw[I,B];cases o<;>rfl
    rw[e] at L N⊢;have D:∀i,(comb o (cwd d v)).testBit i=true↔(∀a,o=some a->a.testBit i=true)/\(cwd d v).testBit i=true:=by intro i;cases o with
     |none=>simp[comb]
     |some a=>simp[comb,lS]
    constructor
    .rw[L];constructor
     .intro _;exact .inr ⟨t,by simp,by rw[I];rfl,B⟩
     .intro _;exact .inl rfl
    .intro c G i;rw[N c G i];constructor
     .rintro⟨a,b⟩;have R:=(D i).1 (a _ rfl);refine⟨R.1,λu q Q l z=> ?_⟩;rcases aS.1 q with rfl|q
      .rw[I] at l;injection l with l;rw[<-l];exact R.2
      .exact b u q Q l z
     .rintro⟨a,b⟩;refine⟨λx P=> ?_,λu q Q l z=>b u (by simp[q]) Q l z⟩;injection P with P;rw[<-P];exact(D i).2 ⟨a,b t ai v I B⟩
def SQ {d:List aC} {w:Nat} {F:cn}:(inh d w F).isSome=true↔∃t∈d,(val t F).isSome=true/\sub w (cwd d t.Name)=true:=by have:=(M0 (d:=d) (w:=w) (F:=F) d none).1;unfold inh;rw[this];simp
def XE {d:List aC} {w:Nat} {F:cn} {c:Nat} (h:inh d w F=some c) (i:Nat):c.testBit i=true↔∀t∈d,∀v,val t F=some v->sub w (cwd d t.Name)=true->(cwd d v).testBit i=true:=by rw[(M0 (d:=d) (w:=w) (F:=F) d none).2 c h i];exact⟨λh=>h.2,λh=>⟨λa l=>(by cases l),h⟩⟩
def abU {d:List aC} {w v:Nat} {F:cn} {a b:Nat} (z:sub v w=true) (l:inh d w F=some a) (q:inh d v F=some b):sub b a=true:=by rw[j8];intro i hi;rw[XE l];intro t B x G D;exact(XE q i).1 hi t B x G (yP z D)
def inh_up {d:List aC} {w v:Nat} {F:cn} (z:sub v w=true) (h:(inh d w F).isSome=true):(inh d v F).isSome=true:=by rw[SQ] at h⊢;obtain⟨t,B,l,q⟩:=h;exact⟨t,B,l,yP z q⟩
def ZC {d:List aC} (A:Acc d) {w:Nat} {F u:cn} (h:CJ d F=some u):(inh d w F).isSome=sub w (cwd d u):=by
 obtain⟨D,G⟩:=(SZ A).1 h;rw[iZ,SQ];constructor
 .rintro⟨t,q,z,l⟩;have B:t.Name∈xF d F:=Gf.2 ⟨t,q,z,rfl⟩;exact yP l ((Oj (GK B)).2 (G _ B))
 .intro l;obtain⟨t,q,z,rfl⟩:=Gf.1 D;exact⟨t,q,z,l⟩
def Ok5.num {d:List aC} (O:Ok5 d) {w:Nat} (I:w∈tys d) {F:cn} (G:F∈qA d) {c:Nat} (h:inh d w F=some c):∃q:Nat,Hg (tys d) c=(q:Int)/\q<(tys d).length/\(tys d).getD q 0=c:=by
 rcases inh_in O.ok (NK O.fd) h with l|l
 .rw[l] at h;exact absurd h (O.vals w I F G)
 .obtain⟨q,z,B,D⟩:=Oz l;exact⟨q,D,z,B⟩
def rowF_ge {d:List aC} {w:Nat}:∀(l:List cn) (k:Nat),∀x∈x7 d w l k,(k:Int)<=x.bw:=by intro l;induction l with
 |nil=>intro k x q;cases q
 |cons F l z=>intro k x q;unfold x7 at q;cases h:inh d w F with
  |none=>rw[h] at q;have:=z (k+1) x q;omega
  |some c=>
   rw[h] at q;rcases aS.1 q with rfl|q
   .simp
   .have:=z (k+1) x q;omega
def Z5 {d:List aC} {w:Nat}:∀(l:List cn) (k j:Nat) (F:cn),l[j]? =some F->(x7 d w l k).find? (λx=>x.bw==((k+j:Nat):Int))=(inh d w F).map λc=>(⟨((k+j:Nat):Int),Hg (tys d) c⟩:ga):=by intro l;induction l with
 |nil=>intro k j F h;simp at h
 |cons G l I=>intro k j F h;unfold x7;cases j with
  |zero=>
   have:G=F:=by simpa using h
   subst this;cases B:inh d w G with
   |none=>simp only[Option.map_none];rw[uS];intro x D;have:=rowF_ge l (k+1) x D;simp only[ja];omega
   |some c=>simp only[kH,lY,beq_self_eq_true,ff]
  |succ j=>
   have z:l[j]? =some F:=by simpa using h
   have q:=I (k+1) j F z;have e:k+1+j=k+(j+1):=af;rw[e] at q;cases B:inh d w G with
   |none=>exact q
   |some c=>simp only[kH];rw[show((k:Int)==((k+(j+1):Nat):Int))=false by rw[lP];omega];exact q
def aeq {d:List aC} {T:Nat} (hT:T<(tys d).length):∃h:T<(LP d).length,(LP d)[T]=x7 d ((tys d).getD T 0) (qA d) 0:=by refine⟨by rw[aad];exact hT,?_⟩;unfold LP;rw[kF];congr 1;rw[bA,aM hT];rfl
def Zm {d:List aC} {j:Nat} {F:cn} (h:(qA d)[j]? =some F):∃hj:j<(vR d).length,(vR d)[j]=JO d F:=by obtain⟨hj,e⟩:=bR.1 h;refine⟨by rw[JP];exact hj,?_⟩;unfold vR;rw[kF,e]
end Go.Proofs.YthphfjcnkinkpaaGreatDoor.cl
namespace Go.Proofs.YthphfjcnkinkpaaGreatDoor.cl
open Go Go.AM
noncomputable def adI (d:List aC) (i:Nat):cn:=((eS d).getD i ([],0)).1
noncomputable def WV (d:List aC) (i:Nat):fM:=⟨adI d i,e1 ((tys d).getD i 0),cast (ad8 (tys d) i),x7 d ((tys d).getD i 0) (qA d) 0⟩
noncomputable def sk (d:List aC):aK:=⟨(List.range (tys d).length).map (WV d),vR d⟩
def cds_at {d:List aC} {i:Nat} (h:i<(zF d).length):(zF d)[i]=⟨adI d i,e1 ((tys d).getD i 0)⟩:=by
 have hi:i<(eS d).length:=by simpa[zF] using h
 have e:(zF d)[i]? =some ⟨adI d i,e1 ((tys d).getD i 0)⟩:=by unfold zF adI tys;rw[dK,aM hi,bA,aM hi,bA,dK,aM hi];rfl
 rw[aM h] at e;exact fR e
def Wy {l:Type} (g:Nat->l) (i:Nat):(List.range i).map g++[g i]=(List.range (i+1)).map g:=by rw[kE,cL];rfl
section
variable {d:List aC} (O:Ok5 d)
include O
theorem h332 (D:f320 d=some (vR d,0)) {L:aK} {b:List cW}:∀(n i:Nat),(tys d).length-i=n->i<=(tys d).length->
  Qd d (LP d) (zF d) i L ((List.range i).map (WV d)) b=some (sk d,0):=by
 have N:=O.ok.cG;have G:=oc (d:=d);intro n;induction n with
 |zero=>
  intro i hi w;refine ach ?_
  have:i=(tys d).length:=af
  subst this;rw[cond_neg (by rw[aQ];omega),D];rfl
 |succ n I=>intro i hi w;refine ach ?_;have q:i<(tys d).length:=af;have l:i<(zF d).length:=af;obtain⟨z,B⟩:=aeq q;rw[cond_pos (by rw[bg];omega),bU l,bU l,o28 O.ok.cd q,aj,bU z,B,cds_at l,cC _ (by rw[bz,List.length_range];omega) ai af,bM af];have:=Wy (WV d) i;unfold WV at this⊢;rw[this];exact I (i+1) af af
end
def c332 {d:List aC} (z:Sz d) (l:d.length<=64) (q:Fz d):f332 d=some (if xN d=0 then(sk d,0) else(⟨[],[]⟩,xN d)):=by
 refine e332 ?_;rw[c323 z l q,aj,c15 z l,aj];by_cases h:xN d=0
 .obtain⟨O,B,D⟩:=KG z l q h;have w:=c320 z l q;rw[aB h] at w;rw[aB h,aB h,az (by simpa using B),az D,cond_neg ai];exact h332 O w _ 0 rfl af
 .rw[az h,cond_pos (by simpa using h),az h]
def Da:List cn->List dP
 |a::b::l=>⟨a,b⟩::Da l
 |_=>[]
def Uu {i:Nat} (h:i<4611686018427387904):IntKind.wrap .i64 ((i:Int)+2)=((i+2:Nat):Int):=by rw[oE af af];omega
def Yh {l:List cn} (L:l.length<=1000) {name:cn} {o6:aC} {sup a c:List cn} {b:List dP}:∀(n:Nat) (xs:List cn),xs.length<=n->∀(i:Nat) (w:List dP),l.drop i=xs->w.length<=i->i<=2000->
  Qf l i o6 name sup a b c w=some ⟨name,sup,w++Da xs⟩/\IV l i o6 name a b c w=some ⟨name,c,w++Da xs⟩:=by
 intro n;induction n with
 |zero=>
  intro xs D i w h z hi
  have:xs=[]:=kG.1 af
  subst this;have:=kJ h;constructor
  .refine OP ?_;rw[bM af,cond_neg (by rw[aQ];omega)];simp[Da]
  .refine IC ?_;rw[bM af,cond_neg (by rw[aQ];omega)];simp[Da]
 |succ n I=>intro xs D i w h z hi;match xs,h,D with
  |[],h,_=>
   have:=kJ h;constructor
   .refine OP ?_;rw[bM af,cond_neg (by rw[aQ];omega)];simp[Da]
   .refine IC ?_;rw[bM af,cond_neg (by rw[aQ];omega)];simp[Da]
  |[x],h,_=>
   have:=kJ (aH h);constructor
   .refine OP ?_;rw[bM af,cond_neg (by rw[aQ];omega)];simp[Da]
   .refine IC ?_;rw[bM af,cond_neg (by rw[aQ];omega)];simp[Da]
  |x::y::r,h,D=>
   have B:=aH h;have:=dN B;have G:=aH B;simp only[bD] at D;obtain⟨p,q⟩:=I r af (i+2) (w++[⟨x,y⟩]) G (by rw[cE];simp;omega) af;rw[ef] at p q;constructor
   .refine OP ?_;rw[bM af,cond_pos (by rw[bg];omega),aJ h,aJ B,cC _ af ai af,Uu af];exact p
   .refine IC ?_;rw[bM af,cond_pos (by rw[bg];omega),aJ h,aJ B,cC _ af ai af,Uu af];exact q
def FW (name super:cn) (l:List cn) (w:l.length<=1000):f351 name super l=some ⟨name,if super=[] then[] else[super],Da l⟩:=by
 refine e351 ?_;by_cases h:super=[]
 .subst h;have:=(Yh w (name:=name) (o6:=⟨[],[],[]⟩) (sup:=[]) (a:=[]) (c:=[]) (b:=[]) _ l (aZ _) 0 [] rfl ai af).2;have q:(!(([]:List UInt8)==([]:List UInt8)))=false:=rfl;rw[dQ] at this;rw[cond_neg q,aB rfl];exact this
 .have:=(Yh w (name:=name) (o6:=⟨[],[],[]⟩) (sup:=[super]) (a:=[]) (c:=[]) (b:=[]) _ l (aZ _) 0 [] rfl ai af).1;have q:(!(super==([]:List UInt8)))=true:=by simpa using h
  rw[dQ] at this;rw[cond_pos q,az h];exact this
def AU:List aC:=[
 ⟨[116,111,112],[],[]⟩,
 ⟨[108,105,115,116],[[116,111,112]],[]⟩,
 ⟨[99,111,110,115],[[108,105,115,116]],[⟨[70,73,82,83,84],[116,111,112]⟩,⟨[82,69,83,84],[108,105,115,116]⟩]⟩,
 ⟨[110,117,108,108],[[108,105,115,116]],[]⟩,
 ⟨[100,108,105,115,116],[[116,111,112]],[⟨[76,73,83,84],[108,105,115,116]⟩,⟨[76,65,83,84],[108,105,115,116]⟩]⟩,
 ⟨[105,110,100,101,120],[[116,111,112]],[]⟩,
 ⟨[104,97,110,100,108,101],[[105,110,100,101,120]],[]⟩,
 ⟨[101,118,101,110,116],[[105,110,100,101,120]],[]⟩,
 ⟨[101,110,116,105,116,121],[[105,110,100,101,120]],[]⟩,
 ⟨[114,101,108],[[116,111,112]],[⟨[76,65,66,69,76],[104,97,110,100,108,101]⟩]⟩,
 ⟨[113,101,113],[[116,111,112]],[⟨[72,73,71,72],[104,97,110,100,108,101]⟩,⟨[76,79,87],[104,97,110,100,108,101]⟩]⟩,
 ⟨[115,101,109],[[116,111,112]],[⟨[84,79,80],[104,97,110,100,108,101]⟩,⟨[73,78,68,69,88],[105,110,100,101,120]⟩,⟨[82,69,76,83],[100,108,105,115,116]⟩,⟨[67,79,78,83],[100,108,105,115,116]⟩]⟩,
 ⟨[115,105,103,110],[[116,111,112]],[⟨[83,69,77],[115,101,109]⟩,⟨[65,82,71,83],[108,105,115,116]⟩]⟩]
def c327:f327=some AU:=by refine e327 ?_;rw[FW _ _ _ (by decide),FW _ _ _ (by decide),FW _ _ _ (by decide),FW _ _ _ (by decide),FW _ _ _ (by decide),FW _ _ _ (by decide),FW _ _ _ (by decide),FW _ _ _ (by decide),FW _ _ _ (by decide),FW _ _ _ (by decide),FW _ _ _ (by decide),FW _ _ _ (by decide),FW _ _ _ (by decide)];simp only[aj];rfl
end Go.Proofs.YthphfjcnkinkpaaGreatDoor.cl
namespace Go.Proofs.YthphfjcnkinkpaaGreatDoor.cl
open Go Go.AM
structure Hd (h:aK) (cs:List Nat):Prop where
 eq:h.Types.map (·.Code)=cs.map e1
 lt:∀c∈cs,c<18446744073709551616
 len:cs.length<=1000
def Hd.length {h:aK} {cs:List Nat} (H:Hd h cs):h.Types.length=cs.length:=by have:=aU (λl=>l.length) H.eq;simpa using this
def Hd.code {h:aK} {cs:List Nat} (H:Hd h cs) {i:Nat} (hi:i<h.Types.length):h.Types[i].Code=e1 (cs.getD i 0):=by
 have q:i<cs.length:=by rw[<-H.length];exact hi
 have:=aU (λl=>l[i]?) H.eq;simp only[dK,aM hi,aM q,ff,bq] at this;rw[this,bA,aM q];rfl
def Hd.get {h:aK} {cs:List Nat} (H:Hd h cs) {i:Nat} (hi:i<cs.length):cs.getD i 0<18446744073709551616:=H.lt _ (lI hi)
def EI {d:List aC} {i:Nat} (hi:i<(tys d).length):∃h:i<(sk d).Types.length,(sk d).Types[i]=WV d i:=by refine⟨by simpa[sk] using hi,?_⟩;simp[sk]
def hd5 {d:List aC} (O:Ok5 d):Hd (sk d) (tys d):=by
 refine⟨?_,λc q=>O.ok.ltmem q,by have:=O.ok.cG;omega⟩;apply nK
 .simp[sk]
 .intro i w l;have hi:i<(tys d).length:=by simpa using l
  simp only[sk,kF,D6,WV];rw[bA,aM hi];rfl
def CY (cs:List Nat) (w:Nat):Int×Bool:=if Hg cs w<0 then(0,false) else(Hg cs w,true)
def fnI (xs:List Nat) (w i:Nat):Int:=match xs.findIdx? (· ==w) with
 |some j=>((i+j:Nat):Int)
 |none=> -1
def Sv (cs:List Nat) (w:Nat):fnI cs w 0=Hg cs w:=by unfold fnI Hg;cases cs.findIdx? (· ==w)<;>simp
def Su (c:Nat) (xs:List Nat) (w i:Nat):fnI (c::xs) w i=if c=w then(i:Int) else fnI xs w (i+1):=by
 unfold fnI;rw[uO];by_cases e:c=w
 .subst e;simp
 .have l:(c==w)=false:=by simpa using e
  rw[l,az e];cases xs.findIdx? (· ==w) with
  |none=>rfl
  |some j=>
   show((i+(j+1):Nat):Int)=((i+1+j:Nat):Int)
   omega
def Xy {h:aK} {cs:List Nat} (H:Hd h cs) {i c:Nat} {xs:List Nat} (l:cs.drop i=c::xs):∃hi:i<h.Types.length,h.Types[i].Code=e1 c/\c<18446744073709551616:=by
 have hi:=dN l;have q:=H.length;refine⟨af,?_,?_⟩
 .rw[H.code,bA,bV l];rfl
 .exact H.lt c (aR (bV l))
section
variable {h:aK} {cs:List Nat} (H:Hd h cs)
include H
theorem h353 {w:Nat} (G:w<18446744073709551616):∀(xs:List Nat) (i:Nat),cs.drop i=xs->Qg h.Types (e1 w) h.Types.length i=some (fnI xs w i):=by have L:=H.len;intro xs;induction xs with
 |nil=>intro i z;refine acn ?_;rw[H.length,aW z];rfl
 |cons c xs I=>
  intro i z;refine acn ?_;obtain⟨hi,D,q⟩:=Xy H z;have l:f371 h.Types[i] (e1 w)=some (decide (c=w)):=by refine e371 ?_;rw[D,o31 q G];rfl
  have B:=H.length;rw[cond_pos (by rw[bg];omega),bU hi,l,aj,bM af,I (i+1) (aH z),Su];by_cases e:c=w
  .rw[aB e,cond_pos (by simpa using e)]
  .rw[az e,cond_neg (by simpa using e)]
theorem o353 {w:Nat} (l:w<18446744073709551616):f353 h.Types (e1 w)=some (Hg cs w):=by refine e353 ?_;rw[<-Sv];exact h353 H l cs 0 rfl
theorem h354 {w:Nat} (D:w<18446744073709551616):∀(xs:List Nat) (i:Nat),cs.drop i=xs->Qh (e1 w) i h=some (if fnI xs w i<0 then(0,false) else(fnI xs w i,true)):=by have I:=H.len;intro xs;induction xs with
 |nil=>intro i q;refine aco ?_;rw[H.length,aW q];rfl
 |cons c xs G=>
  intro i q;refine aco ?_;obtain⟨hi,B,l⟩:=Xy H q;have z:=H.length;rw[cond_pos (by rw[bg];omega),bU hi,B,o57 l D,aj,bM af,G (i+1) (aH q),Su];by_cases e:c=w
  .rw[aB e,cond_pos (by simpa using e),az af]
  .rw[az e,cond_neg (by simpa using e)]
theorem o354 {w:Nat} (l:w<18446744073709551616):f354 h (e1 w)=some (CY cs w):=by refine e354 ?_;unfold CY;rw[<-Sv];exact h354 H l cs 0 rfl
variable (K:aav cs) {i j:Nat} (hi:i<cs.length) (hj:j<cs.length)
include hi
theorem o339 {j:Nat} (hj:j<cs.length):f339 h i j=some (sub (cs.getD j 0) (cs.getD i 0)):=by refine e339 ?_;have l:=H.length;rw[bU af,bU af,H.code,H.code,o63 (H.get hj) (H.get hi)];rfl
theorem o340 {j:Nat} (hj:j<cs.length):f340 h i j=some (sub (cs.getD j 0) (cs.getD i 0)):=by refine e340 ?_;have l:=H.length;rw[bU af,bU af,H.code,H.code,o65 (H.get hj) (H.get hi)];rfl
include K hj
theorem o335:f335 h i j=some (CY cs (cs.getD i 0&&&cs.getD j 0)):=by
 refine e335 ?_;have B:=H.length;have z:cs.getD i 0&&&cs.getD j 0<18446744073709551616:=nE rW (H.get hi);rw[bU af,bU af,H.code,H.code,ZP (H.get hi) (H.get hj),aj];by_cases q:cs.getD i 0&&&cs.getD j 0=0
 .rw[q,cond_pos (by rfl)];unfold CY;rw[Xp (λw=>K.nz 0 w rfl)];rfl
 .rw[cond_neg (by rw[lP];intro e;exact q (Es af)),o353 H z,aj];unfold CY;by_cases l:Hg cs (cs.getD i 0&&&cs.getD j 0)<0
  .rw[cond_pos (by simpa using l),aB l]
  .rw[cond_neg (by simpa using l),az l]
theorem o336:f336 h i j=some (CY cs (cs.getD i 0&&&cs.getD j 0)):=by refine e336 ?_;have q:=H.length;have l:cs.getD i 0&&&cs.getD j 0<18446744073709551616:=nE rW (H.get hi);rw[bU af,bU af,H.code,H.code,o61 (H.get hi) (H.get hj),aj,o354 H l];rfl
end
def h355 {l:List ga} (B:l.length<=1000) (f:Int):∀(xs:List ga) (i:Nat),l.drop i=xs->IX f l l.length i=some (match xs.find? λx=>x.bw==f with|some x=>(x.Value,true)|none=>(0,false)):=by intro xs;induction xs with
 |nil=>intro i q;refine XO ?_;rw[aW q];rfl
 |cons x xs w=>intro i q;refine XO ?_;rw[aP q,ak,aJ q,aN q af,w (i+1) (aH q),kH];cases z:x.bw==f<;>simp
def h356 {l:List ga} (B:l.length<=1000) (f:Int):∀(xs:List ga) (i:Nat),l.drop i=xs->Qi f l i=some (match xs.find? λx=>x.bw==f with|some x=>(x.Value,true)|none=>(0,false)):=by intro xs;induction xs with
 |nil=>intro i q;refine acp ?_;rw[aW q];rfl
 |cons x xs w=>intro i q;refine acp ?_;rw[aP q,ak,aJ q,aJ q,aN q af,w (i+1) (aH q),kH];cases z:x.bw==f<;>rfl
def T2 {d:List aC} {w j:Nat} {F:cn} (h:(qA d)[j]? =some F):(match(x7 d w (qA d) 0).find? (λx=>x.bw==(j:Int)) with|some x=>(x.Value,true)|none=>(0,false))=(match inh d w F with|some c=>(Hg (tys d) c,true)|none=>(0,false)):=by have:=Z5 (d:=d) (w:=w) (qA d) 0 j F h;rw[eO] at this;rw[this];cases inh d w F<;>rfl
section
variable {d:List aC} (O:Ok5 d) {T:Nat} (hT:T<(tys d).length) {j:Nat} {F:cn} (hj:(qA d)[j]? =some F)
include O hT hj
theorem o355:f355 (sk d) T j=some (match inh d ((tys d).getD T 0) F with|some c=>(Hg (tys d) c,true)|none=>(0,false)):=by obtain⟨l,q⟩:=EI hT;have z:=HC (d:=d) (w:=(tys d).getD T 0) (qA d) 0;have w:=O.f64;refine e355 ?_;rw[bU l,q,<-T2 hj];exact h355 (by show(x7 _ _ _ _).length<=1000;omega) j _ 0 rfl
theorem o356:f356 (sk d) T j=some (match inh d ((tys d).getD T 0) F with|some c=>(Hg (tys d) c,true)|none=>(0,false)):=by obtain⟨l,q⟩:=EI hT;have z:=HC (d:=d) (w:=(tys d).getD T 0) (qA d) 0;have w:=O.f64;refine e356 ?_;rw[bU l,q,<-T2 hj];exact h356 (by show(x7 _ _ _ _).length<=1000;omega) j _ 0 rfl
end
