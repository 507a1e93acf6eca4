/- Layer 5. -/
import Derived.Test.YthppjmoncapdfaaGreatDoorClSa
set_option linter.all false
namespace Go.Proofs.YthppjmoncapdfaaGreatDoor.cl
open Go Go.AM
def rR (d:List aB) (F:cL):List cL:=(d.filter λt=>(val t F).isSome).map (·.Name)
def EY {d:List aB} {F x:cL}:x∈rR d F↔∃t∈d,(val t F).isSome=true/\t.Name=x:=by
 unfold rR;rw[aD];constructor
 .rintro⟨t,l,e⟩;rw[cH] at l;exact⟨t,l.1,l.2,e⟩
 .rintro⟨t,l,h,e⟩;exact⟨t,cH.2 ⟨l,h⟩,e⟩
def Fq {d:List aB} {F x:cL} (h:x∈rR d F):x∈jI d:=by obtain⟨t,l,_,rfl⟩:=EY.1 h;exact IY l
def one:List cL->Option cL
 |[x]=>some x
 |_=>none
def ac0 {l:List cL} {x:cL} (h:one l=some x):l=[x]:=by cases l with
 |nil=>cases h
 |cons y l=>cases l with
  |nil=>unfold one at h;injection h with h;rw[h]
  |cons z l=>cases h
def eq_one {l:List cL} {u:cL} (B:l.Nodup) (q:∀x∈l,x=u) (w:u∈l):l=[u]:=by cases l with
 |nil=>cases w
 |cons y l=>have D:=q y ah;subst D;cases l with
  |nil=>rfl
  |cons z l=>have G:=q z ah;subst G;simp at B
noncomputable def z1 (d:List aB) (F:cL):Option cL:=one (u7 d (mA (rR d F)))
def QT {d:List aB} (A:Acc d) {F u:cL}:z1 d F=some u↔u∈rR d F/\∀v∈rR d F,Le d u v:=by
 have q:∀x,x∈mA ((mA (rR d F)).filter λs=>decide (s∈jI d))↔x∈rR d F:=by intro x;rw[gx,cH,gx];exact⟨λh=>h.1,λh=>⟨h,by simpa using Fq h⟩⟩
 have I:=lJ ((mA (rR d F)).filter λs=>decide (s∈jI d));unfold z1 u7;generalize mA ((mA (rR d F)).filter λs=>decide (s∈jI d))=l at q I;constructor
 .intro h;have e:=ac0 h;refine⟨?_,λv L=> ?_⟩
  .have:u∈l.filter (ry d l):=by rw[e];simp
   exact(q u).1 (cH.1 this).1
  .obtain⟨m,z,w⟩:=EX A v ((q v).2 L);rw[e] at z;simp only[bX] at z;rw[<-z];exact w
 .rintro⟨D,G⟩;have e:l.filter (ry d l)=[u]:=by
   refine eq_one (I.nodup.filter _) (λx B=> ?_) ?_
   .rw[cH] at B;exact(A5.1 B.2 u ((q u).2 D) (G x ((q x).1 B.1))).symm
   .rw[cH];refine⟨(q u).2 D,A5.2 λy N w=> ?_⟩;exact le_antisymm A w (G y ((q y).1 N))
  rw[e];rfl
def QU {d:List aB} (A:Acc d) {F u:cL} (h:z1 d F=some u):u∈jI d:=Fq ((QT A).1 h).1
def h357 {d:List aB} (O:Ok d) (D:Fz d) (F:cL):∀(xs:List aB) (i:Nat) (o:List cL),d.drop i=xs->o.length<=i->i<=d.length->
  JV d F o i=some (match one (u7 d ((rR xs F).foldl (λo s=>qp s o) o)) with|some x=>(x,true)|none=>([],false)):=by
 have w:=O.len;intro xs;induction xs with
 |nil=>intro i o h G q;refine abj ?_;rw[bq h,aA,c104 O.z O.acc o af,ak];show _=some (match one (u7 d o) with|some x=>(x,true)|none=>([],false));generalize u7 d o=l;cases l with
  |nil=>rfl
  |cons x l=>cases l with
   |nil=>rw[cond_neg (by rfl)];exact bS (l:=[x]) (i:=0) ah _
   |cons y l=>rw[cond_pos (by rw[j0];simp only[bg];omega)];rfl
 |cons t xs B=>intro i o h G q;refine abj ?_;have hi:=c9 h;have I:=D t (aI (bA h));rw[bf h,ai,aQ h,c373 _ _ I,ak,aX h af];cases z:val t F with
  |none=>
   rw[cond_neg (by rfl),B (i+1) o (aH h) af af]
   have:rR (t::xs) F=rR xs F:=by simp[rR,fL,z]
   rw[this]
  |some v=>
   have L:=mK t.Name o;rw[cond_pos (by rfl),aQ h,c98 _ _ af,ak,B (i+1) _ (aH h) af af]
   have:rR (t::xs) F=t.Name::rR xs F:=by simp[rR,fL,z]
   rw[this,fD]
def c357 {d:List aB} (O:Ok d) (l:Fz d) (F:cL):f357 d F=some (match z1 d F with|some x=>(x,true)|none=>([],false)):=
 e357 (h357 O l F d 0 [] rfl ah af)
def h358 {l:List dY} (w:l.length<=1048576) (x:cL):∀(xs:List dY) (i:Nat),l.drop i=xs->Ov l x i=some (gK (λc=>c.Name==x) xs i):=by intro xs;induction xs with
 |nil=>intro i h;refine abk ?_;rw[bq h];rfl
 |cons y xs q=>intro i h;refine abk ?_;rw[bf h,ai,aQ h,aX h af,q (i+1) (aH h),gK];cases y.Name==x<;>rfl
def o358 {d:List aB} (O:Ok d) {x:cL} (q:x∈jI d):f358 (zU d) x=some (nu d x:Int):=by have l:=O.cF;rw[<-nk] at l;refine e358 ((h358 (l:=zU d) af x (zU d) 0 rfl).trans ?_);rw[(O.yG q).1]
def Ok.code_nu {d:List aB} (O:Ok d) {x:cL} (l:x∈jI d) (q:nu d x<(zU d).length):(zU d)[nu d x].Code=e1 (cwd d x):=by rw[O.cd.code,(O.yG l).2.2.1]
def Ok.nu_lt {d:List aB} (O:Ok d) {x:cL} (l:x∈jI d):nu d x<(zU d).length:=by rw[nk];exact(O.yG l).2.1
def comb (o:Option Nat) (c:Nat):Nat:=match o with
 |some a=>a&&&c
 |none=>c
noncomputable def zo (d:List aB) (w:Nat) (F:cL) (o:Option Nat) (t:aB):Option Nat:=match val t F with
 |some v=>if sub w (cwd d t.Name)=true then some (comb o (cwd d v)) else o
 |none=>o
noncomputable def inh (d:List aB) (w:Nat) (F:cL):Option Nat:=d.foldl (zo d w F) none
def Vd (d:List aB):Prop:=∀t∈d,∀x∈t.cE,x.Value∈jI d
def Vd.val {d:List aB} (h:Vd d) {t:aB} (l:t∈d) {F v:cL} (q:val t F=some v):v∈jI d:=by obtain⟨x,w,_,rfl⟩:=ads q;exact h t l x w
def stp_in {d:List aB} (O:Ok d) (N:Vd d) {w:Nat} {F:cL}:∀(xs:List aB) (o:Option Nat),(∀t∈xs,t∈d)->(∀c,o=some c->c=0\/c∈tys d)->∀c,xs.foldl (zo d w F) o=some c->c=0\/c∈tys d:=by intro xs;induction xs with
 |nil=>intro o _ q c z;exact q c z
 |cons t xs Q=>intro o I q c z;rw[fD] at z;refine Q (zo d w F o t) (λu P=>I u (by simp[P])) (λc' l=> ?_) c z;unfold zo at l;cases D:val t F with
  |none=>rw[D] at l;exact q c' l
  |some v=>
   rw[D] at l;have G:=O.cwmem (N.val (I t ah) D);simp only at l;split at l
   .injection l with l;cases o with
    |none=>simp only[comb] at l;rw[<-l];exact .inr G
    |some a=>
     simp only[comb] at l;rcases q a rfl with B|B
     .left;rw[<-l,B];simp
     .by_cases L:a&&&cwd d v=0
      .left;rw[<-l,L]
      .right;rw[<-l];exact O.TN.cl a B _ G L
   .exact q c' l
def inh_in {d:List aB} (O:Ok d) (l:Vd d) {w:Nat} {F:cL} {c:Nat} (h:inh d w F=some c):c=0\/c∈tys d:=
 stp_in O l d none (λt h=>h) (λc h=>by cases h) c h
def Ok.ltmem {d:List aB} (O:Ok d) {c:Nat} (h:c∈tys d):c<18446744073709551616:=O.cd.lt c h
def h370 {d:List aB} (O:Ok d) (R:Fz d) (Q:Vd d) {T:Nat} (hT:T<(tys d).length) (F:cL):∀(xs:List aB) (i:Nat) (o:Option Nat),d.drop i=xs->(∀c,o=some c->c<18446744073709551616)->
  Fg d (zU d) T F o.isSome (e1 (o.getD ((tys d).getD 0 0))) i=some (e1 ((xs.foldl (zo d ((tys d).getD T 0) F) o).getD ((tys d).getD 0 0)),(xs.foldl (zo d ((tys d).getD T 0) F) o).isSome):=by
 have L:=O.len;intro xs;induction xs with
 |nil=>intro i o h B;refine abq ?_;rw[bq h];rfl
 |cons t xs G=>intro i o h B;refine abq ?_;have w:t∈d:=aI (bA h);have U:=R t w;rw[bf h,ai,aQ h,c373 _ _ U,ak,aX h af,fD];cases D:val t F with
  |none=>
   have e:zo d ((tys d).getD T 0) F o t=o:=by unfold zo;rw[D]
   rw[cond_pos (by rfl),G (i+1) o (aH h) B,e]
  |some v=>have l:=Q.val w D;have z:=IY w;have N:=O.yG z;have S:=O.yG l;rw[cond_neg (by rfl),aQ h,o358 O z,ak,Y0 O.cd N.2.1 hT,ak,N.2.2.1];unfold zo;rw[D];simp only;cases P:sub ((tys d).getD T 0) (cwd d t.Name) with
   |false=>rw[mW,ai,au ah];exact G (i+1) o (aH h) B
   |true=>
    rw[gC,aA,az rfl,o358 O l,ak,bS (O.nu_lt l),O.code_nu l (O.nu_lt l)];have I:(o.getD ((tys d).getD 0 0))<18446744073709551616:=by cases o with
     |none=>exact O.lt O.TN.pos
     |some a=>exact B a rfl
    rw[o61 I (O.cwlt v),ak];have e:o.getD ((tys d).getD 0 0)&&&cwd d v=comb o (cwd d v):=by cases o with
     |some a=>rfl
     |none=>show(tys d).getD 0 0&&&cwd d v=cwd d v;rw[Nat.and_comm];exact W4.1 (O.TN.top _ (O.cwmem l))
    rw[e];refine G (i+1) (some (comb o (cwd d v))) (aH h) (λc q=> ?_);injection q with q;rw[<-q,<-e];exact jk j6 I
def c370 {d:List aB} (O:Ok d) (q:Fz d) (l:Vd d) {T:Nat} (hT:T<(tys d).length) (F:cL):f370 d (zU d) T F=some (e1 ((inh d ((tys d).getD T 0) F).getD ((tys d).getD 0 0)),(inh d ((tys d).getD T 0) F).isSome):=by
 have w:0<(zU d).length:=by rw[nk];exact O.TN.pos
 refine e370 ?_;rw[show(0:Int)=((0:Nat):Int) from rfl,bS w,O.cd.code];exact h370 O q l hT F d 0 none rfl (λc h=>by cases h)
noncomputable def A8 (d:List aB) (l:List cL):Bool:=l.any λF=>(z1 d F).isNone
noncomputable def BW (d:List aB) (l:List Nat):Bool:=l.any λw=>(pO d).any λF=>inh d w F==some 0
noncomputable def ym (d:List aB):Int:=
 if H9 d≠0 then H9 d else if(zm (nY d)).length>256 then 7 else if(pO d).length>64 then 7 else if qG (jI d) d≠0 then qG (jI d) d
 else if A8 d (pO d)=true then 10 else if BW d (tys d)=true then 11 else 0
def h318c {d:List aB} (O:Ok d) (w:Fz d) (q:Vd d) {T:Nat} (hT:T<(tys d).length) {r:Int} (z:(pO d).length<=1000) (B:Ef d (zU d) (pO d) (T+1:Nat)=some r):∀(xs:List cL) (i:Nat),(pO d).drop i=xs->
  Eg d (zU d) (pO d) T i=some (if(xs.any λF=>inh d ((tys d).getD T 0) F==some 0)=true then 11 else r):=by
 have G:=O.cF;intro xs;induction xs with
 |nil=>intro i h;refine Wb ?_;rw[bq h,aA,bp af,B];rfl
 |cons F xs D=>intro i h;refine Wb ?_;rw[bf h,ai,aQ h,c370 O w q hT,ak,aX h af,D (i+1) (aH h),qy];cases hi:inh d ((tys d).getD T 0) F with
  |none=>rfl
  |some c=>
   simp only[CZ,qN,ai];by_cases l:c=0
   .subst l;rfl
   .have:(some c==some 0)=false:=by simpa using l
    rw[this,iL,cond_neg (by
     rw[iN];intro e
     exact l (Dt af))]
def h318b {d:List aB} (O:Ok d) (z:Fz d) (q:Vd d) (l:(pO d).length<=1000):∀(xs:List Nat) (T:Nat),(tys d).drop T=xs->
  Ef d (zU d) (pO d) T=some (if BW d xs=true then 11 else 0):=by
 have G:=O.cF;intro xs;induction xs with
 |nil=>intro T h;refine Wa ?_;rw[nk,bq h];rfl
 |cons w xs D=>
  intro T h;refine Wa ?_;have hT:=c9 h;have B:(tys d).getD T 0=w:=by rw[aZ,bA h];rfl
  rw[nk,bf h,ai];refine(h318c O z q hT l (D (T+1) (aH h)) (pO d) 0 rfl).trans ?_;rw[B];unfold BW;rw[qy];cases(pO d).any λF=>inh d w F==some 0 with
  |false=>rfl
  |true=>rfl
def h318a {d:List aB} (O:Ok d) (q:Fz d) (w:Vd d) (l:(pO d).length<=1000):∀(xs:List cL) (i:Nat),(pO d).drop i=xs->
  He d (zU d) (pO d) i=some (if A8 d xs=true then 10 else if BW d (tys d)=true then 11 else 0):=by
 intro xs;induction xs with
 |nil=>intro i h;refine V8 ?_;rw[bq h,aA];exact h318b O q w l (tys d) 0 rfl
 |cons F xs z=>intro i h;refine V8 ?_;rw[bf h,ai,aQ h,c357 O q,ak,aX h af,z (i+1) (aH h)];unfold A8;rw[qy];cases z1 d F<;>rfl
def ok_of {d:List aB} (z:Sz d) (l:d.length<=64) (q:H9 d=0) (w:¬(zm (nY d)).length>256):Ok d:=⟨z,HC q,l,af⟩
def Sr {d:List aB} (h:qG (jI d) d=0):Vd d:=λt l x q=>(((TA _ d).1 h t l).1 x q).2
def c318 {d:List aB} (z:Sz d) (w:d.length<=64) (G:Fz d):f318 d=some (ym d):=by
 refine e318 ?_;unfold ym;rw[c15 z w,ak];by_cases l:H9 d=0
 .have B:¬(H9 d≠0):=λh=>h l
  rw[au B,au B];by_cases q:(zm (nY d)).length>256
  .rw[az q,az q];rfl
  .rw[au q,au q,cond_neg ah,c345 af G,ak];have O:=ok_of z w l q;by_cases I:(pO d).length>64
   .rw[az I,cond_pos (by rw[bH];omega)]
   .rw[au I,cond_neg (by rw[bP];omega),c346 af G,ak];by_cases D:qG (jI d) d=0
    .rw[D,cond_neg ah,au ah];exact h318a O G (Sr D) af (pO d) 0 rfl
    .rw[az D,cond_pos (by simpa using D)]
 .rw[az l,az l,cond_pos (by simpa using l)]
structure Zg (d:List aB):Prop where
 ok:Ok d
 fz:Fz d
 f64:(pO d).length<=64
 fd:qG (jI d) d=0
 intro:∀F∈pO d,∃u,z1 d F=some u
 vals:∀w∈tys d,∀F∈pO d,inh d w F≠some 0
def Je {d:List aB} (z:Sz d) (G:d.length<=64) (P:Fz d) (h:ym d=0):Zg d/\H9 d=0/\¬(zm (nY d)).length>256:=by
 unfold ym at h;by_cases l:H9 d=0
 .rw[au (show¬(H9 d≠0) from λh=>h l)] at h;by_cases q:(zm (nY d)).length>256
  .rw[az q] at h;cases h
  .rw[au q] at h;by_cases L:(pO d).length>64
   .rw[az L] at h;cases h
   .rw[au L] at h;by_cases B:qG (jI d) d=0
    .rw[au (show¬(qG (jI d) d≠0) from λh=>h B)] at h;by_cases D:A8 d (pO d)=true
     .rw[az D] at h;cases h
     .rw[au D] at h;by_cases N:BW d (tys d)=true
      .rw[az N] at h;cases h
      .refine⟨⟨ok_of z G l q,P,by omega,B,λF I=> ?_,λw Q F I e=> ?_⟩,l,q⟩
       .cases hi:z1 d F with
        |some u=>exact⟨u,rfl⟩
        |none=>exact absurd (mQ.2 ⟨F,I,by rw[hi];rfl⟩) D
       .exact N (mQ.2 ⟨w,Q,mQ.2 ⟨F,I,by rw[e];simp⟩⟩)
    .rw[az B] at h;exact absurd h B
 .rw[az l] at h;exact absurd h l
noncomputable def KH (d:List aB) (F:cL):c8:=⟨F,(nu d ((z1 d F).getD []):Int)⟩
noncomputable def yz (d:List aB):List c8:=(pO d).map (KH d)
def h320 {d:List aB} (O:Zg d):∀(xs:List cL) (i:Nat) (o:List c8),(pO d).drop i=xs->o.length<=i->Oi d (zU d) (pO d) i o=some (o++xs.map (KH d),0):=by have q:=O.f64;intro xs;induction xs with
 |nil=>intro i o h w;refine aa6 ?_;rw[bq h,aA,dR,e7]
 |cons F xs z=>
  intro i o h w;refine aa6 ?_;have hi:=c9 h;obtain⟨u,l⟩:=O.intro F (aI (bA h))
  rw[bf h,ai,aQ h,c357 O.ok O.fz,ak,l,aQ h,o358 O.ok (QU O.ok.acc l),ak,bU _ af ah af,aX h af,
   z (i+1) _ (aH h) (by rw[cS];simp;omega),eT]
  have:KH d F=⟨F,(nu d u:Int)⟩:=by unfold KH;rw[l];rfl
  rw[aS,this];rfl
def c320 {d:List aB} (z:Sz d) (l:d.length<=64) (q:Fz d):f320 d=some (if ym d=0 then(yz d,0) else([],ym d)):=by
 refine e320 ?_;rw[c318 z l q,ak];by_cases h:ym d=0
 .obtain⟨O,w,B⟩:=Je z l q h;rw[az h,cond_neg (by simpa using h),c15 z l,au (show¬(H9 d≠0) from λh=>h w),au B,ak,c345 af q,ak];exact h320 O (pO d) 0 [] rfl ah
 .rw[au h,cond_pos (by simpa using h)]
noncomputable def yM (d:List aB) (w:Nat):List cL->Nat->List dc
 |[],_=>[]
 |F::l,k=>match inh d w F with
  |some c=>⟨(k:Int),GA (tys d) c⟩::yM d w l (k+1)
  |none=>yM d w l (k+1)
noncomputable def Ks (d:List aB):List (List dc):=(tys d).map λw=>yM d w (pO d) 0
def Gg {d:List aB} {w:Nat}:∀(l:List cL) (k:Nat),(yM d w l k).length<=l.length:=by intro l;induction l with
 |nil=>intro k;simp[yM]
 |cons F l q=>intro k;have:=q (k+1);unfold yM;cases inh d w F<;>simp<;>omega
def h323b {d:List aB} (O:Zg d) {T:Nat} (hT:T<(tys d).length) {o:List (List dc)} (G:o.length<=T) {r:List (List dc)×Int}:∀(xs:List cL) (i:Nat) (row:List dc),(pO d).drop i=xs->row.length<=i->
  JQ d (zU d) (pO d) (T+1:Nat) (o++[row++yM d ((tys d).getD T 0) xs i])=some r->Eh d (zU d) (pO d) T i o row=some r:=by
 have B:=O.f64;have D:=O.ok.cF;intro xs;induction xs with
 |nil=>intro i row h w l;refine Wc ?_;rw[bq h,aA,bU _ af ah af,bp af];rwa[yM,e7] at l
 |cons F xs z=>intro i row h w l;refine Wc ?_;have hi:=c9 h;rw[bf h,ai,aQ h,c370 O.ok O.fz (Sr O.fd) hT,ak,aX h af];unfold yM at l;cases q:inh d ((tys d).getD T 0) F with
  |none=>rw[q] at l;simp only[Option.isSome_none,aA];exact z (i+1) row (aH h) af l
  |some c=>rw[q] at l;simp only[CZ,qN,ai];rw[LG O.ok.cd,ak,bU _ af ah af];refine z (i+1) _ (aH h) (by rw[cS];simp;omega) ?_;rw[eT];exact l
def h323 {d:List aB} (O:Zg d):∀(xs:List Nat) (T:Nat) (o:List (List dc)),(tys d).drop T=xs->o.length<=T->
  JQ d (zU d) (pO d) T o=some (o++xs.map (λw=>yM d w (pO d) 0),0):=by
 intro xs;induction xs with
 |nil=>intro T o h l;refine aa7 ?_;rw[nk,bq h,aA,dR,e7]
 |cons w xs z=>
  intro T o h l;refine aa7 ?_;have q:(tys d).getD T 0=w:=by rw[aZ,bA h];rfl
  rw[nk,bf h,ai];refine h323b O (c9 h) l (pO d) 0 [] rfl ah ?_;rw[z (T+1) _ (aH h) (by rw[cS];simp;omega),q,eT];rfl
def c323 {d:List aB} (z:Sz d) (l:d.length<=64) (q:Fz d):f323 d=some (if ym d=0 then(Ks d,0) else([],ym d)):=by
 refine e323 ?_;rw[c318 z l q,ak];by_cases h:ym d=0
 .obtain⟨O,w,B⟩:=Je z l q h;rw[az h,cond_neg (by simpa using h),c15 z l,au (show¬(H9 d≠0) from λh=>h w),au B,ak,c345 af q,ak];exact h323 O (tys d) 0 [] rfl ah
 .rw[au h,cond_pos (by simpa using h)]
end Go.Proofs.YthppjmoncapdfaaGreatDoor.cl
namespace Go.AM
end Go.AM
namespace Go.Proofs.YthppjmoncapdfaaGreatDoor.cl
open Go Go.AM
def Zq {l:Type} (p:l->Bool):∀(xs:List l) (i:Nat),decide (gK p xs i>=0)=xs.any p:=by intro xs;induction xs with
 |nil=>intro i;rfl
 |cons x xs q=>intro i;rw[gK];grind
def h384 {s:List bT} (w:s.length<=1048576) (x:bT):∀(xs:List bT) (i:Nat),s.drop i=xs->OC s s.length i x=some (gK (λy=>y.aT==x.aT) xs i):=by intro xs;induction xs with
 |nil=>intro i h;refine abw ?_;rw[bq h];rfl
 |cons y xs q=>intro i h;refine abw ?_;have l:f388 y x=some _:=e388 rfl;rw[bf h,aQ h,aX h af,q _ (aH h),gK];grind
def h384a {s:List bT} (w:s.length<=1048576) (F:cL):∀(xs:List bT) (i:Nat),s.drop i=xs->Hj s F s.length i=some (gK (λy=>y.aT==F) xs i):=by intro xs;induction xs with
 |nil=>intro i h;refine Wi ?_;rw[bq h];rfl
 |cons y xs q=>intro i h;refine Wi ?_;have l:f389 y F=some _:=e389 rfl;rw[bf h,aQ h,aX h af,q _ (aH h),gK];grind
end Go.Proofs.YthppjmoncapdfaaGreatDoor.cl
namespace Go.Proofs.YthppjmoncapdfaaGreatDoor.cl
open Go Go.AM
def Iu {d:List aB}:(yz d).length=(pO d).length:=by simp[yz]
def YQ {d:List aB}:(Ks d).length=(tys d).length:=by simp[Ks]
end Go.Proofs.YthppjmoncapdfaaGreatDoor.cl
namespace Go.Proofs.YthppjmoncapdfaaGreatDoor.cl
open Go Go.AM
def Lj {d:List aB} {w:Nat} {F:cL}:∀(xs:List aB) (o:Option Nat),
  ((xs.foldl (zo d w F) o).isSome=true↔o.isSome=true\/∃t∈xs,(val t F).isSome=true/\sub w (cwd d t.Name)=true)/\
  ∀c,xs.foldl (zo d w F) o=some c->∀i,c.testBit i=true↔(∀a,o=some a->a.testBit i=true)/\∀t∈xs,∀v,val t F=some v->sub w (cwd d t.Name)=true->(cwd d v).testBit i=true:=by
 intro xs;induction xs with
 |nil=>intro o;refine⟨ah,λc G i=> ?_⟩;rw[List.foldl_nil] at G;subst G;simp
 |cons t xs S=>intro o;obtain⟨L,N⟩:=S (zo d w F o t);rw[fD];cases I:val t F with
  |none=>
   have e:zo d w F o t=o:=by unfold zo;rw[I]
   rw[e] at L N⊢;constructor
   .rw[L];constructor
    .rintro (h|⟨u,q,h⟩)
     .exact .inl h
     .exact .inr ⟨u,by simp[q],h⟩
    .rintro (h|⟨u,q,h⟩)
     .exact .inl h
     .rcases aG.1 q with rfl|q
      .rw[I] at h;simp at h
      .exact .inr ⟨u,q,h⟩
   .intro c G i;rw[N c G i];constructor
    .rintro⟨a,b⟩;refine⟨a,λu q v l B=> ?_⟩;rcases aG.1 q with rfl|q
     .rw[I] at l;cases l
     .exact b u q v l B
    .rintro⟨a,b⟩;exact⟨a,λu q v l B=>b u (by simp[q]) v l B⟩
  |some v=>cases B:sub w (cwd d t.Name) with
   |false=>
    have e:zo d w F o t=o:=by unfold zo;rw[I,B];simp
    rw[e] at L N⊢;constructor
    .rw[L];constructor
     .rintro (h|⟨u,q,h⟩)
      .exact .inl h
      .exact .inr ⟨u,by simp[q],h⟩
     .rintro (h|⟨u,q,h⟩)
      .exact .inl h
      .rcases aG.1 q with rfl|q
       .rw[B] at h;simp at h
       .exact .inr ⟨u,q,h⟩
    .intro c G i;rw[N c G i];constructor
     .rintro⟨a,b⟩;refine⟨a,λu q v l z=> ?_⟩;rcases aG.1 q with rfl|q
      .rw[B] at z;cases z
      .exact b u q v l z
     .rintro⟨a,b⟩;exact⟨a,λu q v l z=>b u (by simp[q]) v l z⟩
   |true=>
    have e:zo d w F o t=some (comb o (cwd d v)):=by unfold zo;rw[I,B];cases o<;>rfl
    rw[e] at L N⊢;have D:∀i,(comb o (cwd d v)).testBit i=true↔(∀a,o=some a->a.testBit i=true)/\(cwd d v).testBit i=true:=by intro i;cases o with
     |none=>simp[comb]
     |some a=>simp[comb,iO]
    constructor
    .rw[L];constructor
     .intro _;exact .inr ⟨t,by simp,by rw[I];rfl,B⟩
     .intro _;exact .inl rfl
    .intro c G i;rw[N c G i];constructor
     .rintro⟨a,b⟩;have R:=(D i).1 (a _ rfl);refine⟨R.1,λu q Q l z=> ?_⟩;rcases aG.1 q with rfl|q
      .rw[I] at l;injection l with l;rw[<-l];exact R.2
      .exact b u q Q l z
     .rintro⟨a,b⟩;refine⟨λx P=> ?_,λu q Q l z=>b u (by simp[q]) Q l z⟩;injection P with P;rw[<-P];exact(D i).2 ⟨a,b t ah v I B⟩
def QN {d:List aB} {w:Nat} {F:cL}:(inh d w F).isSome=true↔∃t∈d,(val t F).isSome=true/\sub w (cwd d t.Name)=true:=by have:=(Lj (d:=d) (w:=w) (F:=F) d none).1;unfold inh;rw[this];simp
def V0 {d:List aB} {w:Nat} {F:cL} {c:Nat} (h:inh d w F=some c) (i:Nat):c.testBit i=true↔∀t∈d,∀v,val t F=some v->sub w (cwd d t.Name)=true->(cwd d v).testBit i=true:=by rw[(Lj (d:=d) (w:=w) (F:=F) d none).2 c h i];exact⟨λh=>h.2,λh=>⟨λa l=>(by cases l),h⟩⟩
def aaH {d:List aB} {w v:Nat} {F:cL} {a b:Nat} (z:sub v w=true) (l:inh d w F=some a) (q:inh d v F=some b):sub b a=true:=by rw[jM];intro i hi;rw[V0 l];intro t B x G D;exact(V0 q i).1 hi t B x G (xA z D)
def inh_up {d:List aB} {w v:Nat} {F:cL} (z:sub v w=true) (h:(inh d w F).isSome=true):(inh d v F).isSome=true:=by rw[QN] at h⊢;obtain⟨t,B,l,q⟩:=h;exact⟨t,B,l,xA z q⟩
def Yd {d:List aB} (A:Acc d) {w:Nat} {F u:cL} (h:z1 d F=some u):(inh d w F).isSome=sub w (cwd d u):=by
 obtain⟨D,G⟩:=(QT A).1 h;rw[jo,QN];constructor
 .rintro⟨t,q,z,l⟩;have B:t.Name∈rR d F:=EY.2 ⟨t,q,z,rfl⟩;exact xA l ((Ms (Fq B)).2 (G _ B))
 .intro l;obtain⟨t,q,z,rfl⟩:=EY.1 D;exact⟨t,q,z,l⟩
def Zg.num {d:List aB} (O:Zg d) {w:Nat} (I:w∈tys d) {F:cL} (G:F∈pO d) {c:Nat} (h:inh d w F=some c):∃q:Nat,GA (tys d) c=(q:Int)/\q<(tys d).length/\(tys d).getD q 0=c:=by
 rcases inh_in O.ok (Sr O.fd) h with l|l
 .rw[l] at h;exact absurd h (O.vals w I F G)
 .obtain⟨q,z,B,D⟩:=MH l;exact⟨q,D,z,B⟩
def rowF_ge {d:List aB} {w:Nat}:∀(l:List cL) (k:Nat),∀x∈yM d w l k,(k:Int)<=x.aT:=by intro l;induction l with
 |nil=>intro k x q;cases q
 |cons F l z=>intro k x q;unfold yM at q;cases h:inh d w F with
  |none=>rw[h] at q;have:=z (k+1) x q;omega
  |some c=>
   rw[h] at q;rcases aG.1 q with rfl|q
   .simp
   .have:=z (k+1) x q;omega
def YF {d:List aB} {w:Nat}:∀(l:List cL) (k j:Nat) (F:cL),l[j]? =some F->(yM d w l k).find? (λx=>x.aT==((k+j:Nat):Int))=(inh d w F).map λc=>(⟨((k+j:Nat):Int),GA (tys d) c⟩:dc):=by intro l;induction l with
 |nil=>intro k j F h;simp at h
 |cons G l I=>intro k j F h;unfold yM;cases j with
  |zero=>
   have:G=F:=by simpa using h
   subst this;cases B:inh d w G with
   |none=>simp only[zF];rw[tX];intro x D;have:=rowF_ge l (k+1) x D;simp only[gj];omega
   |some c=>simp only[qX,qx,beq_self_eq_true,cR]
  |succ j=>
   have z:l[j]? =some F:=by simpa using h
   have q:=I (k+1) j F z;have e:k+1+j=k+(j+1):=af;rw[e] at q;cases B:inh d w G with
   |none=>exact q
   |some c=>simp only[qX];rw[show((k:Int)==((k+(j+1):Nat):Int))=false by rw[iN];omega];exact q
def adu {d:List aB} {T:Nat} (hT:T<(tys d).length):∃h:T<(Ks d).length,(Ks d)[T]=yM d ((tys d).getD T 0) (pO d) 0:=by refine⟨by rw[YQ];exact hT,?_⟩;unfold Ks;rw[oJ];congr 1;rw[aZ,aM hT];rfl
def XU {d:List aB} {j:Nat} {F:cL} (h:(pO d)[j]? =some F):∃hj:j<(yz d).length,(yz d)[j]=KH d F:=by obtain⟨hj,e⟩:=bF.1 h;refine⟨by rw[Iu];exact hj,?_⟩;unfold yz;rw[oJ,e]
end Go.Proofs.YthppjmoncapdfaaGreatDoor.cl
namespace Go.Proofs.YthppjmoncapdfaaGreatDoor.cl
open Go Go.AM
noncomputable def nmAt (d:List aB) (i:Nat):cL:=((cN d).getD i ([],0)).1
noncomputable def YO (d:List aB) (i:Nat):gL:=⟨nmAt d i,e1 ((tys d).getD i 0),cast (sups (tys d) i),yM d ((tys d).getD i 0) (pO d) 0⟩
noncomputable def uV (d:List aB):bR:=⟨(List.range (tys d).length).map (YO d),yz d⟩
def cds_at {d:List aB} {i:Nat} (h:i<(zU d).length):(zU d)[i]=⟨nmAt d i,e1 ((tys d).getD i 0)⟩:=by
 have hi:i<(cN d).length:=by simpa[zU] using h
 have e:(zU d)[i]? =some ⟨nmAt d i,e1 ((tys d).getD i 0)⟩:=by unfold zU nmAt tys;rw[dF,aM hi,aZ,aM hi,aZ,dF,aM hi];rfl
 rw[aM h] at e;exact cU e
def US {l:Type} (g:Nat->l) (i:Nat):(List.range i).map g++[g i]=(List.range (i+1)).map g:=by rw[iP,bM];rfl
section
variable {d:List aB} (O:Zg d)
include O
theorem h332 (D:f320 d=some (yz d,0)) {L:bR} {b:List c8}:∀(n i:Nat),(tys d).length-i=n->i<=(tys d).length->
  Ol d (Ks d) (zU d) i L ((List.range i).map (YO d)) b=some (uV d,0):=by
 have N:=O.ok.cF;have G:=nk (d:=d);intro n;induction n with
 |zero=>
  intro i hi w;refine aa9 ?_
  have:i=(tys d).length:=af
  subst this;rw[cond_neg (by rw[bP];omega),D];rfl
 |succ n I=>intro i hi w;refine aa9 ?_;have q:i<(tys d).length:=af;have l:i<(zU d).length:=af;obtain⟨z,B⟩:=adu q;rw[cond_pos (by rw[bH];omega),bS l,bS l,o28 O.ok.cd q,ak,bS z,B,cds_at l,bU _ (by rw[aV,x6];omega) ah af,bp af];have:=US (YO d) i;unfold YO at this⊢;rw[this];exact I (i+1) af af
end
def c332 {d:List aB} (z:Sz d) (l:d.length<=64) (q:Fz d):f332 d=some (if ym d=0 then(uV d,0) else(⟨[],[]⟩,ym d)):=by
 refine e332 ?_;rw[c323 z l q,ak,c15 z l,ak];by_cases h:ym d=0
 .obtain⟨O,B,D⟩:=Je z l q h;have w:=c320 z l q;rw[az h] at w;rw[az h,az h,au (by simpa using B),au D,cond_neg ah];exact h332 O w _ 0 rfl af
 .rw[au h,cond_pos (by simpa using h),au h]
def BJ:List cL->List bT
 |a::b::l=>⟨a,b⟩::BJ l
 |_=>[]
def Sw {i:Nat} (h:i<4611686018427387904):IntKind.wrap .i64 ((i:Int)+2)=((i+2:Nat):Int):=by rw[jN af af];omega
def WL {l:List cL} (L:l.length<=1000) {name:cL} {o6:aB} {sup a c:List cL} {b:List bT}:∀(n:Nat) (xs:List cL),xs.length<=n->∀(i:Nat) (w:List bT),l.drop i=xs->w.length<=i->i<=2000->
  On l i o6 name sup a b c w=some ⟨name,sup,w++BJ xs⟩/\Hg l i o6 name a b c w=some ⟨name,c,w++BJ xs⟩:=by
 intro n;induction n with
 |zero=>
  intro xs D i w h z hi
  have:xs=[]:=oK.1 af
  subst this;have:=iq h;constructor
  .refine MZ ?_;rw[bp af,cond_neg (by rw[bP];omega)];simp[BJ]
  .refine GY ?_;rw[bp af,cond_neg (by rw[bP];omega)];simp[BJ]
 |succ n I=>intro xs D i w h z hi;match xs,h,D with
  |[],h,_=>
   have:=iq h;constructor
   .refine MZ ?_;rw[bp af,cond_neg (by rw[bP];omega)];simp[BJ]
   .refine GY ?_;rw[bp af,cond_neg (by rw[bP];omega)];simp[BJ]
  |[x],h,_=>
   have:=iq (aH h);constructor
   .refine MZ ?_;rw[bp af,cond_neg (by rw[bP];omega)];simp[BJ]
   .refine GY ?_;rw[bp af,cond_neg (by rw[bP];omega)];simp[BJ]
  |x::y::r,h,D=>
   have B:=aH h;have:=c9 B;have G:=aH B;simp only[bg] at D;obtain⟨p,q⟩:=I r af (i+2) (w++[⟨x,y⟩]) G (by rw[cS];simp;omega) af;rw[eT] at p q;constructor
   .refine MZ ?_;rw[bp af,cond_pos (by rw[bH];omega),aQ h,aQ B,bU _ af ah af,Sw af];exact p
   .refine GY ?_;rw[bp af,cond_pos (by rw[bH];omega),aQ h,aQ B,bU _ af ah af,Sw af];exact q
def EJ (name super:cL) (l:List cL) (w:l.length<=1000):f351 name super l=some ⟨name,if super=[] then[] else[super],BJ l⟩:=by
 refine e351 ?_;by_cases h:super=[]
 .subst h;have:=(WL w (name:=name) (o6:=⟨[],[],[]⟩) (sup:=[]) (a:=[]) (c:=[]) (b:=[]) _ l (aU _) 0 [] rfl ah af).2;have q:(!(([]:List UInt8)==([]:List UInt8)))=false:=rfl;rw[dh] at this;rw[cond_neg q,az rfl];exact this
 .have:=(WL w (name:=name) (o6:=⟨[],[],[]⟩) (sup:=[super]) (a:=[]) (c:=[]) (b:=[]) _ l (aU _) 0 [] rfl ah af).1;have q:(!(super==([]:List UInt8)))=true:=by simpa using h
  rw[dh] at this;rw[cond_pos q,au h];exact this
def NG:List aB:=[
 ⟨[116,111,112],[],[]⟩,
 ⟨[108,105,115,116],[[116,111,112]],[]⟩,
 ⟨[99,111,110,115],[[108,105,115,116]],[⟨[70,73,82,83,84],[116,111,112]⟩,⟨[82,69,83,84],[108,105,115,116]⟩]⟩,
 ⟨[110,117,108,108],[[108,105,115,116]],[]⟩,
 ⟨[100,108,105,115,116],[[116,111,112]],[⟨[76,73,83,84],[108,105,115,116]⟩,⟨[76,65,83,84],[108,105,115,116]⟩]⟩,
 ⟨[105,110,100,101,120],[[116,111,112]],[]⟩,
 ⟨[104,97,110,100,108,101],[[105,110,100,101,120]],[]⟩,
 ⟨[101,118,101,110,116],[[105,110,100,101,120]],[]⟩,
 ⟨[101,110,116,105,116,121],[[105,110,100,101,120]],[]⟩,
 ⟨[114,101,108],[[116,111,112]],[⟨[76,65,66,69,76],[104,97,110,100,108,101]⟩]⟩,
 ⟨[113,101,113],[[116,111,112]],[⟨[72,73,71,72],[104,97,110,100,108,101]⟩,⟨[76,79,87],[104,97,110,100,108,101]⟩]⟩,
 ⟨[115,101,109],[[116,111,112]],[⟨[84,79,80],[104,97,110,100,108,101]⟩,⟨[73,78,68,69,88],[105,110,100,101,120]⟩,⟨[82,69,76,83],[100,108,105,115,116]⟩,⟨[67,79,78,83],[100,108,105,115,116]⟩]⟩,
 ⟨[115,105,103,110],[[116,111,112]],[⟨[83,69,77],[115,101,109]⟩,⟨[65,82,71,83],[108,105,115,116]⟩]⟩]
def c327:f327=some NG:=by refine e327 ?_;rw[EJ _ _ _ (by decide),EJ _ _ _ (by decide),EJ _ _ _ (by decide),EJ _ _ _ (by decide),EJ _ _ _ (by decide),EJ _ _ _ (by decide),EJ _ _ _ (by decide),EJ _ _ _ (by decide),EJ _ _ _ (by decide),EJ _ _ _ (by decide),EJ _ _ _ (by decide),EJ _ _ _ (by decide),EJ _ _ _ (by decide)];simp only[ak];rfl
end Go.Proofs.YthppjmoncapdfaaGreatDoor.cl
namespace Go.Proofs.YthppjmoncapdfaaGreatDoor.cl
open Go Go.AM
structure Hd (h:bR) (cs:List Nat):Prop where
 eq:h.Types.map (·.Code)=cs.map e1
 lt:∀c∈cs,c<18446744073709551616
 len:cs.length<=1000
def Hd.length {h:bR} {cs:List Nat} (H:Hd h cs):h.Types.length=cs.length:=by have:=aK List.length H.eq;simpa using this
def Hd.code {h:bR} {cs:List Nat} (H:Hd h cs) {i:Nat} (hi:i<h.Types.length):h.Types[i].Code=e1 (cs.getD i 0):=by
 have q:i<cs.length:=by rw[<-H.length];exact hi
 have:=aK (λl=>l[i]?) H.eq;simp only[dF,aM hi,aM q,cR,aN] at this;rw[this,aZ,aM q];rfl
def Hd.get {h:bR} {cs:List Nat} (H:Hd h cs) {i:Nat} (hi:i<cs.length):cs.getD i 0<18446744073709551616:=H.lt _ (ku hi)
def hty {d:List aB} {i:Nat} (hi:i<(tys d).length):∃h:i<(uV d).Types.length,(uV d).Types[i]=YO d i:=by refine⟨by simpa[uV] using hi,?_⟩;simp[uV]
def hd5 {d:List aB} (O:Zg d):Hd (uV d) (tys d):=by
 refine⟨?_,λc q=>O.ok.ltmem q,by have:=O.ok.cF;omega⟩;apply oE
 .simp[uV]
 .intro i w l;have hi:i<(tys d).length:=by simpa using l
  simp only[uV,oJ,CS,YO];rw[aZ,aM hi];rfl
def BD (cs:List Nat) (w:Nat):Int×Bool:=if GA cs w<0 then(0,false) else(GA cs w,true)
def fnI (xs:List Nat) (w i:Nat):Int:=match xs.findIdx? (· ==w) with
 |some j=>((i+j:Nat):Int)
 |none=> -1
def Qt (cs:List Nat) (w:Nat):fnI cs w 0=GA cs w:=by unfold fnI GA;cases cs.findIdx? (· ==w)<;>simp
def Qr (c:Nat) (xs:List Nat) (w i:Nat):fnI (c::xs) w i=if c=w then(i:Int) else fnI xs w (i+1):=by
 unfold fnI;rw[tU];by_cases e:c=w
 .subst e;simp
 .have l:(c==w)=false:=by simpa using e
  rw[l,au e];cases xs.findIdx? (· ==w) with
  |none=>rfl
  |some j=>
   show((i+(j+1):Nat):Int)=((i+1+j:Nat):Int)
   omega
def VS {h:bR} {cs:List Nat} (H:Hd h cs) {i c:Nat} {xs:List Nat} (l:cs.drop i=c::xs):∃hi:i<h.Types.length,h.Types[i].Code=e1 c/\c<18446744073709551616:=by
 have hi:=c9 l;have q:=H.length;refine⟨af,?_,?_⟩
 .rw[H.code,aZ,bA l];rfl
 .exact H.lt c (aI (bA l))
section
variable {h:bR} {cs:List Nat} (H:Hd h cs)
include H
theorem h353 {w:Nat} (G:w<18446744073709551616):∀(xs:List Nat) (i:Nat),cs.drop i=xs->Oo h.Types (e1 w) h.Types.length i=some (fnI xs w i):=by have L:=H.len;intro xs;induction xs with
 |nil=>intro i z;refine abf ?_;rw[H.length,bq z];rfl
 |cons c xs I=>
  intro i z;refine abf ?_;obtain⟨hi,D,q⟩:=VS H z;have l:f371 h.Types[i] (e1 w)=some (decide (c=w)):=by refine e371 ?_;rw[D,o31 q G];rfl
  have B:=H.length;rw[cond_pos (by rw[bH];omega),bS hi,l,ak,bp af,I (i+1) (aH z),Qr];by_cases e:c=w
  .rw[az e,cond_pos (by simpa using e)]
  .rw[au e,cond_neg (by simpa using e)]
theorem o353 {w:Nat} (l:w<18446744073709551616):f353 h.Types (e1 w)=some (GA cs w):=by refine e353 ?_;rw[<-Qt];exact h353 H l cs 0 rfl
theorem h354 {w:Nat} (D:w<18446744073709551616):∀(xs:List Nat) (i:Nat),cs.drop i=xs->Oq (e1 w) i h=some (if fnI xs w i<0 then(0,false) else(fnI xs w i,true)):=by have I:=H.len;intro xs;induction xs with
 |nil=>intro i q;refine abg ?_;rw[H.length,bq q];rfl
 |cons c xs G=>
  intro i q;refine abg ?_;obtain⟨hi,B,l⟩:=VS H q;have z:=H.length;rw[cond_pos (by rw[bH];omega),bS hi,B,o57 l D,ak,bp af,G (i+1) (aH q),Qr];by_cases e:c=w
  .rw[az e,cond_pos (by simpa using e),au af]
  .rw[au e,cond_neg (by simpa using e)]
theorem o354 {w:Nat} (l:w<18446744073709551616):f354 h (e1 w)=some (BD cs w):=by refine e354 ?_;unfold BD;rw[<-Qt];exact h354 H l cs 0 rfl
variable (K:Za cs) {i j:Nat} (hi:i<cs.length) (hj:j<cs.length)
include hi
theorem o339 {j:Nat} (hj:j<cs.length):f339 h i j=some (sub (cs.getD j 0) (cs.getD i 0)):=by refine e339 ?_;have l:=H.length;rw[bS af,bS af,H.code,H.code,o63 (H.get hj) (H.get hi)];rfl
theorem o340 {j:Nat} (hj:j<cs.length):f340 h i j=some (sub (cs.getD j 0) (cs.getD i 0)):=by refine e340 ?_;have l:=H.length;rw[bS af,bS af,H.code,H.code,o65 (H.get hj) (H.get hi)];rfl
include K hj
theorem o335:f335 h i j=some (BD cs (cs.getD i 0&&&cs.getD j 0)):=by
 refine e335 ?_;have B:=H.length;have z:cs.getD i 0&&&cs.getD j 0<18446744073709551616:=jk j6 (H.get hi);rw[bS af,bS af,H.code,H.code,Yr (H.get hi) (H.get hj),ak];by_cases q:cs.getD i 0&&&cs.getD j 0=0
 .rw[q,cond_pos (by rfl)];unfold BD;rw[VM (λw=>K.nz 0 w rfl)];rfl
 .rw[cond_neg (by rw[iN];intro e;exact q (Dt af)),o353 H z,ak];unfold BD;by_cases l:GA cs (cs.getD i 0&&&cs.getD j 0)<0
  .rw[cond_pos (by simpa using l),az l]
  .rw[cond_neg (by simpa using l),au l]
theorem o336:f336 h i j=some (BD cs (cs.getD i 0&&&cs.getD j 0)):=by refine e336 ?_;have q:=H.length;have l:cs.getD i 0&&&cs.getD j 0<18446744073709551616:=jk j6 (H.get hi);rw[bS af,bS af,H.code,H.code,o61 (H.get hi) (H.get hj),ak,o354 H l];rfl
end
def h355 {h:bR} {l:List dc} (B:l.length<=1000) (f:Int):∀(xs:List dc) (i:Nat),l.drop i=xs->Ot f l l.length i h=some (match xs.find? λx=>x.aT==f with|some x=>(x.Value,true)|none=>(0,false)):=by intro xs;induction xs with
 |nil=>intro i q;refine abh ?_;rw[bq q];rfl
 |cons x xs w=>intro i q;refine abh ?_;rw[bf q,ai,aQ q,aX q af,w (i+1) (aH q),qX];cases z:x.aT==f<;>simp
def h356 {l:List dc} (B:l.length<=1000) (f:Int):∀(xs:List dc) (i:Nat),l.drop i=xs->Ou f l i=some (match xs.find? λx=>x.aT==f with|some x=>(x.Value,true)|none=>(0,false)):=by intro xs;induction xs with
 |nil=>intro i q;refine abi ?_;rw[bq q];rfl
 |cons x xs w=>intro i q;refine abi ?_;rw[bf q,ai,aQ q,aQ q,aX q af,w (i+1) (aH q),qX];cases z:x.aT==f<;>rfl
def RZ {d:List aB} {w j:Nat} {F:cL} (h:(pO d)[j]? =some F):(match(yM d w (pO d) 0).find? (λx=>x.aT==(j:Int)) with|some x=>(x.Value,true)|none=>(0,false))=(match inh d w F with|some c=>(GA (tys d) c,true)|none=>(0,false)):=by have:=YF (d:=d) (w:=w) (pO d) 0 j F h;rw[gy] at this;rw[this];cases inh d w F<;>rfl
section
variable {d:List aB} (O:Zg d) {T:Nat} (hT:T<(tys d).length) {j:Nat} {F:cL} (hj:(pO d)[j]? =some F)
include O hT hj
theorem o355:f355 (uV d) T j=some (match inh d ((tys d).getD T 0) F with|some c=>(GA (tys d) c,true)|none=>(0,false)):=by obtain⟨l,q⟩:=hty hT;have z:=Gg (d:=d) (w:=(tys d).getD T 0) (pO d) 0;have w:=O.f64;refine e355 ?_;rw[bS l,q,<-RZ hj];exact h355 (by show(yM _ _ _ _).length<=1000;omega) j _ 0 rfl
theorem o356:f356 (uV d) T j=some (match inh d ((tys d).getD T 0) F with|some c=>(GA (tys d) c,true)|none=>(0,false)):=by obtain⟨l,q⟩:=hty hT;have z:=Gg (d:=d) (w:=(tys d).getD T 0) (pO d) 0;have w:=O.f64;refine e356 ?_;rw[bS l,q,<-RZ hj];exact h356 (by show(yM _ _ _ _).length<=1000;omega) j _ 0 rfl
end
