/- Layer 5. -/
import Derived.Test.YthppjmoncapdfaaGreatDoorClSa
set_option linter.all false
namespace Go.Proofs.YthppjmoncapdfaaGreatDoor.cl
open Go Go.AM
def rM (d:List aA) (F:cK):List cK:=(d.filter λt=>(val t F).isSome).map (·.Name)
def EJ {d:List aA} {F x:cK}:x∈rM d F↔∃t∈d,(val t F).isSome=true/\t.Name=x:=by
 unfold rM;rw[aC];constructor
 .rintro⟨t,l,e⟩;rw[cG] at l;exact⟨t,l.1,l.2,e⟩
 .rintro⟨t,l,h,e⟩;exact⟨t,cG.2 ⟨l,h⟩,e⟩
def Fb {d:List aA} {F x:cK} (h:x∈rM d F):x∈jF d:=by obtain⟨t,l,_,rfl⟩:=EJ.1 h;exact IP l
def one:List cK->Option cK
 |[x]=>some x
 |_=>none
def acF {l:List cK} {x:cK} (h:one l=some x):l=[x]:=by cases l with
 |nil=>cases h
 |cons y l=>cases l with
  |nil=>unfold one at h;injection h with h;rw[h]
  |cons z l=>cases h
def eq_one {l:List cK} {u:cK} (B:l.Nodup) (q:∀x∈l,x=u) (w:u∈l):l=[u]:=by cases l with
 |nil=>cases w
 |cons y l=>have D:=q y ah;subst D;cases l with
  |nil=>rfl
  |cons z l=>have G:=q z ah;subst G;simp at B
noncomputable def zN (d:List aA) (F:cK):Option cK:=one (uX d (mz (rM d F)))
def QF {d:List aA} (A:Acc d) {F u:cK}:zN d F=some u↔u∈rM d F/\∀v∈rM d F,Le d u v:=by
 have q:∀x,x∈mz ((mz (rM d F)).filter λs=>decide (s∈jF d))↔x∈rM d F:=by intro x;rw[gu,cG,gu];exact⟨λh=>h.1,λh=>⟨h,by simpa using Fb h⟩⟩
 have I:=lI ((mz (rM d F)).filter λs=>decide (s∈jF d));unfold zN uX;generalize mz ((mz (rM d F)).filter λs=>decide (s∈jF d))=l at q I;constructor
 .intro h;have e:=acF h;refine⟨?_,λv L=> ?_⟩
  .have:u∈l.filter (rf d l):=by rw[e];simp
   exact(q u).1 (cG.1 this).1
  .obtain⟨m,z,w⟩:=EI A v ((q v).2 L);rw[e] at z;simp only[bW] at z;rw[<-z];exact w
 .rintro⟨D,G⟩;have e:l.filter (rf d l)=[u]:=by
   refine eq_one (I.nodup.filter _) (λx B=> ?_) ?_
   .rw[cG] at B;exact(AP.1 B.2 u ((q u).2 D) (G x ((q x).1 B.1))).symm
   .rw[cG];refine⟨(q u).2 D,AP.2 λy N w=> ?_⟩;exact le_antisymm A w (G y ((q y).1 N))
  rw[e];rfl
def QG {d:List aA} (A:Acc d) {F u:cK} (h:zN d F=some u):u∈jF d:=Fb ((QF A).1 h).1
def h357 {d:List aA} (O:Ok d) (D:Fz d) (F:cK):∀(xs:List aA) (i:Nat) (o:List cK),d.drop i=xs->o.length<=i->i<=d.length->
  JN d F o i=some (match one (uX d ((rM xs F).foldl (λo s=>qm s o) o)) with|some x=>(x,true)|none=>([],false)):=by
 have w:=O.len;intro xs;induction xs with
 |nil=>intro i o h G q;refine aa0 ?_;rw[bp h,az,c104 O.z O.acc o af,ak];show _=some (match one (uX d o) with|some x=>(x,true)|none=>([],false));generalize uX d o=l;cases l with
  |nil=>rfl
  |cons x l=>cases l with
   |nil=>rw[cond_neg (by rfl)];exact bR (l:=[x]) (i:=0) ah _
   |cons y l=>rw[cond_pos (by rw[jW];simp only[bg];omega)];rfl
 |cons t xs B=>intro i o h G q;refine aa0 ?_;have hi:=c7 h;have I:=D t (aH (bB h));rw[aZ h,ai,aQ h,c373 _ _ I,ak,aY h af];cases z:val t F with
  |none=>
   rw[cond_neg (by rfl),B (i+1) o (aG h) af af]
   have:rM (t::xs) F=rM xs F:=by simp[rM,fI,z]
   rw[this]
  |some v=>
   have L:=mJ t.Name o;rw[cond_pos (by rfl),aQ h,c98 _ _ af,ak,B (i+1) _ (aG h) af af]
   have:rM (t::xs) F=t.Name::rM xs F:=by simp[rM,fI,z]
   rw[this,fB]
def c357 {d:List aA} (O:Ok d) (l:Fz d) (F:cK):f357 d F=some (match zN d F with|some x=>(x,true)|none=>([],false)):=
 e357 (h357 O l F d 0 [] rfl ah af)
def h358 {l:List dX} (w:l.length<=1048576) (x:cK):∀(xs:List dX) (i:Nat),l.drop i=xs->Oi l x i=some (gJ (λc=>c.Name==x) xs i):=by intro xs;induction xs with
 |nil=>intro i h;refine aa1 ?_;rw[bp h];rfl
 |cons y xs q=>intro i h;refine aa1 ?_;rw[aZ h,ai,aQ h,aY h af,q (i+1) (aG h),gJ];cases y.Name==x<;>rfl
def o358 {d:List aA} (O:Ok d) {x:cK} (q:x∈jF d):f358 (zH d) x=some (nu d x:Int):=by have l:=O.cE;rw[<-nj] at l;refine e358 ((h358 (l:=zH d) af x (zH d) 0 rfl).trans ?_);rw[(O.yq q).1]
def Ok.code_nu {d:List aA} (O:Ok d) {x:cK} (l:x∈jF d) (q:nu d x<(zH d).length):(zH d)[nu d x].Code=e1 (cwd d x):=by rw[O.cd.code,(O.yq l).2.2.1]
def Ok.nu_lt {d:List aA} (O:Ok d) {x:cK} (l:x∈jF d):nu d x<(zH d).length:=by rw[nj];exact(O.yq l).2.1
def comb (o:Option Nat) (c:Nat):Nat:=match o with
 |some a=>a&&&c
 |none=>c
noncomputable def za (d:List aA) (w:Nat) (F:cK) (o:Option Nat) (t:aA):Option Nat:=match val t F with
 |some v=>if sub w (cwd d t.Name)=true then some (comb o (cwd d v)) else o
 |none=>o
noncomputable def inh (d:List aA) (w:Nat) (F:cK):Option Nat:=d.foldl (za d w F) none
def Vd (d:List aA):Prop:=∀t∈d,∀x∈t.cD,x.Value∈jF d
def Vd.val {d:List aA} (h:Vd d) {t:aA} (l:t∈d) {F v:cK} (q:val t F=some v):v∈jF d:=by obtain⟨x,w,_,rfl⟩:=ac7 q;exact h t l x w
def stp_in {d:List aA} (O:Ok d) (N:Vd d) {w:Nat} {F:cK}:∀(xs:List aA) (o:Option Nat),(∀t∈xs,t∈d)->(∀c,o=some c->c=0\/c∈tys d)->∀c,xs.foldl (za d w F) o=some c->c=0\/c∈tys d:=by intro xs;induction xs with
 |nil=>intro o _ q c z;exact q c z
 |cons t xs Q=>intro o I q c z;rw[fB] at z;refine Q (za d w F o t) (λu P=>I u (by simp[P])) (λc' l=> ?_) c z;unfold za at l;cases D:val t F with
  |none=>rw[D] at l;exact q c' l
  |some v=>
   rw[D] at l;have G:=O.cwmem (N.val (I t ah) D);simp only at l;split at l
   .injection l with l;cases o with
    |none=>simp only[comb] at l;rw[<-l];exact .inr G
    |some a=>
     simp only[comb] at l;rcases q a rfl with B|B
     .left;rw[<-l,B];simp
     .by_cases L:a&&&cwd d v=0
      .left;rw[<-l,L]
      .right;rw[<-l];exact O.TB.cl a B _ G L
   .exact q c' l
def inh_in {d:List aA} (O:Ok d) (l:Vd d) {w:Nat} {F:cK} {c:Nat} (h:inh d w F=some c):c=0\/c∈tys d:=
 stp_in O l d none (λt h=>h) (λc h=>by cases h) c h
def Ok.ltmem {d:List aA} (O:Ok d) {c:Nat} (h:c∈tys d):c<18446744073709551616:=O.cd.lt c h
def h370 {d:List aA} (O:Ok d) (R:Fz d) (Q:Vd d) {T:Nat} (hT:T<(tys d).length) (F:cK):∀(xs:List aA) (i:Nat) (o:Option Nat),d.drop i=xs->(∀c,o=some c->c<18446744073709551616)->
  E1 d (zH d) T F o.isSome (e1 (o.getD ((tys d).getD 0 0))) i=some (e1 ((xs.foldl (za d ((tys d).getD T 0) F) o).getD ((tys d).getD 0 0)),(xs.foldl (za d ((tys d).getD T 0) F) o).isSome):=by
 have L:=O.len;intro xs;induction xs with
 |nil=>intro i o h B;refine aa7 ?_;rw[bp h];rfl
 |cons t xs G=>intro i o h B;refine aa7 ?_;have w:t∈d:=aH (bB h);have U:=R t w;rw[aZ h,ai,aQ h,c373 _ _ U,ak,aY h af,fB];cases D:val t F with
  |none=>
   have e:za d ((tys d).getD T 0) F o t=o:=by unfold za;rw[D]
   rw[cond_pos (by rfl),G (i+1) o (aG h) B,e]
  |some v=>have l:=Q.val w D;have z:=IP w;have N:=O.yq z;have S:=O.yq l;rw[cond_neg (by rfl),aQ h,o358 O z,ak,YK O.cd N.2.1 hT,ak,N.2.2.1];unfold za;rw[D];simp only;cases P:sub ((tys d).getD T 0) (cwd d t.Name) with
   |false=>rw[mV,ai,aq ah];exact G (i+1) o (aG h) B
   |true=>
    rw[gA,az,au rfl,o358 O l,ak,bR (O.nu_lt l),O.code_nu l (O.nu_lt l)];have I:(o.getD ((tys d).getD 0 0))<18446744073709551616:=by cases o with
     |none=>exact O.lt O.TB.pos
     |some a=>exact B a rfl
    rw[o61 I (O.cwlt v),ak];have e:o.getD ((tys d).getD 0 0)&&&cwd d v=comb o (cwd d v):=by cases o with
     |some a=>rfl
     |none=>show(tys d).getD 0 0&&&cwd d v=cwd d v;rw[Nat.and_comm];exact WM.1 (O.TB.top _ (O.cwmem l))
    rw[e];refine G (i+1) (some (comb o (cwd d v))) (aG h) (λc q=> ?_);injection q with q;rw[<-q,<-e];exact jg jZ I
def c370 {d:List aA} (O:Ok d) (q:Fz d) (l:Vd d) {T:Nat} (hT:T<(tys d).length) (F:cK):f370 d (zH d) T F=some (e1 ((inh d ((tys d).getD T 0) F).getD ((tys d).getD 0 0)),(inh d ((tys d).getD T 0) F).isSome):=by
 have w:0<(zH d).length:=by rw[nj];exact O.TB.pos
 refine e370 ?_;rw[show(0:Int)=((0:Nat):Int) from rfl,bR w,O.cd.code];exact h370 O q l hT F d 0 none rfl (λc h=>by cases h)
noncomputable def AT (d:List aA) (l:List cK):Bool:=l.any λF=>(zN d F).isNone
noncomputable def BL (d:List aA) (l:List Nat):Bool:=l.any λw=>(pK d).any λF=>inh d w F==some 0
noncomputable def yc (d:List aA):Int:=
 if HR d≠0 then HR d else if(y8 (nW d)).length>256 then 7 else if(pK d).length>64 then 7 else if qE (jF d) d≠0 then qE (jF d) d
 else if AT d (pK d)=true then 10 else if BL d (tys d)=true then 11 else 0
def h318c {d:List aA} (O:Ok d) (w:Fz d) (q:Vd d) {T:Nat} (hT:T<(tys d).length) {r:Int} (z:(pK d).length<=1000) (B:D4 d (zH d) (pK d) (T+1:Nat)=some r):∀(xs:List cK) (i:Nat),(pK d).drop i=xs->
  D5 d (zH d) (pK d) T i=some (if(xs.any λF=>inh d ((tys d).getD T 0) F==some 0)=true then 11 else r):=by
 have G:=O.cE;intro xs;induction xs with
 |nil=>intro i h;refine VX ?_;rw[bp h,az,bl af,B];rfl
 |cons F xs D=>intro i h;refine VX ?_;rw[aZ h,ai,aQ h,c370 O w q hT,ak,aY h af,D (i+1) (aG h),qw];cases hi:inh d ((tys d).getD T 0) F with
  |none=>rfl
  |some c=>
   simp only[CU,qL,ai];by_cases l:c=0
   .subst l;rfl
   .have:(some c==some 0)=false:=by simpa using l
    rw[this,iJ,cond_neg (by
     rw[iK];intro e
     exact l (Di af))]
def h318b {d:List aA} (O:Ok d) (z:Fz d) (q:Vd d) (l:(pK d).length<=1000):∀(xs:List Nat) (T:Nat),(tys d).drop T=xs->
  D4 d (zH d) (pK d) T=some (if BL d xs=true then 11 else 0):=by
 have G:=O.cE;intro xs;induction xs with
 |nil=>intro T h;refine VW ?_;rw[nj,bp h];rfl
 |cons w xs D=>
  intro T h;refine VW ?_;have hT:=c7 h;have B:(tys d).getD T 0=w:=by rw[aX,bB h];rfl
  rw[nj,aZ h,ai];refine(h318c O z q hT l (D (T+1) (aG h)) (pK d) 0 rfl).trans ?_;rw[B];unfold BL;rw[qw];cases(pK d).any λF=>inh d w F==some 0 with
  |false=>rfl
  |true=>rfl
def h318a {d:List aA} (O:Ok d) (q:Fz d) (w:Vd d) (l:(pK d).length<=1000):∀(xs:List cK) (i:Nat),(pK d).drop i=xs->
  GZ d (zH d) (pK d) i=some (if AT d xs=true then 10 else if BL d (tys d)=true then 11 else 0):=by
 intro xs;induction xs with
 |nil=>intro i h;refine VV ?_;rw[bp h,az];exact h318b O q w l (tys d) 0 rfl
 |cons F xs z=>intro i h;refine VV ?_;rw[aZ h,ai,aQ h,c357 O q,ak,aY h af,z (i+1) (aG h)];unfold AT;rw[qw];cases zN d F<;>rfl
def ok_of {d:List aA} (z:Sz d) (l:d.length<=64) (q:HR d=0) (w:¬(y8 (nW d)).length>256):Ok d:=⟨z,Ht q,l,af⟩
def Sd {d:List aA} (h:qE (jF d) d=0):Vd d:=λt l x q=>(((Tr _ d).1 h t l).1 x q).2
def c318 {d:List aA} (z:Sz d) (w:d.length<=64) (G:Fz d):f318 d=some (yc d):=by
 refine e318 ?_;unfold yc;rw[c15 z w,ak];by_cases l:HR d=0
 .have B:¬(HR d≠0):=λh=>h l
  rw[aq B,aq B];by_cases q:(y8 (nW d)).length>256
  .rw[au q,au q];rfl
  .rw[aq q,aq q,cond_neg ah,c345 af G,ak];have O:=ok_of z w l q;by_cases I:(pK d).length>64
   .rw[au I,cond_pos (by rw[bF];omega)]
   .rw[aq I,cond_neg (by rw[bM];omega),c346 af G,ak];by_cases D:qE (jF d) d=0
    .rw[D,cond_neg ah,aq ah];exact h318a O G (Sd D) af (pK d) 0 rfl
    .rw[au D,cond_pos (by simpa using D)]
 .rw[au l,au l,cond_pos (by simpa using l)]
structure Y0 (d:List aA):Prop where
 ok:Ok d
 fz:Fz d
 f64:(pK d).length<=64
 fd:qE (jF d) d=0
 intro:∀F∈pK d,∃u,zN d F=some u
 vals:∀w∈tys d,∀F∈pK d,inh d w F≠some 0
def I6 {d:List aA} (z:Sz d) (G:d.length<=64) (P:Fz d) (h:yc d=0):Y0 d/\HR d=0/\¬(y8 (nW d)).length>256:=by
 unfold yc at h;by_cases l:HR d=0
 .rw[aq (show¬(HR d≠0) from λh=>h l)] at h;by_cases q:(y8 (nW d)).length>256
  .rw[au q] at h;cases h
  .rw[aq q] at h;by_cases L:(pK d).length>64
   .rw[au L] at h;cases h
   .rw[aq L] at h;by_cases B:qE (jF d) d=0
    .rw[aq (show¬(qE (jF d) d≠0) from λh=>h B)] at h;by_cases D:AT d (pK d)=true
     .rw[au D] at h;cases h
     .rw[aq D] at h;by_cases N:BL d (tys d)=true
      .rw[au N] at h;cases h
      .refine⟨⟨ok_of z G l q,P,by omega,B,λF I=> ?_,λw Q F I e=> ?_⟩,l,q⟩
       .cases hi:zN d F with
        |some u=>exact⟨u,rfl⟩
        |none=>exact absurd (mP.2 ⟨F,I,by rw[hi];rfl⟩) D
       .exact N (mP.2 ⟨w,Q,mP.2 ⟨F,I,by rw[e];simp⟩⟩)
    .rw[au B] at h;exact absurd h B
 .rw[au l] at h;exact absurd h l
noncomputable def Ky (d:List aA) (F:cK):c4:=⟨F,(nu d ((zN d F).getD []):Int)⟩
noncomputable def yj (d:List aA):List c4:=(pK d).map (Ky d)
def h320 {d:List aA} (O:Y0 d):∀(xs:List cK) (i:Nat) (o:List c4),(pK d).drop i=xs->o.length<=i->N8 d (zH d) (pK d) i o=some (o++xs.map (Ky d),0):=by have q:=O.f64;intro xs;induction xs with
 |nil=>intro i o h w;refine aaN ?_;rw[bp h,az,dQ,eW]
 |cons F xs z=>
  intro i o h w;refine aaN ?_;have hi:=c7 h;obtain⟨u,l⟩:=O.intro F (aH (bB h))
  rw[aZ h,ai,aQ h,c357 O.ok O.fz,ak,l,aQ h,o358 O.ok (QG O.ok.acc l),ak,bT _ af ah af,aY h af,
   z (i+1) _ (aG h) (by rw[cR];simp;omega),eO]
  have:Ky d F=⟨F,(nu d u:Int)⟩:=by unfold Ky;rw[l];rfl
  rw[aR,this];rfl
def c320 {d:List aA} (z:Sz d) (l:d.length<=64) (q:Fz d):f320 d=some (if yc d=0 then(yj d,0) else([],yc d)):=by
 refine e320 ?_;rw[c318 z l q,ak];by_cases h:yc d=0
 .obtain⟨O,w,B⟩:=I6 z l q h;rw[au h,cond_neg (by simpa using h),c15 z l,aq (show¬(HR d≠0) from λh=>h w),aq B,ak,c345 af q,ak];exact h320 O (pK d) 0 [] rfl ah
 .rw[aq h,cond_pos (by simpa using h)]
noncomputable def yz (d:List aA) (w:Nat):List cK->Nat->List c8
 |[],_=>[]
 |F::l,k=>match inh d w F with
  |some c=>⟨(k:Int),Gn (tys d) c⟩::yz d w l (k+1)
  |none=>yz d w l (k+1)
noncomputable def Ki (d:List aA):List (List c8):=(tys d).map λw=>yz d w (pK d) 0
def F5 {d:List aA} {w:Nat}:∀(l:List cK) (k:Nat),(yz d w l k).length<=l.length:=by intro l;induction l with
 |nil=>intro k;simp[yz]
 |cons F l q=>intro k;have:=q (k+1);unfold yz;cases inh d w F<;>simp<;>omega
def h323b {d:List aA} (O:Y0 d) {T:Nat} (hT:T<(tys d).length) {o:List (List c8)} (G:o.length<=T) {r:List (List c8)×Int}:∀(xs:List cK) (i:Nat) (row:List c8),(pK d).drop i=xs->row.length<=i->
  JH d (zH d) (pK d) (T+1:Nat) (o++[row++yz d ((tys d).getD T 0) xs i])=some r->D6 d (zH d) (pK d) T i o row=some r:=by
 have B:=O.f64;have D:=O.ok.cE;intro xs;induction xs with
 |nil=>intro i row h w l;refine VY ?_;rw[bp h,az,bT _ af ah af,bl af];rwa[yz,eW] at l
 |cons F xs z=>intro i row h w l;refine VY ?_;have hi:=c7 h;rw[aZ h,ai,aQ h,c370 O.ok O.fz (Sd O.fd) hT,ak,aY h af];unfold yz at l;cases q:inh d ((tys d).getD T 0) F with
  |none=>rw[q] at l;simp only[Option.isSome_none,az];exact z (i+1) row (aG h) af l
  |some c=>rw[q] at l;simp only[CU,qL,ai];rw[Lv O.ok.cd,ak,bT _ af ah af];refine z (i+1) _ (aG h) (by rw[cR];simp;omega) ?_;rw[eO];exact l
def h323 {d:List aA} (O:Y0 d):∀(xs:List Nat) (T:Nat) (o:List (List c8)),(tys d).drop T=xs->o.length<=T->
  JH d (zH d) (pK d) T o=some (o++xs.map (λw=>yz d w (pK d) 0),0):=by
 intro xs;induction xs with
 |nil=>intro T o h l;refine aaO ?_;rw[nj,bp h,az,dQ,eW]
 |cons w xs z=>
  intro T o h l;refine aaO ?_;have q:(tys d).getD T 0=w:=by rw[aX,bB h];rfl
  rw[nj,aZ h,ai];refine h323b O (c7 h) l (pK d) 0 [] rfl ah ?_;rw[z (T+1) _ (aG h) (by rw[cR];simp;omega),q,eO];rfl
def c323 {d:List aA} (z:Sz d) (l:d.length<=64) (q:Fz d):f323 d=some (if yc d=0 then(Ki d,0) else([],yc d)):=by
 refine e323 ?_;rw[c318 z l q,ak];by_cases h:yc d=0
 .obtain⟨O,w,B⟩:=I6 z l q h;rw[au h,cond_neg (by simpa using h),c15 z l,aq (show¬(HR d≠0) from λh=>h w),aq B,ak,c345 af q,ak];exact h323 O (tys d) 0 [] rfl ah
 .rw[aq h,cond_pos (by simpa using h)]
end Go.Proofs.YthppjmoncapdfaaGreatDoor.cl
namespace Go.AM
end Go.AM
namespace Go.Proofs.YthppjmoncapdfaaGreatDoor.cl
open Go Go.AM
def Za {l:Type} (p:l->Bool):∀(xs:List l) (i:Nat),decide (gJ p xs i>=0)=xs.any p:=by intro xs;induction xs with
 |nil=>intro i;rfl
 |cons x xs q=>intro i;rw[gJ];grind
def h384 {s:List bS} (w:s.length<=1048576) (x:bS):∀(xs:List bS) (i:Nat),s.drop i=xs->Ot s s.length i x=some (gJ (λy=>y.aS==x.aS) xs i):=by intro xs;induction xs with
 |nil=>intro i h;refine abc ?_;rw[bp h];rfl
 |cons y xs q=>intro i h;refine abc ?_;have l:f388 y x=some _:=e388 rfl;rw[aZ h,aQ h,aY h af,q _ (aG h),gJ];grind
def h384a {s:List bS} (w:s.length<=1048576) (F:cK):∀(xs:List bS) (i:Nat),s.drop i=xs->G6 s F s.length i=some (gJ (λy=>y.aS==F) xs i):=by intro xs;induction xs with
 |nil=>intro i h;refine V5 ?_;rw[bp h];rfl
 |cons y xs q=>intro i h;refine V5 ?_;have l:f389 y F=some _:=e389 rfl;rw[aZ h,aQ h,aY h af,q _ (aG h),gJ];grind
end Go.Proofs.YthppjmoncapdfaaGreatDoor.cl
namespace Go.Proofs.YthppjmoncapdfaaGreatDoor.cl
open Go Go.AM
def Ie {d:List aA}:(yj d).length=(pK d).length:=by simp[yj]
def YB {d:List aA}:(Ki d).length=(tys d).length:=by simp[Ki]
end Go.Proofs.YthppjmoncapdfaaGreatDoor.cl
namespace Go.Proofs.YthppjmoncapdfaaGreatDoor.cl
open Go Go.AM
def K8 {d:List aA} {w:Nat} {F:cK}:∀(xs:List aA) (o:Option Nat),
  ((xs.foldl (za d w F) o).isSome=true↔o.isSome=true\/∃t∈xs,(val t F).isSome=true/\sub w (cwd d t.Name)=true)/\
  ∀c,xs.foldl (za d w F) o=some c->∀i,c.testBit i=true↔(∀a,o=some a->a.testBit i=true)/\∀t∈xs,∀v,val t F=some v->sub w (cwd d t.Name)=true->(cwd d v).testBit i=true:=by
 intro xs;induction xs with
 |nil=>intro o;refine⟨ah,λc G i=> ?_⟩;rw[List.foldl_nil] at G;subst G;simp
 |cons t xs S=>intro o;obtain⟨L,N⟩:=S (za d w F o t);rw[fB];cases I:val t F with
  |none=>
   have e:za d w F o t=o:=by unfold za;rw[I]
   rw[e] at L N⊢;constructor
   .rw[L];constructor
    .rintro (h|⟨u,q,h⟩)
     .exact .inl h
     .exact .inr ⟨u,by simp[q],h⟩
    .rintro (h|⟨u,q,h⟩)
     .exact .inl h
     .rcases aF.1 q with rfl|q
      .rw[I] at h;simp at h
      .exact .inr ⟨u,q,h⟩
   .intro c G i;rw[N c G i];constructor
    .rintro⟨a,b⟩;refine⟨a,λu q v l B=> ?_⟩;rcases aF.1 q with rfl|q
     .rw[I] at l;cases l
     .exact b u q v l B
    .rintro⟨a,b⟩;exact⟨a,λu q v l B=>b u (by simp[q]) v l B⟩
  |some v=>cases B:sub w (cwd d t.Name) with
   |false=>
    have e:za d w F o t=o:=by unfold za;rw[I,B];simp
    rw[e] at L N⊢;constructor
    .rw[L];constructor
     .rintro (h|⟨u,q,h⟩)
      .exact .inl h
      .exact .inr ⟨u,by simp[q],h⟩
     .rintro (h|⟨u,q,h⟩)
      .exact .inl h
      .rcases aF.1 q with rfl|q
       .rw[B] at h;simp at h
       .exact .inr ⟨u,q,h⟩
    .intro c G i;rw[N c G i];constructor
     .rintro⟨a,b⟩;refine⟨a,λu q v l z=> ?_⟩;rcases aF.1 q with rfl|q
      .rw[B] at z;cases z
      .exact b u q v l z
     .rintro⟨a,b⟩;exact⟨a,λu q v l z=>b u (by simp[q]) v l z⟩
   |true=>
    have e:za d w F o t=some (comb o (cwd d v)):=by unfold za;rw[I,B];cases o<;>rfl
    rw[e] at L N⊢;have D:∀i,(comb o (cwd d v)).testBit i=true↔(∀a,o=some a->a.testBit i=true)/\(cwd d v).testBit i=true:=by intro i;cases o with
     |none=>simp[comb]
     |some a=>simp[comb,iL]
    constructor
    .rw[L];constructor
     .intro _;exact .inr ⟨t,by simp,by rw[I];rfl,B⟩
     .intro _;exact .inl rfl
    .intro c G i;rw[N c G i];constructor
     .rintro⟨a,b⟩;have R:=(D i).1 (a _ rfl);refine⟨R.1,λu q Q l z=> ?_⟩;rcases aF.1 q with rfl|q
      .rw[I] at l;injection l with l;rw[<-l];exact R.2
      .exact b u q Q l z
     .rintro⟨a,b⟩;refine⟨λx P=> ?_,λu q Q l z=>b u (by simp[q]) Q l z⟩;injection P with P;rw[<-P];exact(D i).2 ⟨a,b t ah v I B⟩
def QC {d:List aA} {w:Nat} {F:cK}:(inh d w F).isSome=true↔∃t∈d,(val t F).isSome=true/\sub w (cwd d t.Name)=true:=by have:=(K8 (d:=d) (w:=w) (F:=F) d none).1;unfold inh;rw[this];simp
def VP {d:List aA} {w:Nat} {F:cK} {c:Nat} (h:inh d w F=some c) (i:Nat):c.testBit i=true↔∀t∈d,∀v,val t F=some v->sub w (cwd d t.Name)=true->(cwd d v).testBit i=true:=by rw[(K8 (d:=d) (w:=w) (F:=F) d none).2 c h i];exact⟨λh=>h.2,λh=>⟨λa l=>(by cases l),h⟩⟩
def aao {d:List aA} {w v:Nat} {F:cK} {a b:Nat} (z:sub v w=true) (l:inh d w F=some a) (q:inh d v F=some b):sub b a=true:=by rw[jJ];intro i hi;rw[VP l];intro t B x G D;exact(VP q i).1 hi t B x G (xo z D)
def inh_up {d:List aA} {w v:Nat} {F:cK} (z:sub v w=true) (h:(inh d w F).isSome=true):(inh d v F).isSome=true:=by rw[QC] at h⊢;obtain⟨t,B,l,q⟩:=h;exact⟨t,B,l,xo z q⟩
def X0 {d:List aA} (A:Acc d) {w:Nat} {F u:cK} (h:zN d F=some u):(inh d w F).isSome=sub w (cwd d u):=by
 obtain⟨D,G⟩:=(QF A).1 h;rw[jk,QC];constructor
 .rintro⟨t,q,z,l⟩;have B:t.Name∈rM d F:=EJ.2 ⟨t,q,z,rfl⟩;exact xo l ((Mj (Fb B)).2 (G _ B))
 .intro l;obtain⟨t,q,z,rfl⟩:=EJ.1 D;exact⟨t,q,z,l⟩
def Y0.num {d:List aA} (O:Y0 d) {w:Nat} (I:w∈tys d) {F:cK} (G:F∈pK d) {c:Nat} (h:inh d w F=some c):∃q:Nat,Gn (tys d) c=(q:Int)/\q<(tys d).length/\(tys d).getD q 0=c:=by
 rcases inh_in O.ok (Sd O.fd) h with l|l
 .rw[l] at h;exact absurd h (O.vals w I F G)
 .obtain⟨q,z,B,D⟩:=Mx l;exact⟨q,D,z,B⟩
def rowF_ge {d:List aA} {w:Nat}:∀(l:List cK) (k:Nat),∀x∈yz d w l k,(k:Int)<=x.aS:=by intro l;induction l with
 |nil=>intro k x q;cases q
 |cons F l z=>intro k x q;unfold yz at q;cases h:inh d w F with
  |none=>rw[h] at q;have:=z (k+1) x q;omega
  |some c=>
   rw[h] at q;rcases aF.1 q with rfl|q
   .simp
   .have:=z (k+1) x q;omega
def Yq {d:List aA} {w:Nat}:∀(l:List cK) (k j:Nat) (F:cK),l[j]? =some F->(yz d w l k).find? (λx=>x.aS==((k+j:Nat):Int))=(inh d w F).map λc=>(⟨((k+j:Nat):Int),Gn (tys d) c⟩:c8):=by intro l;induction l with
 |nil=>intro k j F h;simp at h
 |cons G l I=>intro k j F h;unfold yz;cases j with
  |zero=>
   have:G=F:=by simpa using h
   subst this;cases B:inh d w G with
   |none=>simp only[zm];rw[tQ];intro x D;have:=rowF_ge l (k+1) x D;simp only[ga];omega
   |some c=>simp only[qV,qv,beq_self_eq_true,cQ]
  |succ j=>
   have z:l[j]? =some F:=by simpa using h
   have q:=I (k+1) j F z;have e:k+1+j=k+(j+1):=af;rw[e] at q;cases B:inh d w G with
   |none=>exact q
   |some c=>simp only[qV];rw[show((k:Int)==((k+(j+1):Nat):Int))=false by rw[iK];omega];exact q
def ac9 {d:List aA} {T:Nat} (hT:T<(tys d).length):∃h:T<(Ki d).length,(Ki d)[T]=yz d ((tys d).getD T 0) (pK d) 0:=by refine⟨by rw[YB];exact hT,?_⟩;unfold Ki;rw[oH];congr 1;rw[aX,aK hT];rfl
def XI {d:List aA} {j:Nat} {F:cK} (h:(pK d)[j]? =some F):∃hj:j<(yj d).length,(yj d)[j]=Ky d F:=by obtain⟨hj,e⟩:=bD.1 h;refine⟨by rw[Ie];exact hj,?_⟩;unfold yj;rw[oH,e]
end Go.Proofs.YthppjmoncapdfaaGreatDoor.cl
namespace Go.Proofs.YthppjmoncapdfaaGreatDoor.cl
open Go Go.AM
noncomputable def nmAt (d:List aA) (i:Nat):cK:=((cM d).getD i ([],0)).1
noncomputable def Yz (d:List aA) (i:Nat):gK:=⟨nmAt d i,e1 ((tys d).getD i 0),cast (sups (tys d) i),yz d ((tys d).getD i 0) (pK d) 0⟩
noncomputable def uQ (d:List aA):bQ:=⟨(List.range (tys d).length).map (Yz d),yj d⟩
def cds_at {d:List aA} {i:Nat} (h:i<(zH d).length):(zH d)[i]=⟨nmAt d i,e1 ((tys d).getD i 0)⟩:=by
 have hi:i<(cM d).length:=by simpa[zH] using h
 have e:(zH d)[i]? =some ⟨nmAt d i,e1 ((tys d).getD i 0)⟩:=by unfold zH nmAt tys;rw[dB,aK hi,aX,aK hi,aX,dB,aK hi];rfl
 rw[aK h] at e;exact c9 e
def UJ {l:Type} (g:Nat->l) (i:Nat):(List.range i).map g++[g i]=(List.range (i+1)).map g:=by rw[iN,bJ];rfl
section
variable {d:List aA} (O:Y0 d)
include O
theorem h332 (D:f320 d=some (yj d,0)) {L:bQ} {b:List c4}:∀(n i:Nat),(tys d).length-i=n->i<=(tys d).length->
  Oa d (Ki d) (zH d) i L ((List.range i).map (Yz d)) b=some (uQ d,0):=by
 have N:=O.ok.cE;have G:=nj (d:=d);intro n;induction n with
 |zero=>
  intro i hi w;refine aaQ ?_
  have:i=(tys d).length:=af
  subst this;rw[cond_neg (by rw[bM];omega),D];rfl
 |succ n I=>intro i hi w;refine aaQ ?_;have q:i<(tys d).length:=af;have l:i<(zH d).length:=af;obtain⟨z,B⟩:=ac9 q;rw[cond_pos (by rw[bF];omega),bR l,bR l,o28 O.ok.cd q,ak,bR z,B,cds_at l,bT _ (by rw[aU,xU];omega) ah af,bl af];have:=UJ (Yz d) i;unfold Yz at this⊢;rw[this];exact I (i+1) af af
end
def c332 {d:List aA} (z:Sz d) (l:d.length<=64) (q:Fz d):f332 d=some (if yc d=0 then(uQ d,0) else(⟨[],[]⟩,yc d)):=by
 refine e332 ?_;rw[c323 z l q,ak,c15 z l,ak];by_cases h:yc d=0
 .obtain⟨O,B,D⟩:=I6 z l q h;have w:=c320 z l q;rw[au h] at w;rw[au h,au h,aq (by simpa using B),aq D,cond_neg ah];exact h332 O w _ 0 rfl af
 .rw[aq h,cond_pos (by simpa using h),aq h]
def Bw:List cK->List bS
 |a::b::l=>⟨a,b⟩::Bw l
 |_=>[]
def Sh {i:Nat} (h:i<4611686018427387904):IntKind.wrap .i64 ((i:Int)+2)=((i+2:Nat):Int):=by rw[ko af af];omega
def Wy {l:List cK} (L:l.length<=1000) {name:cK} {o6:aA} {sup a c:List cK} {b:List bS}:∀(n:Nat) (xs:List cK),xs.length<=n->∀(i:Nat) (w:List bS),l.drop i=xs->w.length<=i->i<=2000->
  Od l i o6 name sup a b c w=some ⟨name,sup,w++Bw xs⟩/\G1 l i o6 name a b c w=some ⟨name,c,w++Bw xs⟩:=by
 intro n;induction n with
 |zero=>
  intro xs D i w h z hi
  have:xs=[]:=oI.1 af
  subst this;have:=iF h;constructor
  .refine MQ ?_;rw[bl af,cond_neg (by rw[bM];omega)];simp[Bw]
  .refine GK ?_;rw[bl af,cond_neg (by rw[bM];omega)];simp[Bw]
 |succ n I=>intro xs D i w h z hi;match xs,h,D with
  |[],h,_=>
   have:=iF h;constructor
   .refine MQ ?_;rw[bl af,cond_neg (by rw[bM];omega)];simp[Bw]
   .refine GK ?_;rw[bl af,cond_neg (by rw[bM];omega)];simp[Bw]
  |[x],h,_=>
   have:=iF (aG h);constructor
   .refine MQ ?_;rw[bl af,cond_neg (by rw[bM];omega)];simp[Bw]
   .refine GK ?_;rw[bl af,cond_neg (by rw[bM];omega)];simp[Bw]
  |x::y::r,h,D=>
   have B:=aG h;have:=c7 B;have G:=aG B;simp only[bg] at D;obtain⟨p,q⟩:=I r af (i+2) (w++[⟨x,y⟩]) G (by rw[cR];simp;omega) af;rw[eO] at p q;constructor
   .refine MQ ?_;rw[bl af,cond_pos (by rw[bF];omega),aQ h,aQ B,bT _ af ah af,Sh af];exact p
   .refine GK ?_;rw[bl af,cond_pos (by rw[bF];omega),aQ h,aQ B,bT _ af ah af,Sh af];exact q
def Ew (name super:cK) (l:List cK) (w:l.length<=1000):f351 name super l=some ⟨name,if super=[] then[] else[super],Bw l⟩:=by
 refine e351 ?_;by_cases h:super=[]
 .subst h;have:=(Wy w (name:=name) (o6:=⟨[],[],[]⟩) (sup:=[]) (a:=[]) (c:=[]) (b:=[]) _ l (aT _) 0 [] rfl ah af).2;have q:(!(([]:List UInt8)==([]:List UInt8)))=false:=rfl;rw[dw] at this;rw[cond_neg q,au rfl];exact this
 .have:=(Wy w (name:=name) (o6:=⟨[],[],[]⟩) (sup:=[super]) (a:=[]) (c:=[]) (b:=[]) _ l (aT _) 0 [] rfl ah af).1;have q:(!(super==([]:List UInt8)))=true:=by simpa using h
  rw[dw] at this;rw[cond_pos q,aq h];exact this
def Nw:List aA:=[
 ⟨[116,111,112],[],[]⟩,
 ⟨[108,105,115,116],[[116,111,112]],[]⟩,
 ⟨[99,111,110,115],[[108,105,115,116]],[⟨[70,73,82,83,84],[116,111,112]⟩,⟨[82,69,83,84],[108,105,115,116]⟩]⟩,
 ⟨[110,117,108,108],[[108,105,115,116]],[]⟩,
 ⟨[100,108,105,115,116],[[116,111,112]],[⟨[76,73,83,84],[108,105,115,116]⟩,⟨[76,65,83,84],[108,105,115,116]⟩]⟩,
 ⟨[105,110,100,101,120],[[116,111,112]],[]⟩,
 ⟨[104,97,110,100,108,101],[[105,110,100,101,120]],[]⟩,
 ⟨[101,118,101,110,116],[[105,110,100,101,120]],[]⟩,
 ⟨[101,110,116,105,116,121],[[105,110,100,101,120]],[]⟩,
 ⟨[114,101,108],[[116,111,112]],[⟨[76,65,66,69,76],[104,97,110,100,108,101]⟩]⟩,
 ⟨[113,101,113],[[116,111,112]],[⟨[72,73,71,72],[104,97,110,100,108,101]⟩,⟨[76,79,87],[104,97,110,100,108,101]⟩]⟩,
 ⟨[115,101,109],[[116,111,112]],[⟨[84,79,80],[104,97,110,100,108,101]⟩,⟨[73,78,68,69,88],[105,110,100,101,120]⟩,⟨[82,69,76,83],[100,108,105,115,116]⟩,⟨[67,79,78,83],[100,108,105,115,116]⟩]⟩,
 ⟨[115,105,103,110],[[116,111,112]],[⟨[83,69,77],[115,101,109]⟩,⟨[65,82,71,83],[108,105,115,116]⟩]⟩]
def c327:f327=some Nw:=by refine e327 ?_;rw[Ew _ _ _ (by decide),Ew _ _ _ (by decide),Ew _ _ _ (by decide),Ew _ _ _ (by decide),Ew _ _ _ (by decide),Ew _ _ _ (by decide),Ew _ _ _ (by decide),Ew _ _ _ (by decide),Ew _ _ _ (by decide),Ew _ _ _ (by decide),Ew _ _ _ (by decide),Ew _ _ _ (by decide),Ew _ _ _ (by decide)];simp only[ak];rfl
end Go.Proofs.YthppjmoncapdfaaGreatDoor.cl
namespace Go.Proofs.YthppjmoncapdfaaGreatDoor.cl
open Go Go.AM
structure Hd (h:bQ) (cs:List Nat):Prop where
 eq:h.Types.map (·.Code)=cs.map e1
 lt:∀c∈cs,c<18446744073709551616
 len:cs.length<=1000
def Hd.length {h:bQ} {cs:List Nat} (H:Hd h cs):h.Types.length=cs.length:=by have:=aJ List.length H.eq;simpa using this
def Hd.code {h:bQ} {cs:List Nat} (H:Hd h cs) {i:Nat} (hi:i<h.Types.length):h.Types[i].Code=e1 (cs.getD i 0):=by
 have q:i<cs.length:=by rw[<-H.length];exact hi
 have:=aJ (λl=>l[i]?) H.eq;simp only[dB,aK hi,aK q,cQ,aM] at this;rw[this,aX,aK q];rfl
def Hd.get {h:bQ} {cs:List Nat} (H:Hd h cs) {i:Nat} (hi:i<cs.length):cs.getD i 0<18446744073709551616:=H.lt _ (kj hi)
def hty {d:List aA} {i:Nat} (hi:i<(tys d).length):∃h:i<(uQ d).Types.length,(uQ d).Types[i]=Yz d i:=by refine⟨by simpa[uQ] using hi,?_⟩;simp[uQ]
def hd5 {d:List aA} (O:Y0 d):Hd (uQ d) (tys d):=by
 refine⟨?_,λc q=>O.ok.ltmem q,by have:=O.ok.cE;omega⟩;apply oC
 .simp[uQ]
 .intro i w l;have hi:i<(tys d).length:=by simpa using l
  simp only[uQ,oH,CN,Yz];rw[aX,aK hi];rfl
def Br (cs:List Nat) (w:Nat):Int×Bool:=if Gn cs w<0 then(0,false) else(Gn cs w,true)
def fnI (xs:List Nat) (w i:Nat):Int:=match xs.findIdx? (· ==w) with
 |some j=>((i+j:Nat):Int)
 |none=> -1
def Qj (cs:List Nat) (w:Nat):fnI cs w 0=Gn cs w:=by unfold fnI Gn;cases cs.findIdx? (· ==w)<;>simp
def Qi (c:Nat) (xs:List Nat) (w i:Nat):fnI (c::xs) w i=if c=w then(i:Int) else fnI xs w (i+1):=by
 unfold fnI;rw[tN];by_cases e:c=w
 .subst e;simp
 .have l:(c==w)=false:=by simpa using e
  rw[l,aq e];cases xs.findIdx? (· ==w) with
  |none=>rfl
  |some j=>
   show((i+(j+1):Nat):Int)=((i+1+j:Nat):Int)
   omega
def VH {h:bQ} {cs:List Nat} (H:Hd h cs) {i c:Nat} {xs:List Nat} (l:cs.drop i=c::xs):∃hi:i<h.Types.length,h.Types[i].Code=e1 c/\c<18446744073709551616:=by
 have hi:=c7 l;have q:=H.length;refine⟨af,?_,?_⟩
 .rw[H.code,aX,bB l];rfl
 .exact H.lt c (aH (bB l))
section
variable {h:bQ} {cs:List Nat} (H:Hd h cs)
include H
theorem h353 {w:Nat} (G:w<18446744073709551616):∀(xs:List Nat) (i:Nat),cs.drop i=xs->Oe h.Types (e1 w) h.Types.length i=some (fnI xs w i):=by have L:=H.len;intro xs;induction xs with
 |nil=>intro i z;refine aaW ?_;rw[H.length,bp z];rfl
 |cons c xs I=>
  intro i z;refine aaW ?_;obtain⟨hi,D,q⟩:=VH H z;have l:f371 h.Types[i] (e1 w)=some (decide (c=w)):=by refine e371 ?_;rw[D,o31 q G];rfl
  have B:=H.length;rw[cond_pos (by rw[bF];omega),bR hi,l,ak,bl af,I (i+1) (aG z),Qi];by_cases e:c=w
  .rw[au e,cond_pos (by simpa using e)]
  .rw[aq e,cond_neg (by simpa using e)]
theorem o353 {w:Nat} (l:w<18446744073709551616):f353 h.Types (e1 w)=some (Gn cs w):=by refine e353 ?_;rw[<-Qj];exact h353 H l cs 0 rfl
theorem h354 {w:Nat} (D:w<18446744073709551616):∀(xs:List Nat) (i:Nat),cs.drop i=xs->Of (e1 w) i h=some (if fnI xs w i<0 then(0,false) else(fnI xs w i,true)):=by have I:=H.len;intro xs;induction xs with
 |nil=>intro i q;refine aaX ?_;rw[H.length,bp q];rfl
 |cons c xs G=>
  intro i q;refine aaX ?_;obtain⟨hi,B,l⟩:=VH H q;have z:=H.length;rw[cond_pos (by rw[bF];omega),bR hi,B,o57 l D,ak,bl af,G (i+1) (aG q),Qi];by_cases e:c=w
  .rw[au e,cond_pos (by simpa using e),aq af]
  .rw[aq e,cond_neg (by simpa using e)]
theorem o354 {w:Nat} (l:w<18446744073709551616):f354 h (e1 w)=some (Br cs w):=by refine e354 ?_;unfold Br;rw[<-Qj];exact h354 H l cs 0 rfl
variable (K:YU cs) {i j:Nat} (hi:i<cs.length) (hj:j<cs.length)
include hi
theorem o339 {j:Nat} (hj:j<cs.length):f339 h i j=some (sub (cs.getD j 0) (cs.getD i 0)):=by refine e339 ?_;have l:=H.length;rw[bR af,bR af,H.code,H.code,o63 (H.get hj) (H.get hi)];rfl
theorem o340 {j:Nat} (hj:j<cs.length):f340 h i j=some (sub (cs.getD j 0) (cs.getD i 0)):=by refine e340 ?_;have l:=H.length;rw[bR af,bR af,H.code,H.code,o65 (H.get hj) (H.get hi)];rfl
include K hj
theorem o335:f335 h i j=some (Br cs (cs.getD i 0&&&cs.getD j 0)):=by
 refine e335 ?_;have B:=H.length;have z:cs.getD i 0&&&cs.getD j 0<18446744073709551616:=jg jZ (H.get hi);rw[bR af,bR af,H.code,H.code,Ye (H.get hi) (H.get hj),ak];by_cases q:cs.getD i 0&&&cs.getD j 0=0
 .rw[q,cond_pos (by rfl)];unfold Br;rw[VB (λw=>K.nz 0 w rfl)];rfl
 .rw[cond_neg (by rw[iK];intro e;exact q (Di af)),o353 H z,ak];unfold Br;by_cases l:Gn cs (cs.getD i 0&&&cs.getD j 0)<0
  .rw[cond_pos (by simpa using l),au l]
  .rw[cond_neg (by simpa using l),aq l]
theorem o336:f336 h i j=some (Br cs (cs.getD i 0&&&cs.getD j 0)):=by refine e336 ?_;have q:=H.length;have l:cs.getD i 0&&&cs.getD j 0<18446744073709551616:=jg jZ (H.get hi);rw[bR af,bR af,H.code,H.code,o61 (H.get hi) (H.get hj),ak,o354 H l];rfl
end
def h355 {h:bQ} {l:List c8} (B:l.length<=1000) (f:Int):∀(xs:List c8) (i:Nat),l.drop i=xs->Og f l l.length i h=some (match xs.find? λx=>x.aS==f with|some x=>(x.Value,true)|none=>(0,false)):=by intro xs;induction xs with
 |nil=>intro i q;refine aaY ?_;rw[bp q];rfl
 |cons x xs w=>intro i q;refine aaY ?_;rw[aZ q,ai,aQ q,aY q af,w (i+1) (aG q),qV];cases z:x.aS==f<;>simp
def h356 {l:List c8} (B:l.length<=1000) (f:Int):∀(xs:List c8) (i:Nat),l.drop i=xs->Oh f l i=some (match xs.find? λx=>x.aS==f with|some x=>(x.Value,true)|none=>(0,false)):=by intro xs;induction xs with
 |nil=>intro i q;refine aaZ ?_;rw[bp q];rfl
 |cons x xs w=>intro i q;refine aaZ ?_;rw[aZ q,ai,aQ q,aQ q,aY q af,w (i+1) (aG q),qV];cases z:x.aS==f<;>rfl
def RP {d:List aA} {w j:Nat} {F:cK} (h:(pK d)[j]? =some F):(match(yz d w (pK d) 0).find? (λx=>x.aS==(j:Int)) with|some x=>(x.Value,true)|none=>(0,false))=(match inh d w F with|some c=>(Gn (tys d) c,true)|none=>(0,false)):=by have:=Yq (d:=d) (w:=w) (pK d) 0 j F h;rw[gv] at this;rw[this];cases inh d w F<;>rfl
section
variable {d:List aA} (O:Y0 d) {T:Nat} (hT:T<(tys d).length) {j:Nat} {F:cK} (hj:(pK d)[j]? =some F)
include O hT hj
theorem o355:f355 (uQ d) T j=some (match inh d ((tys d).getD T 0) F with|some c=>(Gn (tys d) c,true)|none=>(0,false)):=by obtain⟨l,q⟩:=hty hT;have z:=F5 (d:=d) (w:=(tys d).getD T 0) (pK d) 0;have w:=O.f64;refine e355 ?_;rw[bR l,q,<-RP hj];exact h355 (by show(yz _ _ _ _).length<=1000;omega) j _ 0 rfl
theorem o356:f356 (uQ d) T j=some (match inh d ((tys d).getD T 0) F with|some c=>(Gn (tys d) c,true)|none=>(0,false)):=by obtain⟨l,q⟩:=hty hT;have z:=F5 (d:=d) (w:=(tys d).getD T 0) (pK d) 0;have w:=O.f64;refine e356 ?_;rw[bR l,q,<-RP hj];exact h356 (by show(yz _ _ _ _).length<=1000;omega) j _ 0 rfl
end
