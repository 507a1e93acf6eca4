/- Layer 5. -/
import Derived.Test.YtbnlhmaaccgbjaaGreatDoorClMx
set_option linter.all false
namespace Go.Proofs.YtbnlhmaaccgbjaaGreatDoor.cl
open Go Go.AM
def Cc (c:UInt8):Bool:=decide (65<=c.toNat)&&decide (c.toNat<=90)
def vW (s:b9):Bool:=decide (1<=s.length)&&decide (s.length<=32)&& !oB (s.getD 0 0)&& !(s.getD 0 0).toNat==45&&s.all λc=>oB c||c.toNat==45||Cc c
def c166 (c:UInt8):f166 (c.toNat:Int)=some (Cc c):=by
 refine e166 ?_;by_cases h:65<=c.toNat
 .rw[cond_pos aH];simp only[Cc,h,zf,gF];congr 1;rw[p7];omega
 .rw[cond_neg aH];simp[Cc,h]
def c160t (c:UInt8):f160 (c.toNat:Int) true=some (oB c||c.toNat==45||Cc c):=by refine e160 ?_;rw[c159,aj,c166,aj];cases oB c with
 |true=>rfl
 |false=>
  by_cases h:c.toNat=45
  .rw[az,cond_pos aH];simp[h]
  .rw[az,cond_neg aH];cases Cc c<;>simp[h]
def h140t (s:b9) (l:s.length<=1073741824):∀(xs:b9) (i:Nat),s.drop i=xs->Lz s true i=some (xs.all λc=>oB c||c.toNat==45||Cc c):=by intro xs;induction xs with
 |nil=>intro i h;refine OT ?_;rw[bq h];rfl
 |cons x xs q=>intro i h;refine OT ?_;rw[aV h,ak,aM h,c160t,aj,aR h l,q (i+1) (aI h),jC];cases(oB x||x.toNat==45||Cc x)<;>rfl
def c372 (s:b9):f372 s=some (vW s):=by
 refine e372 ?_
 have:f140 s true=some (vW s):=by
  refine e140 ?_;by_cases l:1<=s.length
  .rw[cond_neg aH];by_cases q:s.length<=32
   .rw[cond_neg aH,show(0:Int)=((0:Nat):Int) from rfl,cO af,c159,aj,cO af,h140t s af s 0 rfl];have z:s.getD 0 0=s[0]:=by rw[bC,aK af];rfl
    unfold vW;rw[z];cases oB s[0] with
    |true=>simp[l,q]
    |false=>
     by_cases w:s[0].toNat=45
     .rw[az,cond_pos aH];simp[w]
     .rw[az,cond_neg aH];simp[l,q,w]
   .rw[cond_pos aH];simp[vW,q]
  .rw[cond_pos aH];simp[vW,l]
 rw[this];rfl
def Fz (d:List aC):Prop:=∀t∈d,t.bJ.length<=1048576
def val (t:aC) (F:b9):Option b9:=(t.bJ.find? λx=>x.bN==F).map (·.Value)
def h373 (t:aC) (F:b9) (q:t.bJ.length<=1048576):∀(xs:List dV) (i:Nat),t.bJ.drop i=xs->
  Qk F i t=some (match xs.find? λx=>x.bN==F with|some x=>(x.Value,true)|none=>([],false)):=by
 intro xs;induction xs with
 |nil=>intro i h;refine acF ?_;rw[bq h];rfl
 |cons x xs l=>intro i h;refine acF ?_;rw[aV h,ak,aM h,aM h,aR h af,l (i+1) (aI h),lZ];cases x.bN==F<;>rfl
def c373 (t:aC) (F:b9) (l:t.bJ.length<=1048576):f373 t F=some (match val t F with|some v=>(v,true)|none=>([],false)):=by refine e373 ((h373 t F l t.bJ 0 rfl).trans ?_);rw[val];cases t.bJ.find? λx=>x.bN==F<;>rfl
def aem {t:aC} {F v:b9} (h:val t F=some v):∃x∈t.bJ,x.bN=F/\x.Value=v:=by unfold val at h;obtain⟨x,l,rfl⟩:=cB.1 h;exact⟨x,nR l,by simpa using p6 l,rfl⟩
abbrev fns (t:aC):List b9:=t.bJ.map (·.bN)
def fal (d:List aC):List b9:=d.flatMap fns
def qB (d:List aC):List b9:=oK (fal d)
def h345b {d:List aC} {i:Nat} {t:aC} (q:d[i]? =some t) (F:t.bJ.length<=1048576) {r:List b9}:∀(xs:List dV) (k:Nat) (o:List b9),t.bJ.drop k=xs->o.length<=1072000000+k->
  LC d ((xs.map (·.bN)).foldl (λo s=>qS s o) o) (i+1:Nat)=some r->i<1000000->Qb d o i k=some r:=by
 intro xs;induction xs with
 |nil=>intro k o h z w l;refine acr ?_;rw[iX q,bq h,az,bP af];exact w
 |cons x xs B=>intro k o h z w l;refine acr ?_;have D:=eF h;have G:=nC x.bN o;rw[iX q,aV h,ak,iX q,aM h,c98 _ _ af,aj,aR h af];exact B (k+1) _ (aI h) af w l
def h345 {d:List aC} (I:d.length<=1000) (z:Fz d):∀(xs:List aC) (i:Nat) (o:List b9),d.drop i=xs->o.length<=1048576 *i->LC d o i=some ((fal xs).foldl (λo s=>qS s o) o):=by intro xs;induction xs with
 |nil=>intro i o h B;refine acq ?_;rw[bq h];rfl
 |cons t xs w=>
  intro i o h B;refine acq ?_;have H:=eF h;have D:=z t (aZ (bZ h));rw[aV h,ak];refine h345b (bZ h) D t.bJ 0 o rfl af ?_ af;have q:(((fns t)).foldl (λo s=>qS s o) o).length<=o.length+(fns t).length:=by
   have:∀(l o:List b9),(l.foldl (λo s=>qS s o) o).length<=o.length+l.length:=by intro l;induction l with
    |nil=>intro o;simp
    |cons a l w=>intro o;have F:=nC a o;have G:=w (qS a o);rw[gJ,bp];omega
   exact this _ _
  rw[bz] at q;rw[w (i+1) ((fns t).foldl (λo s=>qS s o) o) (aI h) af];unfold fal;rw[p8,List.foldl_append]
def c345 {d:List aC} (q:d.length<=1000) (l:Fz d):f345 d=some (qB d):=e345 (h345 q l d 0 [] rfl ai)
def U9 (w:List b9):List b9->List dV->Int
 |_,[]=>0
 |q,x::l=>if vW x.bN=false then 1 else if x.bN∈q then 4 else if x.Value∈w then U9 w (q++[x.bN]) l else 5
def r9 (l:List b9):List aC->Int
 |[]=>0
 |t::d=>if U9 l [] t.bJ=0 then r9 l d else U9 l [] t.bJ
def abA (F:List b9):∀(l:List dV) (q:List b9),U9 F q l=0↔(∀x∈l,vW x.bN=true/\x.Value∈F)/\(l.map (·.bN)).Nodup/\∀x∈l,x.bN∉q:=by intro l;induction l with
 |nil=>intro q;simp[U9]
 |cons x l I=>intro q;unfold U9;cases G:vW x.bN with
  |false=>simp[G]
  |true=>
   rw[au ai];by_cases B:x.bN∈q
   .rw[aB B];simp[B]
   .rw[au B];by_cases D:x.Value∈F
    .rw[aB D,I];constructor
     .rintro⟨a,b,c⟩;refine⟨λy w=> ?_,?_,λy w=> ?_⟩
      .rcases aJ.1 w with rfl|w
       .exact⟨G,D⟩
       .exact a y w
      .rw[bw,gC];refine⟨λH=> ?_,b⟩;obtain⟨y,w,e⟩:=aD.1 H;exact c y w (by rw[e];simp)
      .rcases aJ.1 w with rfl|w
       .exact B
       .exact λz=>c y w (by simp[z])
     .rintro⟨a,b,c⟩;rw[bw,gC] at b;refine⟨λy w=>a y (by simp[w]),b.2,λy w z=> ?_⟩;rcases bu.1 z with z|z
      .exact c y (by simp[w]) z
      .exact b.1 (aD.2 ⟨y,w,by simpa using z⟩)
    .rw[au D];constructor
     .intro h;cases h
     .rintro⟨a,_⟩;exact absurd (a x ai).2 D
def U8 (w:List b9):∀(d:List aC),r9 w d=0↔∀t∈d,(∀x∈t.bJ,vW x.bN=true/\x.Value∈w)/\(fns t).Nodup:=by intro d;induction d with
 |nil=>simp[r9]
 |cons t d B=>
  unfold r9;have z:=abA w t.bJ [];by_cases h:U9 w [] t.bJ=0
  .rw[aB h,B];obtain⟨a,b,_⟩:=z.1 h;constructor
   .intro l u q;rcases aJ.1 q with rfl|q
    .exact⟨a,b⟩
    .exact l u q
   .exact λl u q=>l u (by simp[q])
  .rw[au h];constructor
   .intro l;exact absurd l h
   .intro l;obtain⟨a,b⟩:=l t ai;exact absurd (z.2 ⟨a,b,λx _=>by simp⟩) h
def h346c {d:List aC} {all:List b9} (q:all.length<=1073741824) {i k:Nat} {l:List dV} (H:l.length<=1048576) (z:k<l.length) {r:Int}
  (F:(if l[k].Value∈all then LG d all i l (k+1:Nat) else some 5)=some r):∀(n m:Nat),k-m=n->m<=k->
  I7 d all i l k m=some (if l[k].bN∈((l.take k).drop m).map (·.bN) then 4 else r):=by
 intro n;induction n with
 |zero=>
  intro m B w
  have:m=k:=af
  subst this;refine XG ?_;rw[cond_neg ai,cO z,c37 _ _ q,aj];have e:(l.take m).drop m=[]:=by rw[List.drop_eq_nil_iff,fJ];omega
  rw[e,au ai,<-F,bP af];by_cases h:l[m].Value∈all
  .rw[aB h,cond_neg (by simpa using h)]
  .rw[au h,cond_pos (by simpa using h)]
 |succ n G=>
  intro m B w;have D:m<k:=af;refine XG ?_;rw[cond_pos aH,cO af,cO z,bP af,G (m+1) af af];have e:(l.take k).drop m=l[m]::(l.take k).drop (m+1):=by rw[iJ (by rw[fJ];omega),List.getElem_take]
  rw[e,bw];by_cases h:l[m].bN=l[k].bN
  .rw[cond_pos (by simpa using h),aB (by rw[h];simp)]
  .rw[cond_neg (by simpa using h)];simp only[aJ,c9 h,false_or]
def h346b {d:List aC} {all:List b9} (w:all.length<=1073741824) {i:Nat} (N:i<1000000) {l:List dV} (G:l.length<=1048576) {r:Int} (H:LF d all (i+1:Nat)=some r):∀(xs:List dV) (k:Nat),l.drop k=xs->
  LG d all i l k=some (if U9 all ((l.take k).map (·.bN)) xs=0 then r else U9 all ((l.take k).map (·.bN)) xs):=by
 intro xs;induction xs with
 |nil=>intro k h;refine acu ?_;rw[bq h,az,bP af,H];rfl
 |cons x xs K=>
  intro k h;refine acu ?_;have F:=eF h;have D:l[k]=x:=(bQ.1 (bZ h)).2;have B:(l.take k).map (·.bN)++[x.bN]=(l.take (k+1)).map (·.bN):=by rw[de,bZ h];simp
  rw[aV h,ak,aM h,c372,aj];unfold U9;cases L:vW x.bN with
  |false=>rfl
  |true=>
   rw[dx,az];rw[au (by simp:¬(true=false)),B];have I:=K (k+1) (aI h)
   rw[show(0:Int)=((0:Nat):Int) from rfl,h346c w G F (r:=if x.Value∈all then(if U9 all ((l.take (k+1)).map (·.bN)) xs=0 then r else U9 all ((l.take (k+1)).map (·.bN)) xs) else 5) (by
    rw[D];by_cases q:x.Value∈all
    .rw[aB q,aB q];exact I
    .rw[au q,au q]) _ 0 rfl af,p9,D]
   by_cases z:x.bN∈(l.take k).map (·.bN)
   .rw[aB z,aB z];rfl
   .rw[au z,au z];by_cases q:x.Value∈all
    .rw[aB q,aB q];rfl
    .rw[au q,au q];rfl
def h346 {d:List aC} (B:d.length<=1000) (q:Fz d) {all:List b9} (l:all.length<=1073741824):∀(xs:List aC) (i:Nat),d.drop i=xs->LF d all i=some (r9 all xs):=by intro xs;induction xs with
 |nil=>intro i h;refine acs ?_;rw[bq h];rfl
 |cons t xs z=>intro i h;refine acs ?_;have D:=eF h;have w:=q t (aZ (bZ h));rw[aV h,ak,aM h,show(0:Int)=((0:Nat):Int) from rfl,h346b l af w (z (i+1) (aI h)) t.bJ 0 rfl];rfl
def Zq {w ms:List b9} (h:∀x,x∈w↔x∈ms):∀(l:List dV) (q:List b9),U9 w q l=U9 ms q l:=by intro l;induction l with
 |nil=>intro _;rfl
 |cons x l z=>intro q;unfold U9;rw[z];simp only[h x.Value]
def R9 {l ms:List b9} (h:∀x,x∈l↔x∈ms):∀(d:List aC),r9 l d=r9 ms d:=by intro d;induction d with
 |nil=>rfl
 |cons t d q=>unfold r9;rw[q,Zq h]
def c346 {d:List aC} (q:d.length<=1000) (w:Fz d):f346 d=some (r9 (kH d) d):=by refine e346 ?_;have l:=qo (kH d);rw[bz] at l;rw[c52 d af,aj,show(0:Int)=((0:Nat):Int) from rfl,h346 q w af d 0 rfl,R9 (λx=>gH)]
end Go.Proofs.YtbnlhmaaccgbjaaGreatDoor.cl
namespace Go.Proofs.YtbnlhmaaccgbjaaGreatDoor.cl
open Go Go.AM
def xD (d:List aC) (F:b9):List b9:=(d.filter λt=>(val t F).isSome).map (·.Name)
def Gu {d:List aC} {F x:b9}:x∈xD d F↔∃t∈d,(val t F).isSome=true/\t.Name=x:=by unfold xD;grind
def G3 {d:List aC} {F x:b9} (h:x∈xD d F):x∈kH d:=by obtain⟨t,l,_,rfl⟩:=Gu.1 h;grind
def one:List b9->Option b9
 |[x]=>some x
 |_=>none
def adQ {l:List b9} {x:b9} (h:one l=some x):l=[x]:=by cases l with
 |nil=>cases h
 |cons y l=>cases l with
  |nil=>simp_all[one]
  |cons z l=>cases h
def eq_one {l:List b9} {u:b9} (D:l.Nodup) (q:∀x∈l,x=u) (w:u∈l):l=[u]:=by cases l with
 |nil=>cases w
 |cons y l=>have B:=q y ai;subst B;cases l with
  |nil=>rfl
  |cons z l=>simp_all
noncomputable def CQ (d:List aC) (F:b9):Option b9:=one (wh d (oK (xD d F)))
def SG {d:List aC} (A:Acc d) {F u:b9}:CQ d F=some u↔u∈xD d F/\∀v∈xD d F,Le d u v:=by
 have w:∀x,x∈oK ((oK (xD d F)).filter λs=>decide (s∈kH d))↔x∈xD d F:=by intro x;rw[gH,c4,gH];exact⟨λh=>h.1,λh=>⟨h,by simpa using G3 h⟩⟩
 have q:=mC ((oK (xD d F)).filter λs=>decide (s∈kH d));unfold CQ wh;generalize oK _=l at w q;constructor
 .intro h;have e:=adQ h;refine⟨?_,λv D=> ?_⟩
  .have:u∈l.filter (sd d l):=by rw[e];simp
   grind
  grind[Gt]
 .rintro⟨z,B⟩;have e:l.filter (sd d l)=[u]:=by
   refine eq_one (q.nodup.filter _) (λx G=> ?_) ?_
   .simp_all[Cx]
   .grind[Cx,le_antisymm]
  rw[e];rfl
def SH {d:List aC} (A:Acc d) {F u:b9} (h:CQ d F=some u):u∈kH d:=G3 ((SG A).1 h).1
def h357 {d:List aC} (O:Ok d) (B:Fz d) (F:b9):∀(xs:List aC) (i:Nat) (o:List b9),d.drop i=xs->o.length<=i->i<=d.length->
  LH d F o i=some (match one (wh d ((xD xs F).foldl (λo s=>qS s o) o)) with|some x=>(x,true)|none=>([],false)):=by
 have w:=O.len;intro xs;induction xs with
 |nil=>intro i o h D q;refine acz ?_;rw[bq h,c104 O.z O.acc o af];show _=some (match one (wh d o) with|some x=>(x,true)|none=>([],false));generalize wh d o=l;cases l with
  |nil=>rfl
  |cons x l=>cases l with
   |nil=>exact cO ai _
   |cons y l=>rfl
 |cons t xs z=>intro i o h D q;refine acz ?_;have H:=eF h;have G:=B t (aZ (bZ h));rw[aM h,c373 _ _ G,aj,aR h af];cases K:val t F with
  |none=>rw[z _ o (aI h) af af];simp_all[xD]
  |some v=>have I:=nC t.Name o;rw[aM h,c98 _ _ af,aj,z _ _ (aI h) af af];simp_all[xD]
def c357 {d:List aC} (O:Ok d) (l:Fz d) (F:b9):f357 d F=some (match CQ d F with|some x=>(x,true)|none=>([],false)):=
 e357 (h357 O l F d 0 _ rfl ai af)
def h358 {l:List fQ} (w:l.length<=1048576) (x:b9):∀(xs:List fQ) (i:Nat),l.drop i=xs->Qg l x i=some (jo (λc=>c.Name==x) xs i):=by intro xs;induction xs with
 |nil=>intro i h;refine acA ?_;rw[bq h];rfl
 |cons y xs q=>intro i h;refine acA ?_;rw[aV h,aM h,aR h af,q _ (aI h),jo];grind
def o358 {d:List aC} (O:Ok d) {x:b9} (q:x∈kH d):f358 (zG d) x=some (nu d x:Int):=by have l:=O.cL;rw[<-n9] at l;refine e358 ((h358 (l:=zG d) af x (zG d) 0 rfl).trans ?_);rw[(O.zW q).1]
def Ok.code_nu {d:List aC} (O:Ok d) {x:b9} (l:x∈kH d) (q:nu d x<(zG d).length):(zG d)[nu d x].Code=e1 (cwd d x):=by rw[O.cd.code,(O.zW l).2.2.1]
def Ok.nu_lt {d:List aC} (O:Ok d) {x:b9} (l:x∈kH d):nu d x<(zG d).length:=by rw[n9];exact(O.zW l).2.1
def comb (o:Option Nat) (c:Nat):Nat:=match o with
 |some a=>a&&&c
 |none=>c
noncomputable def CF (d:List aC) (w:Nat) (F:b9) (o:Option Nat) (t:aC):Option Nat:=match val t F with
 |some v=>if sub w (cwd d t.Name)=true then some (comb o (cwd d v)) else o
 |none=>o
noncomputable def inh (d:List aC) (w:Nat) (F:b9):Option Nat:=d.foldl (CF d w F) none
def Vd (d:List aC):Prop:=∀t∈d,∀x∈t.bJ,x.Value∈kH d
def Vd.val {d:List aC} (h:Vd d) {t:aC} (l:t∈d) {F v:b9} (q:val t F=some v):v∈kH d:=by obtain⟨x,w,_,rfl⟩:=aem q;exact h t l x w
def stp_in {d:List aC} (O:Ok d) (D:Vd d) {w:Nat} {F:b9}:∀(xs:List aC) (o:Option Nat),(∀t∈xs,t∈d)->(∀c,o=some c->c=0\/c∈tys d)->∀c,xs.foldl (CF d w F) o=some c->c=0\/c∈tys d:=by intro xs;induction xs with
 |nil=>simp
 |cons t xs N=>intro o B I c G;refine N _ (λu K=>B u (by simp[K])) (λc' l=> ?_) c G;unfold CF at l;cases z:val t F with
  |none=>simp_all
  |some v=>
   rw[z] at l;have H:=O.cwmem (D.val (B t ai) z);simp at l;split at l
   .cases o with
    |none=>simp_all[comb]
    |some a=>
     simp[comb] at l;rcases I a rfl with q|q
     .simp_all
     .by_cases L:a&&&cwd d v=0
      .omega
      .right;rw[<-l];exact O.Vn.cl a q _ H L
   simp_all
def inh_in {d:List aC} (O:Ok d) (l:Vd d) {w:Nat} {F:b9} {c:Nat} (h:inh d w F=some c):c=0\/c∈tys d:=
 stp_in O l d _ (λt h=>h) (λc h=>by cases h) c h
def Ok.ltmem {d:List aC} (O:Ok d) {c:Nat} (h:c∈tys d):c<18446744073709551616:=O.cd.lt c h
def h370 {d:List aC} (O:Ok d) (Q:Fz d) (L:Vd d) {T:Nat} (K:T<(tys d).length) (F:b9):∀(xs:List aC) (i:Nat) (o:Option Nat),d.drop i=xs->(∀c,o=some c->c<18446744073709551616)->
  GR d (zG d) T F o.isSome (e1 (o.getD ((tys d).getD 0 0))) i=some (e1 ((xs.foldl (CF d ((tys d).getD T 0) F) o).getD ((tys d).getD 0 0)),(xs.foldl (CF d ((tys d).getD T 0) F) o).isSome):=by
 have D:=O.len;intro xs;induction xs with
 |nil=>grind[acE,bq]
 |cons t xs B=>intro i o h G;refine acE ?_;have q:t∈d:=aZ (bZ h);have S:=Q t q;rw[aV h,ak,aM h,c373 _ _ S,aj,aR h af,gJ];cases z:val t F with
  |none=>
   have e:CF d ((tys d).getD T 0) F o t=o:=by unfold CF;rw[z]
   rw[cond_pos (by rfl),B (i+1) o (aI h) G,e]
  |some v=>have l:=L.val q z;have w:=Tb q;have H:=O.zW w;have R:=O.zW l;rw[cond_neg (by rfl),aM h,o358 O w,aj,o25 O.cd H.2.1 K,aj,H.2.2.1];unfold CF;rw[z];simp only;cases I:sub ((tys d).getD T 0) (cwd d t.Name) with
   |false=>rw[eM,ak,au ai];exact B (i+1) o (aI h) G
   |true=>
    rw[dx,az,aB rfl,o358 O l,aj,cO (O.nu_lt l),O.code_nu l _];have N:(o.getD ((tys d).getD 0 0))<18446744073709551616:=by cases o with
     |none=>exact O.lt O.Vn.pos
     |some a=>simp_all
    rw[o61 N (O.cwlt v),aj];have e:o.getD ((tys d).getD 0 0)&&&cwd d v=comb o (cwd d v):=by cases o with
     |some a=>rfl
     |none=>rw[Nat.and_comm];exact Yt.1 (O.Vn.top _ (O.cwmem l))
    rw[e];refine B _ (some (comb o _)) (aI h) (λc P=> ?_);grind[Nat.and_le_left]
def c370 {d:List aC} (O:Ok d) (w:Fz d) (q:Vd d) {T:Nat} (l:T<(tys d).length) (F:b9):f370 d (zG d) T F=some (e1 ((inh d ((tys d).getD T 0) F).getD ((tys d).getD 0 0)),(inh d ((tys d).getD T 0) F).isSome):=by
 have z:0<(zG d).length:=by rw[n9];exact O.Vn.pos
 refine e370 ?_;rw[show(0:Int)=((0:Nat)) from rfl,cO z,O.cd.code];exact h370 O w q l F d 0 none rfl (λc h=>by cases h)
noncomputable def CB (d:List aC) (l:List b9):Bool:=l.any λF=>(CQ d F).isNone
noncomputable def Dz (d:List aC) (l:List Nat):Bool:=l.any λw=>(qB d).any λF=>inh d w F==some 0
noncomputable def xK (d:List aC):Int:=
 if IG d≠0 then IG d else if(AU (qs d)).length>256 then 7 else if(qB d).length>64 then 7 else if r9 (kH d) d≠0 then r9 (kH d) d
 else if CB d (qB d)=true then 10 else if Dz d (tys d)=true then 11 else 0
def h318c {d:List aC} (O:Ok d) (z:Fz d) (w:Vd d) {T:Nat} (q:T<(tys d).length) {r:Int} (B:(qB d).length<=1000) (D:FG d (zG d) (qB d) (T+1:Nat)=some r):∀(xs:List b9) (i:Nat),(qB d).drop i=xs->
  FH d (zG d) (qB d) T i=some (if(xs.any λF=>inh d ((tys d).getD T 0) F==some 0)=true then 11 else r):=by
 have I:=O.cL;intro xs;induction xs with
 |nil=>intro i h;refine XE ?_;rw[bq h,az,bP af,D];rfl
 |cons F xs G=>intro i h;refine XE ?_;rw[aV h,aM h,c370 O z w q,aj,aR h af,G _ (aI h),qZ];cases H:inh d _ F with
  |none=>rfl
  |some c=>
   simp only[Em,ak];by_cases l:c=0
   .subst l;rfl
   .have:(some c==some 0)=false:=by simpa using l
    rw[this,kK,cond_neg (by grind[EH])]
def h318b {d:List aC} (O:Ok d) (B:Fz d) (z:Vd d) (l:(qB d).length<=1000):∀(xs:List Nat) (T:Nat),(tys d).drop T=xs->
  FG d (zG d) (qB d) T=some (if Dz d xs=true then 11 else 0):=by
 intro xs;induction xs with
 |nil=>intro T h;refine XD ?_;rw[n9,bq h];rfl
 |cons w xs D=>
  intro T h;refine XD ?_;have q:=eF h;have F:(tys d).getD T 0=w:=by rw[bC,bZ h];rfl
  rw[n9,aV h,ak];refine(h318c O B z q l (D _ (aI h)) _ 0 rfl).trans ?_;unfold Dz;grind
def h318a {d:List aC} (O:Ok d) (q:Fz d) (w:Vd d) (l:(qB d).length<=1000):∀(xs:List b9) (i:Nat),(qB d).drop i=xs->
  I6 d (zG d) (qB d) i=some (if CB d xs=true then 10 else if Dz d (tys d)=true then 11 else 0):=by
 intro xs;induction xs with
 |nil=>intro i h;refine XC ?_;rw[bq h,az];exact h318b O q w l _ 0 rfl
 |cons F xs z=>intro i h;refine XC ?_;rw[aV h,aM h,c357 O q,aR h af,z _ (aI h)];unfold CB;grind
def ok_of {d:List aC} (z:Sz d) (l:d.length<=64) (q:IG d=0) (w:¬(AU (qs d)).length>256):Ok d:=⟨z,Jw q,l,af⟩
def NW {d:List aC} (h:r9 (kH d) d=0):Vd d:=λt l x q=>(((U8 _ d).1 h t l).1 x q).2
def c318 {d:List aC} (z:Sz d) (l:d.length<=64) (B:Fz d):f318 d=some (xK d):=by
 refine e318 ?_;unfold xK;rw[c15 z l,aj];by_cases D:IG d=0
 .have q:¬(IG d≠0):=λh=>h D
  rw[au q,au q];by_cases w:(AU (qs d)).length>256
  .simp_all
  .rw[au w,au w,cond_neg ai,c345 af B,aj];have O:=ok_of z l D w;by_cases G:(qB d).length>64
   .grind
   .rw[au G,cond_neg (by grind),c346 af B,aj];by_cases F:r9 (kH d) d=0
    .rw[F,cond_neg ai];exact h318a O B (NW F) af _ 0 rfl
    grind
 grind
structure Ok5 (d:List aC):Prop where
 ok:Ok d
 fz:Fz d
 f64:(qB d).length<=64
 fd:r9 (kH d) d=0
 intro:∀F∈qB d,∃u,CQ d F=some u
 vals:∀w∈tys d,∀F∈qB d,inh d w F≠some 0
def KX {d:List aC} (z:Sz d) (l:d.length<=64) (K:Fz d) (h:xK d=0):Ok5 d/\IG d=0/\¬(AU (qs d)).length>256:=by
 unfold xK at h;by_cases B:IG d=0
 .by_cases D:(AU (qs d)).length>256
  .omega
  .by_cases N:(qB d).length>64
   .omega
   .by_cases G:r9 (kH d) d=0
    .by_cases H:CB d (qB d)=true
     .simp_all
     .by_cases I:Dz d (tys d)=true
      .simp_all
      .refine⟨⟨ok_of z l B D,K,by omega,G,λF q=> ?_,λw L F q e=> ?_⟩,B,D⟩
       .cases P:CQ d F with
        |some u=>simp
        |none=>exact absurd (kM.2 ⟨F,q,by simp_all⟩) H
       .exact I (kM.2 ⟨w,L,kM.2 ⟨F,q,by simp_all⟩⟩)
    omega
 omega
noncomputable def Mo (d:List aC) (F:b9):cU:=⟨F,(nu d ((CQ d F).getD []):Int)⟩
noncomputable def vP (d:List aC):List cU:=(qB d).map (Mo d)
def h320 {d:List aC} (O:Ok5 d):∀(xs:List b9) (i:Nat) (o:List cU),(qB d).drop i=xs->o.length<=i->P9 d (zG d) (qB d) i o=some (o++xs.map (Mo d),0):=by have q:=O.f64;intro xs;induction xs with
 |nil=>intro i o h w;refine acm ?_;grind
 |cons F xs z=>
  intro i o h w;refine acm ?_;have B:=eF h;obtain⟨u,l⟩:=O.intro F (aZ (bZ h))
  rw[aM h,c357 O.ok O.fz,aj,l,aM h,o358 O.ok (SH O.ok.acc l),aj,cC _ af ai af,aR h af,
   z _ _ (aI h) (by simp_all)]
  simp_all[Mo]
def c320 {d:List aC} (z:Sz d) (l:d.length<=64) (q:Fz d):f320 d=some (if xK d=0 then(vP d,0) else([],xK d)):=by
 refine e320 ?_;rw[c318 z l q,aj];by_cases h:xK d=0
 .obtain⟨O,w,B⟩:=KX z l q h;rw[aB h,cond_neg (by simpa using h),c15 z l,au (show¬(IG d≠0) from λh=>h w),au B,aj,c345 af q,aj];exact h320 O (qB d) 0 [] rfl ai
 .rw[au h,cond_pos (by simpa using h)]
noncomputable def xW (d:List aC) (w:Nat):List b9->Nat->List fV
 |[],_=>[]
 |F::l,k=>match inh d w F with
  |some c=>⟨(k:Int),Hz (tys d) c⟩::xW d w l (k+1)
  |none=>xW d w l (k+1)
noncomputable def L5 (d:List aC):List (List fV):=(tys d).map λw=>xW d w (qB d) 0
def HZ {d:List aC} {w:Nat}:∀(l:List b9) (k:Nat),(xW d w l k).length<=l.length:=by intro l;induction l with
 |nil=>intro k;simp[xW]
 |cons F l q=>intro k;have:=q (k+1);unfold xW;cases inh d w F<;>simp<;>omega
def h323b {d:List aC} (O:Ok5 d) {T:Nat} (B:T<(tys d).length) {o:List (List fV)} (I:o.length<=T) {r:List (List fV)×Int}:∀(xs:List b9) (i:Nat) (row:List fV),(qB d).drop i=xs->row.length<=i->
  LA d (zG d) (qB d) (T+1:Nat) (o++[row++xW d ((tys d).getD T 0) xs i])=some r->FI d (zG d) (qB d) T i o row=some r:=by
 have D:=O.f64;have H:=O.ok.cL;intro xs;induction xs with
 |nil=>intro i row h w l;refine XF ?_;rw[bq h,az,cC _ af ai af,bP af];rwa[xW,dP] at l
 |cons F xs z=>intro i row h w l;refine XF ?_;have G:=eF h;rw[aV h,ak,aM h,c370 O.ok O.fz (NW O.fd) B,aj,aR h af];unfold xW at l;cases q:inh d ((tys d).getD T 0) F with
  |none=>rw[q] at l;simp only[Option.isSome_none,az];exact z (i+1) row (aI h) af l
  |some c=>rw[q] at l;simp only[Em,rL,ak];rw[o19 O.ok.cd,aj,cC _ af ai af];refine z (i+1) _ (aI h) (by rw[cF];simp;omega) ?_;rw[eo];exact l
def h323 {d:List aC} (O:Ok5 d):∀(xs:List Nat) (T:Nat) (o:List (List fV)),(tys d).drop T=xs->o.length<=T->
  LA d (zG d) (qB d) T o=some (o++xs.map (λw=>xW d w (qB d) 0),0):=by
 intro xs;induction xs with
 |nil=>intro T o h l;refine acn ?_;rw[n9,bq h,az,di,dP]
 |cons w xs z=>
  intro T o h l;refine acn ?_;have q:(tys d).getD T 0=w:=by rw[bC,bZ h];rfl
  rw[n9,aV h,ak];refine h323b O (eF h) l (qB d) 0 [] rfl ai ?_;rw[z (T+1) _ (aI h) (by rw[cF];simp;omega),q,eo];rfl
def c323 {d:List aC} (z:Sz d) (l:d.length<=64) (q:Fz d):f323 d=some (if xK d=0 then(L5 d,0) else([],xK d)):=by
 refine e323 ?_;rw[c318 z l q,aj];by_cases h:xK d=0
 .obtain⟨O,w,B⟩:=KX z l q h;rw[aB h,cond_neg (by simpa using h),c15 z l,au (show¬(IG d≠0) from λh=>h w),au B,aj,c345 af q,aj];exact h323 O (tys d) 0 [] rfl ai
 .rw[au h,cond_pos (by simpa using h)]
end Go.Proofs.YtbnlhmaaccgbjaaGreatDoor.cl
namespace Go.Proofs.YtbnlhmaaccgbjaaGreatDoor.cl
open Go Go.AM
def J9 {d:List aC}:(vP d).length=(qB d).length:=by simp[vP]
def aaf {d:List aC}:(L5 d).length=(tys d).length:=by simp[L5]
end Go.Proofs.YtbnlhmaaccgbjaaGreatDoor.cl
namespace Go.Proofs.YtbnlhmaaccgbjaaGreatDoor.cl
open Go Go.AM
def M7 {d:List aC} {w:Nat} {F:b9}:∀(xs:List aC) (o:Option Nat),
  ((xs.foldl (CF d w F) o).isSome=true↔o.isSome=true\/∃t∈xs,(val t F).isSome=true/\sub w (cwd d t.Name)=true)/\
  ∀c,xs.foldl (CF d w F) o=some c->∀i,c.testBit i=true↔(∀a,o=some a->a.testBit i=true)/\∀t∈xs,∀v,val t F=some v->sub w (cwd d t.Name)=true->(cwd d v).testBit i=true:=by
 intro xs;induction xs with
 |nil=>intro o;refine⟨ai,λc G i=> ?_⟩;rw[List.foldl_nil] at G;subst G;simp
 |cons t xs Q=>intro o;obtain⟨I,K⟩:=Q (CF d w F o t);rw[gJ];cases H:val t F with
  |none=>
   have e:CF d w F o t=o:=by unfold CF;rw[H]
   rw[e] at I K⊢;constructor
   .rw[I];constructor
    .rintro (h|⟨u,q,h⟩)
     .exact .inl h
     .exact .inr ⟨u,by simp[q],h⟩
    .rintro (h|⟨u,q,h⟩)
     .exact .inl h
     .rcases aJ.1 q with rfl|q
      .rw[H] at h;simp at h
      .exact .inr ⟨u,q,h⟩
   .intro c G i;rw[K c G i];constructor
    .rintro⟨a,b⟩;refine⟨a,λu q v l B=> ?_⟩;rcases aJ.1 q with rfl|q
     .rw[H] at l;cases l
     .exact b u q v l B
    .rintro⟨a,b⟩;exact⟨a,λu q v l B=>b u (by simp[q]) v l B⟩
  |some v=>cases B:sub w (cwd d t.Name) with
   |false=>
    have e:CF d w F o t=o:=by unfold CF;rw[H,B];simp
    rw[e] at I K⊢;constructor
    .rw[I];constructor
     .rintro (h|⟨u,q,h⟩)
      .exact .inl h
      .exact .inr ⟨u,by simp[q],h⟩
     .rintro (h|⟨u,q,h⟩)
      .exact .inl h
      .rcases aJ.1 q with rfl|q
       .rw[B] at h;simp at h
       .exact .inr ⟨u,q,h⟩
    .intro c G i;rw[K c G i];constructor
     .rintro⟨a,b⟩;refine⟨a,λu q v l z=> ?_⟩;rcases aJ.1 q with rfl|q
      .rw[B] at z;cases z
      .exact b u q v l z
     .rintro⟨a,b⟩;exact⟨a,λu q v l z=>b u (by simp[q]) v l z⟩
   |true=>
    have e:CF d w F o t=some (comb o (cwd d v)):=by unfold CF;rw[H,B];cases o<;>rfl
    rw[e] at I K⊢;have D:∀i,(comb o (cwd d v)).testBit i=true↔(∀a,o=some a->a.testBit i=true)/\(cwd d v).testBit i=true:=by intro i;cases o with
     |none=>simp[comb]
     |some a=>simp[comb,lX]
    constructor
    .rw[I];constructor
     .intro _;exact .inr ⟨t,by simp,by rw[H];rfl,B⟩
     .intro _;exact .inl rfl
    .intro c G i;rw[K c G i];constructor
     .rintro⟨a,b⟩;have P:=(D i).1 (a _ rfl);refine⟨P.1,λu q N l z=> ?_⟩;rcases aJ.1 q with rfl|q
      .rw[H] at l;injection l with l;rw[<-l];exact P.2
      .exact b u q N l z
     .rintro⟨a,b⟩;refine⟨λx L=> ?_,λu q N l z=>b u (by simp[q]) N l z⟩;injection L with L;rw[<-L];exact(D i).2 ⟨a,b t ai v H B⟩
def SA {d:List aC} {w:Nat} {F:b9}:(inh d w F).isSome=true↔∃t∈d,(val t F).isSome=true/\sub w (cwd d t.Name)=true:=by have:=(M7 (d:=d) (w:=w) (F:=F) d none).1;unfold inh;rw[this];simp
def Xy {d:List aC} {w:Nat} {F:b9} {c:Nat} (h:inh d w F=some c) (i:Nat):c.testBit i=true↔∀t∈d,∀v,val t F=some v->sub w (cwd d t.Name)=true->(cwd d v).testBit i=true:=by rw[(M7 (d:=d) (w:=w) (F:=F) d none).2 c h i];exact⟨λh=>h.2,λh=>⟨λa l=>(by cases l),h⟩⟩
def ab1 {d:List aC} {w v:Nat} {F:b9} {a b:Nat} (B:sub v w=true) (l:inh d w F=some a) (q:inh d v F=some b):sub b a=true:=by rw[kz];intro i z;rw[Xy l];intro t D x H G;exact(Xy q i).1 z t D x H (yN B G)
def inh_up {d:List aC} {w v:Nat} {F:b9} (z:sub v w=true) (h:(inh d w F).isSome=true):(inh d v F).isSome=true:=by rw[SA] at h⊢;obtain⟨t,B,l,q⟩:=h;exact⟨t,B,l,yN z q⟩
def ZH {d:List aC} (A:Acc d) {w:Nat} {F u:b9} (h:CQ d F=some u):(inh d w F).isSome=sub w (cwd d u):=by
 obtain⟨D,G⟩:=(SG A).1 h;rw[je,SA];constructor
 .rintro⟨t,q,z,l⟩;have B:t.Name∈xD d F:=Gu.2 ⟨t,q,z,rfl⟩;exact yN l ((Ot (G3 B)).2 (G _ B))
 .intro l;obtain⟨t,q,z,rfl⟩:=Gu.1 D;exact⟨t,q,z,l⟩
def Ok5.num {d:List aC} (O:Ok5 d) {w:Nat} (H:w∈tys d) {F:b9} (G:F∈qB d) {c:Nat} (h:inh d w F=some c):∃q:Nat,Hz (tys d) c=(q:Int)/\q<(tys d).length/\(tys d).getD q 0=c:=by
 rcases inh_in O.ok (NW O.fd) h with l|l
 .rw[l] at h;exact absurd h (O.vals w H F G)
 .obtain⟨q,z,B,D⟩:=OF l;exact⟨q,D,z,B⟩
def rowF_ge {d:List aC} {w:Nat}:∀(l:List b9) (k:Nat),∀x∈xW d w l k,(k:Int)<=x.bN:=by intro l;induction l with
 |nil=>intro k x q;cases q
 |cons F l z=>intro k x q;unfold xW at q;cases h:inh d w F with
  |none=>rw[h] at q;have:=z (k+1) x q;omega
  |some c=>
   rw[h] at q;rcases aJ.1 q with rfl|q
   .simp
   .have:=z (k+1) x q;omega
def Z7 {d:List aC} {w:Nat}:∀(l:List b9) (k j:Nat) (F:b9),l[j]? =some F->(xW d w l k).find? (λx=>x.bN==((k+j:Nat):Int))=(inh d w F).map λc=>(⟨((k+j:Nat):Int),Hz (tys d) c⟩:fV):=by intro l;induction l with
 |nil=>intro k j F h;simp at h
 |cons G l H=>intro k j F h;unfold xW;cases j with
  |zero=>
   have:G=F:=by simpa using h
   subst this;cases B:inh d w G with
   |none=>simp only[A9];rw[za];intro x D;have:=rowF_ge l (k+1) x D;simp only[jf];omega
   |some c=>simp only[lZ,mb,beq_self_eq_true,dX]
  |succ j=>
   have z:l[j]? =some F:=by simpa using h
   have q:=H (k+1) j F z;have e:k+1+j=k+(j+1):=af;rw[e] at q;cases B:inh d w G with
   |none=>exact q
   |some c=>simp only[lZ];rw[show((k:Int)==((k+(j+1):Nat):Int))=false by rw[kN];omega];exact q
def aen {d:List aC} {T:Nat} (l:T<(tys d).length):∃h:T<(L5 d).length,(L5 d)[T]=xW d ((tys d).getD T 0) (qB d) 0:=by refine⟨by rw[aaf];exact l,?_⟩;unfold L5;rw[kQ];congr 1;rw[bC,aK l];rfl
def Zr {d:List aC} {j:Nat} {F:b9} (h:(qB d)[j]? =some F):∃l:j<(vP d).length,(vP d)[j]=Mo d F:=by obtain⟨l,e⟩:=bQ.1 h;refine⟨by rw[J9];exact l,?_⟩;unfold vP;rw[kQ,e]
end Go.Proofs.YtbnlhmaaccgbjaaGreatDoor.cl
namespace Go.Proofs.YtbnlhmaaccgbjaaGreatDoor.cl
open Go Go.AM
noncomputable def adI (d:List aC) (i:Nat):b9:=((dM d).getD i ([],0)).1
noncomputable def WI (d:List aC) (i:Nat):fO:=⟨adI d i,e1 ((tys d).getD i 0),cast (ad8 (tys d) i),xW d ((tys d).getD i 0) (qB d) 0⟩
noncomputable def se (d:List aC):aN:=⟨(List.range (tys d).length).map (WI d),vP d⟩
def cds_at {d:List aC} {i:Nat} (h:i<(zG d).length):(zG d)[i]=⟨adI d i,e1 ((tys d).getD i 0)⟩:=by
 have l:i<(dM d).length:=by simpa[zG] using h
 have e:(zG d)[i]? =some ⟨adI d i,e1 ((tys d).getD i 0)⟩:=by unfold zG adI tys;rw[dN,aK l,bC,aK l,bC,dN,aK l];rfl
 rw[aK h] at e;exact eT e
def Wo {l:Type} (g:Nat->l) (i:Nat):(List.range i).map g++[g i]=(List.range (i+1)).map g:=by rw[kP,cn];rfl
section
variable {d:List aC} (O:Ok5 d)
include O
theorem h332 (D:f320 d=some (vP d,0)) {I:aN} {b:List cU}:∀(n i:Nat),(tys d).length-i=n->i<=(tys d).length->
  Qa d (L5 d) (zG d) i I ((List.range i).map (WI d)) b=some (se d,0):=by
 have K:=O.ok.cL;have F:=n9 (d:=d);intro n;induction n with
 |zero=>
  intro i G w;refine acp ?_
  have:i=(tys d).length:=af
  subst this;rw[cond_neg (by rw[aT];omega),D];rfl
 |succ n H=>intro i G w;refine acp ?_;have q:i<(tys d).length:=af;have l:i<(zG d).length:=af;obtain⟨z,B⟩:=aen q;rw[cond_pos (by rw[bB];omega),cO l,cO l,o28 O.ok.cd q,aj,cO z,B,cds_at l,cC _ (by rw[bz,List.length_range];omega) ai af,bP af];have:=Wo (WI d) i;unfold WI at this⊢;rw[this];exact H (i+1) af af
end
def c332 {d:List aC} (z:Sz d) (l:d.length<=64) (q:Fz d):f332 d=some (if xK d=0 then(se d,0) else(⟨[],[]⟩,xK d)):=by
 refine e332 ?_;rw[c323 z l q,aj,c15 z l,aj];by_cases h:xK d=0
 .obtain⟨O,B,D⟩:=KX z l q h;have w:=c320 z l q;rw[aB h] at w;rw[aB h,aB h,au (by simpa using B),au D,cond_neg ai];exact h332 O w _ 0 rfl af
 .rw[au h,cond_pos (by simpa using h),au h]
def Dl:List b9->List dV
 |a::b::l=>⟨a,b⟩::Dl l
 |_=>[]
def Uf {i:Nat} (h:i<4611686018427387904):IntKind.wrap .i64 ((i:Int)+2)=((i+2:Nat):Int):=by rw[oy af af];omega
def Yc {l:List b9} (I:l.length<=1000) {name:b9} {o6:aC} {sup a c:List b9} {b:List dV}:∀(n:Nat) (xs:List b9),xs.length<=n->∀(i:Nat) (w:List dV),l.drop i=xs->w.length<=i->i<=2000->
  Qc l i o6 name sup a b c w=some ⟨name,sup,w++Dl xs⟩/\I8 l i o6 name a b c w=some ⟨name,c,w++Dl xs⟩:=by
 intro n;induction n with
 |zero=>
  intro xs D i w h z G
  have:xs=[]:=nU.1 af
  subst this;have:=mT h;constructor
  .refine OU ?_;rw[bP af,cond_neg (by rw[aT];omega)];simp[Dl]
  .refine IM ?_;rw[bP af,cond_neg (by rw[aT];omega)];simp[Dl]
 |succ n H=>intro xs D i w h z G;match xs,h,D with
  |[],h,_=>
   have:=mT h;constructor
   .refine OU ?_;rw[bP af,cond_neg (by rw[aT];omega)];simp[Dl]
   .refine IM ?_;rw[bP af,cond_neg (by rw[aT];omega)];simp[Dl]
  |[x],h,_=>
   have:=mT (aI h);constructor
   .refine OU ?_;rw[bP af,cond_neg (by rw[aT];omega)];simp[Dl]
   .refine IM ?_;rw[bP af,cond_neg (by rw[aT];omega)];simp[Dl]
  |x::y::r,h,D=>
   have B:=aI h;have:=eF B;have F:=aI B;simp only[bp] at D;obtain⟨p,q⟩:=H r af (i+2) (w++[⟨x,y⟩]) F (by rw[cF];simp;omega) af;rw[eo] at p q;constructor
   .refine OU ?_;rw[bP af,cond_pos (by rw[bB];omega),aM h,aM B,cC _ af ai af,Uf af];exact p
   .refine IM ?_;rw[bP af,cond_pos (by rw[bB];omega),aM h,aM B,cC _ af ai af,Uf af];exact q
def Gb (name super:b9) (l:List b9) (w:l.length<=1000):f351 name super l=some ⟨name,if super=[] then[] else[super],Dl l⟩:=by
 refine e351 ?_;by_cases h:super=[]
 .subst h;have:=(Yc w (name:=name) (o6:=⟨[],[],[]⟩) (sup:=[]) (a:=[]) (c:=[]) (b:=[]) _ l (aU _) 0 [] rfl ai af).2;have q:(!(([]:List UInt8)==([]:List UInt8)))=false:=rfl;rw[dK] at this;rw[cond_neg q,aB rfl];exact this
 .have:=(Yc w (name:=name) (o6:=⟨[],[],[]⟩) (sup:=[super]) (a:=[]) (c:=[]) (b:=[]) _ l (aU _) 0 [] rfl ai af).1;have q:(!(super==([]:List UInt8)))=true:=by simpa using h
  rw[dK] at this;rw[cond_pos q,au h];exact this
def AS:List aC:=[
 ⟨[116,111,112],[],[]⟩,
 ⟨[108,105,115,116],[[116,111,112]],[]⟩,
 ⟨[99,111,110,115],[[108,105,115,116]],[⟨[70,73,82,83,84],[116,111,112]⟩,⟨[82,69,83,84],[108,105,115,116]⟩]⟩,
 ⟨[110,117,108,108],[[108,105,115,116]],[]⟩,
 ⟨[100,108,105,115,116],[[116,111,112]],[⟨[76,73,83,84],[108,105,115,116]⟩,⟨[76,65,83,84],[108,105,115,116]⟩]⟩,
 ⟨[105,110,100,101,120],[[116,111,112]],[]⟩,
 ⟨[104,97,110,100,108,101],[[105,110,100,101,120]],[]⟩,
 ⟨[101,118,101,110,116],[[105,110,100,101,120]],[]⟩,
 ⟨[101,110,116,105,116,121],[[105,110,100,101,120]],[]⟩,
 ⟨[114,101,108],[[116,111,112]],[⟨[76,65,66,69,76],[104,97,110,100,108,101]⟩]⟩,
 ⟨[113,101,113],[[116,111,112]],[⟨[72,73,71,72],[104,97,110,100,108,101]⟩,⟨[76,79,87],[104,97,110,100,108,101]⟩]⟩,
 ⟨[115,101,109],[[116,111,112]],[⟨[84,79,80],[104,97,110,100,108,101]⟩,⟨[73,78,68,69,88],[105,110,100,101,120]⟩,⟨[82,69,76,83],[100,108,105,115,116]⟩,⟨[67,79,78,83],[100,108,105,115,116]⟩]⟩,
 ⟨[115,105,103,110],[[116,111,112]],[⟨[83,69,77],[115,101,109]⟩,⟨[65,82,71,83],[108,105,115,116]⟩]⟩]
def c327:f327=some AS:=by refine e327 ?_;rw[Gb _ _ _ (by decide),Gb _ _ _ (by decide),Gb _ _ _ (by decide),Gb _ _ _ (by decide),Gb _ _ _ (by decide),Gb _ _ _ (by decide),Gb _ _ _ (by decide),Gb _ _ _ (by decide),Gb _ _ _ (by decide),Gb _ _ _ (by decide),Gb _ _ _ (by decide),Gb _ _ _ (by decide),Gb _ _ _ (by decide)];simp only[aj];rfl
