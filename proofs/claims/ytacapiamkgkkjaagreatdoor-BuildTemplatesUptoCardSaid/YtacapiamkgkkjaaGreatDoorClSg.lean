/- Accepted declarations. -/
import Derived.Test.YtacapiamkgkkjaaGreatDoorClPd
set_option linter.all false
namespace Go.Proofs.YtacapiamkgkkjaaGreatDoor.cl
open Go Go.AM
def o31 {w v:Nat} (q:w<18446744073709551616) (l:v<18446744073709551616):f31 (e1 w) (e1 v)=some (decide (w=v)):=by
 refine e31 ?_;rw[o63 q l,ak,o63 l q,ak];by_cases h:w=v
 .subst h;rw[zc];simp
 .cases z:sub w v with
  |false=>simp[h]
  |true=>cases B:sub v w with
   |false=>simp[h]
   |true=>exact absurd (tf z B) h
def acs {d:List aB} (A:Acc d) (q:d.length<=64):Fm (qR d) (Ba (qR d))/\∀w∈Ba (qR d),Dn d w:=by
 have l:(qR d).length<=256:=by have:=Je (d:=d);omega
 obtain⟨F,_,_⟩:=E6 (Cw A) O6 l
 exact⟨F,F.gen (Dn d) (λc z=>by
  obtain⟨x,_,rfl⟩:=aG.1 z
  exact ab9 x) (λa b=>dn_and)⟩
def T8 {d:List aB} (A:Acc d) (l:d.length<=64):((dR d).map (·.1)).Nodup:=by obtain⟨F,D⟩:=acs A l;have z:=(Cy (d:=d)).2.map (·.1);rw[fF] at z;refine z.nodup_iff.2 (N8 F.nd λx q y w h=> ?_);exact nmW_inj A l (R5 F (DT l) x q) (R5 F (DT l) y w) (F.nz x q) (F.nz y w) (D x q) (D y w) h
def aeK {D:Type} {l:List D} (h:l.Nodup) {i k:Nat} (z:i<l.length) (B:k<l.length) (e:l[i]=l[k]):i=k:=by
 have w:=js.1 h;rcases sG i k with q|q|q
 .exact absurd e (w i k z B q)
 .exact q
 .exact absurd e.symm (w k i B z q)
structure Ok (d:List aB):Prop where
 z:Sz d
 acc:Acc d
 len:d.length<=64
 le:(Ba (qR d)).length<=256
noncomputable def tys (d:List aB):List Nat:=(dR d).map (·.2)
noncomputable def z1 (d:List aB):List fT:=(dR d).map Jb
def oF {d:List aB}:(z1 d).length=(tys d).length:=by simp[tys,z1]
def Ok.V6 {d:List aB} (h:Ok d):abr (tys d):=cl.V6 h.acc h.len h.le
def Ok.cd {d:List aB} (h:Ok d):Cd (z1 d) (tys d):=cd_ents h.acc h.len h.le
def Ok.cM {d:List aB} (h:Ok d):(tys d).length<=256:=by have:=(Cx (d:=d)).length_eq;rw[tys,this];exact h.le
def Ok.lt {d:List aB} (h:Ok d) {i:Nat} (l:i<(tys d).length):(tys d).getD i 0<18446744073709551616:=h.cd.get l
noncomputable abbrev cwd (d:List aB) (x:bV):Nat:=cw d (iZ d) x
def Ok.cwlt {d:List aB} (h:Ok d) (x:bV):cwd d x<18446744073709551616:=ab7 (by have:=pQ (d:=d);have:=h.len;omega)
def ab6 {d:List aB} (A:Acc d) (l:d.length<=64) {x:bV} (w:x∈kZ d):cwd d x∈Ba (qR d):=by obtain⟨F,D⟩:=acs A l;obtain⟨e,q⟩:=F.pre;rw[q];refine dx _ (aG.2 ⟨x,?_,rfl⟩);exact gH.2 w
def Ok.cwmem {d:List aB} (h:Ok d) {x:bV} (l:x∈kZ d):cwd d x∈tys d:=(Cx (d:=d)).mem_iff.2 (ab6 h.acc h.len l)
def Ok.entmem {d:List aB} (h:Ok d) {x:bV} (l:x∈kZ d):((x,cwd d x):El)∈dR d:=by
 refine(Cy (d:=d)).2.mem_iff.2 (aG.2 ⟨cwd d x,ab6 h.acc h.len l,?_⟩)
 have:nmW d (cwd d x)=x:=by rw[WO h.acc h.len (ab9 x),YM h.acc h.len l];rfl
 show(nmW d (cwd d x),cwd d x)=_;rw[this]
noncomputable def nu (d:List aB) (x:bV):Nat:=(jy (λc:fT=>c.Name==x) (z1 d) 0).toNat
def Ok.An {d:List aB} (h:Ok d) {x:bV} (R:x∈kZ d):jy (λc:fT=>c.Name==x) (z1 d) 0=(nu d x:Int)/\nu d x<(tys d).length/\(tys d).getD (nu d x) 0=cwd d x/\∃S:nu d x<(z1 d).length,(z1 d)[nu d x].Name=x:=by
 have l:=h.entmem R;obtain⟨j,F,e⟩:=Yh (λc:fT=>c.Name==x) (z1 d) 0 ⟨Jb (x,cwd d x),aG.2 ⟨_,l,rfl⟩,by simp[Jb]⟩;have B:jy (λc:fT=>c.Name==x) (z1 d) 0=(j:Int):=by have:=e.1;simpa using this
 have K:nu d x=j:=by unfold nu;rw[B];simp
 obtain⟨_,c,N,w⟩:=ac1 _ _ _ _ B;obtain⟨p,Q,z⟩:=iY.1 l;have q:j<(dR d).length:=by simpa[z1] using F
 rw[vo,z1,dV,aM q] at N;have D:(dR d)[j].1=x:=by have P:c=Jb (dR d)[j]:=(fc N).symm;rw[P] at w;exact jo.1 w
 have I:=T8 h.acc h.len;have H:j=p:=by
  have G:j<((dR d).map (·.1)).length:=by simpa using q
  have L:p<((dR d).map (·.1)).length:=by simpa using Q
  refine aeK I G L ?_;rw[lH,lH,D,z]
 rw[K];refine⟨B,by rw[<-oF];exact F,?_,F,by simpa using e.2.1⟩;subst H;show((dR d).map (·.2)).getD j 0=_;rw[bD,dV,aM q,z];rfl
def T7 {d:List aB} {t:aB} (h:t∈d):t.Name∈kZ d:=aG.2 ⟨t,h,rfl⟩
end Go.Proofs.YtacapiamkgkkjaaGreatDoor.cl
namespace Go.Proofs.YtacapiamkgkkjaaGreatDoor.cl
open Go Go.AM
def Ck (c:UInt8):Bool:=decide (65<=c.toNat)&&decide (c.toNat<=90)
def wG (s:bV):Bool:=decide (1<=s.length)&&decide (s.length<=32)&& !pe (s.getD 0 0)&& !(s.getD 0 0).toNat==45&&s.all λc=>pe c||c.toNat==45||Ck c
def c166 (c:UInt8):f166 (c.toNat:Int)=some (Ck c):=by
 refine e166 ?_;by_cases h:65<=c.toNat
 .rw[cond_pos aH];simp only[Ck,h,zF,gM];congr 1;rw[qv];omega
 .rw[cond_neg aH];simp[Ck,h]
def c160t (c:UInt8):f160 (c.toNat:Int) true=some (pe c||c.toNat==45||Ck c):=by refine e160 ?_;rw[c159,ak,c166,ak];cases pe c with
 |true=>rfl
 |false=>
  by_cases h:c.toNat=45
  .rw[au,cond_pos aH];simp[h]
  .rw[au,cond_neg aH];cases Ck c<;>simp[h]
def h140t (s:bV) (l:s.length<=1073741824):∀(xs:bV) (i:Nat),s.drop i=xs->L8 s true i=some (xs.all λc=>pe c||c.toNat==45||Ck c):=by intro xs;induction xs with
 |nil=>intro i h;refine Pz ?_;rw[bg h];rfl
 |cons x xs q=>intro i h;refine Pz ?_;rw[aR h,aj,aK h,c160t,ak,aN h l,q (i+1) (aI h),jG];cases(pe x||x.toNat==45||Ck x)<;>rfl
def c372 (s:bV):f372 s=some (wG s):=by
 refine e372 ?_
 have:f140 s true=some (wG s):=by
  refine e140 ?_;by_cases l:1<=s.length
  .rw[cond_neg aH];by_cases q:s.length<=32
   .rw[cond_neg aH,show(0:Int)=((0:Nat):Int) from rfl,cR af,c159,ak,cR af,h140t s af s 0 rfl];have z:s.getD 0 0=s[0]:=by rw[bD,aM af];rfl
    unfold wG;rw[z];cases pe s[0] with
    |true=>simp[l,q]
    |false=>
     by_cases w:s[0].toNat=45
     .rw[au,cond_pos aH];simp[w]
     .rw[au,cond_neg aH];simp[l,q,w]
   .rw[cond_pos aH];simp[wG,q]
  .rw[cond_pos aH];simp[wG,l]
 rw[this];rfl
def Fz (d:List aB):Prop:=∀t∈d,t.bG.length<=1048576
def val (t:aB) (F:bV):Option bV:=(t.bG.find? λx=>x.bP==F).map (·.Value)
def h373 (t:aB) (F:bV) (q:t.bG.length<=1048576):∀(xs:List er) (i:Nat),t.bG.drop i=xs->
  Ri F i t=some (match xs.find? λx=>x.bP==F with|some x=>(x.Value,true)|none=>([],false)):=by
 intro xs;induction xs with
 |nil=>intro i h;refine adB ?_;rw[bg h];rfl
 |cons x xs l=>intro i h;refine adB ?_;rw[aR h,aj,aK h,aK h,aN h af,l (i+1) (aI h),mL];cases x.bP==F<;>rfl
def c373 (t:aB) (F:bV) (l:t.bG.length<=1048576):f373 t F=some (match val t F with|some v=>(v,true)|none=>([],false)):=by refine e373 ((h373 t F l t.bG 0 rfl).trans ?_);rw[val];cases t.bG.find? λx=>x.bP==F<;>rfl
def afw {t:aB} {F v:bV} (h:val t F=some v):∃x∈t.bG,x.bP=F/\x.Value=v:=by unfold val at h;obtain⟨x,l,rfl⟩:=cu.1 h;exact⟨x,oq l,by simpa using qt l,rfl⟩
abbrev fns (t:aB):List bV:=t.bG.map (·.bP)
def fal (d:List aB):List bV:=d.flatMap fns
def rf (d:List aB):List bV:=pI (fal d)
def h345b {d:List aB} {i:Nat} {t:aB} (q:d[i]? =some t) (F:t.bG.length<=1048576) {r:List bV}:∀(xs:List er) (k:Nat) (o:List bV),t.bG.drop k=xs->o.length<=1072000000+k->
  Mb d ((xs.map (·.bP)).foldl (λo s=>rP s o) o) (i+1:Nat)=some r->i<1000000->QY d o i k=some r:=by
 intro xs;induction xs with
 |nil=>intro k o h z w l;refine adp ?_;rw[jd q,bg h,au,bJ af];exact w
 |cons x xs B=>intro k o h z w l;refine adp ?_;have D:=eM h;have G:=nY x.bP o;rw[jd q,aR h,aj,jd q,aK h,c98 _ _ af,ak,aN h af];exact B (k+1) _ (aI h) af w l
def h345 {d:List aB} (I:d.length<=1000) (z:Fz d):∀(xs:List aB) (i:Nat) (o:List bV),d.drop i=xs->o.length<=1048576 *i->Mb d o i=some ((fal xs).foldl (λo s=>rP s o) o):=by intro xs;induction xs with
 |nil=>intro i o h B;refine ado ?_;rw[bg h];rfl
 |cons t xs w=>
  intro i o h B;refine ado ?_;have H:=eM h;have D:=z t (aP (bU h));rw[aR h,aj];refine h345b (bU h) D t.bG 0 o rfl af ?_ af;have q:(((fns t)).foldl (λo s=>rP s o) o).length<=o.length+(fns t).length:=by
   have:∀(l o:List bV),(l.foldl (λo s=>rP s o) o).length<=o.length+l.length:=by intro l;induction l with
    |nil=>intro o;simp
    |cons a l w=>intro o;have F:=nY a o;have G:=w (rP a o);rw[gA,bA];omega
   exact this _ _
  rw[bI] at q;rw[w (i+1) ((fns t).foldl (λo s=>rP s o) o) (aI h) af];unfold fal;rw[qx,List.foldl_append]
def c345 {d:List aB} (q:d.length<=1000) (l:Fz d):f345 d=some (rf d):=e345 (h345 q l d 0 [] rfl ai)
def VR (w:List bV):List bV->List er->Int
 |_,[]=>0
 |q,x::l=>if wG x.bP=false then 1 else if x.bP∈q then 4 else if x.Value∈w then VR w (q++[x.bP]) l else 5
def sO (l:List bV):List aB->Int
 |[]=>0
 |t::d=>if VR l [] t.bG=0 then sO l d else VR l [] t.bG
def acu (F:List bV):∀(l:List er) (q:List bV),VR F q l=0↔(∀x∈l,wG x.bP=true/\x.Value∈F)/\(l.map (·.bP)).Nodup/\∀x∈l,x.bP∉q:=by intro l;induction l with
 |nil=>intro q;simp[VR]
 |cons x l I=>intro q;unfold VR;cases G:wG x.bP with
  |false=>simp[G]
  |true=>
   rw[aA ai];by_cases B:x.bP∈q
   .rw[aC B];simp[B]
   .rw[aA B];by_cases D:x.Value∈F
    .rw[aC D,I];constructor
     .rintro⟨a,b,c⟩;refine⟨λy w=> ?_,?_,λy w=> ?_⟩
      .rcases aJ.1 w with rfl|w
       .exact⟨G,D⟩
       .exact a y w
      .rw[bM,gF];refine⟨λH=> ?_,b⟩;obtain⟨y,w,e⟩:=aG.1 H;exact c y w (by rw[e];simp)
      .rcases aJ.1 w with rfl|w
       .exact B
       .exact λz=>c y w (by simp[z])
     .rintro⟨a,b,c⟩;rw[bM,gF] at b;refine⟨λy w=>a y (by simp[w]),b.2,λy w z=> ?_⟩;rcases bf.1 z with z|z
      .exact c y (by simp[w]) z
      .exact b.1 (aG.2 ⟨y,w,by simpa using z⟩)
    .rw[aA D];constructor
     .intro h;cases h
     .rintro⟨a,_⟩;exact absurd (a x ai).2 D
def VQ (w:List bV):∀(d:List aB),sO w d=0↔∀t∈d,(∀x∈t.bG,wG x.bP=true/\x.Value∈w)/\(fns t).Nodup:=by intro d;induction d with
 |nil=>simp[sO]
 |cons t d B=>
  unfold sO;have z:=acu w t.bG [];by_cases h:VR w [] t.bG=0
  .rw[aC h,B];obtain⟨a,b,_⟩:=z.1 h;constructor
   .intro l u q;rcases aJ.1 q with rfl|q
    .exact⟨a,b⟩
    .exact l u q
   .exact λl u q=>l u (by simp[q])
  .rw[aA h];constructor
   .intro l;exact absurd l h
   .intro l;obtain⟨a,b⟩:=l t ai;exact absurd (z.2 ⟨a,b,λx _=>by simp⟩) h
def h346c {d:List aB} {all:List bV} (q:all.length<=1073741824) {i k:Nat} {l:List er} (H:l.length<=1048576) (z:k<l.length) {r:Int}
  (F:(if l[k].Value∈all then Md d all i l (k+1:Nat) else some 5)=some r):∀(n m:Nat),k-m=n->m<=k->
  JD d all i l k m=some (if l[k].bP∈((l.take k).drop m).map (·.bP) then 4 else r):=by
 intro n;induction n with
 |zero=>
  intro m B w
  have:m=k:=af
  subst this;refine Yp ?_;rw[cond_neg ai,cR z,c37 _ _ q,ak];have e:(l.take m).drop m=[]:=by rw[List.drop_eq_nil_iff,dL];omega
  rw[e,aA ai,<-F,bJ af];by_cases h:l[m].Value∈all
  .rw[aC h,cond_neg (by simpa using h)]
  .rw[aA h,cond_pos (by simpa using h)]
 |succ n G=>
  intro m B w;have D:m<k:=af;refine Yp ?_;rw[cond_pos aH,cR af,cR z,bJ af,G (m+1) af af];have e:(l.take k).drop m=l[m]::(l.take k).drop (m+1):=by rw[jY (by rw[dL];omega),List.getElem_take]
  rw[e,bM];by_cases h:l[m].bP=l[k].bP
  .rw[cond_pos (by simpa using h),aC (by rw[h];simp)]
  .rw[cond_neg (by simpa using h)];simp only[aJ,cU h,false_or]
def h346b {d:List aB} {all:List bV} (w:all.length<=1073741824) {i:Nat} (N:i<1000000) {l:List er} (G:l.length<=1048576) {r:Int} (H:Mc d all (i+1:Nat)=some r):∀(xs:List er) (k:Nat),l.drop k=xs->
  Md d all i l k=some (if VR all ((l.take k).map (·.bP)) xs=0 then r else VR all ((l.take k).map (·.bP)) xs):=by
 intro xs;induction xs with
 |nil=>intro k h;refine adr ?_;rw[bg h,au,bJ af,H];rfl
 |cons x xs K=>
  intro k h;refine adr ?_;have F:=eM h;have D:l[k]=x:=(bu.1 (bU h)).2;have B:(l.take k).map (·.bP)++[x.bP]=(l.take (k+1)).map (·.bP):=by rw[dy,bU h];simp
  rw[aR h,aj,aK h,c372,ak];unfold VR;cases L:wG x.bP with
  |false=>rfl
  |true=>
   rw[dr,au];rw[aA (by simp:¬(true=false)),B];have I:=K (k+1) (aI h)
   rw[show(0:Int)=((0:Nat):Int) from rfl,h346c w G F (r:=if x.Value∈all then(if VR all ((l.take (k+1)).map (·.bP)) xs=0 then r else VR all ((l.take (k+1)).map (·.bP)) xs) else 5) (by
    rw[D];by_cases q:x.Value∈all
    .rw[aC q,aC q];exact I
    .rw[aA q,aA q]) _ 0 rfl af,qy,D]
   by_cases z:x.bP∈(l.take k).map (·.bP)
   .rw[aC z,aC z];rfl
   .rw[aA z,aA z];by_cases q:x.Value∈all
    .rw[aC q,aC q];rfl
    .rw[aA q,aA q];rfl
def h346 {d:List aB} (B:d.length<=1000) (q:Fz d) {all:List bV} (l:all.length<=1073741824):∀(xs:List aB) (i:Nat),d.drop i=xs->Mc d all i=some (sO all xs):=by intro xs;induction xs with
 |nil=>intro i h;refine adq ?_;rw[bg h];rfl
 |cons t xs z=>intro i h;refine adq ?_;have D:=eM h;have w:=q t (aP (bU h));rw[aR h,aj,aK h,show(0:Int)=((0:Nat):Int) from rfl,h346b l af w (z (i+1) (aI h)) t.bG 0 rfl];rfl
def aac {w ms:List bV} (h:∀x,x∈w↔x∈ms):∀(l:List er) (q:List bV),VR w q l=VR ms q l:=by intro l;induction l with
 |nil=>intro _;rfl
 |cons x l z=>intro q;unfold VR;rw[z];simp only[h x.Value]
def S4 {l ms:List bV} (h:∀x,x∈l↔x∈ms):∀(d:List aB),sO l d=sO ms d:=by intro d;induction d with
 |nil=>rfl
 |cons t d q=>unfold sO;rw[q,aac h]
def c346 {d:List aB} (q:d.length<=1000) (w:Fz d):f346 d=some (sO (kZ d) d):=by refine e346 ?_;have l:=qM (kZ d);rw[bI] at l;rw[c52 d af,ak,show(0:Int)=((0:Nat):Int) from rfl,h346 q w af d 0 rfl,S4 (λx=>gH)]
end Go.Proofs.YtacapiamkgkkjaaGreatDoor.cl
namespace Go.Proofs.YtacapiamkgkkjaaGreatDoor.cl
open Go Go.AM
def xY (d:List aB) (F:bV):List bV:=(d.filter λt=>(val t F).isSome).map (·.Name)
def GQ {d:List aB} {F x:bV}:x∈xY d F↔∃t∈d,(val t F).isSome=true/\t.Name=x:=by unfold xY;grind
def Hw {d:List aB} {F x:bV} (h:x∈xY d F):x∈kZ d:=by obtain⟨t,l,_,rfl⟩:=GQ.1 h;grind
def one:List bV->Option bV
 |[x]=>some x
 |_=>none
def aeS {l:List bV} {x:bV} (h:one l=some x):l=[x]:=by cases l with
 |nil=>cases h
 |cons y l=>cases l with
  |nil=>simp_all[one]
  |cons z l=>cases h
def eq_one {l:List bV} {u:bV} (D:l.Nodup) (q:∀x∈l,x=u) (w:u∈l):l=[u]:=by cases l with
 |nil=>cases w
 |cons y l=>have B:=q y ai;subst B;cases l with
  |nil=>rfl
  |cons z l=>simp_all
noncomputable def CY (d:List aB) (F:bV):Option bV:=one (wL d (pI (xY d F)))
def TB {d:List aB} (A:Acc d) {F u:bV}:CY d F=some u↔u∈xY d F/\∀v∈xY d F,Le d u v:=by
 have w:∀x,x∈pI ((pI (xY d F)).filter λs=>decide (s∈kZ d))↔x∈xY d F:=by intro x;rw[gH,dw,gH];exact⟨λh=>h.1,λh=>⟨h,by simpa using Hw h⟩⟩
 have q:=mX ((pI (xY d F)).filter λs=>decide (s∈kZ d));unfold CY wL;generalize pI _=l at w q;constructor
 .intro h;have e:=aeS h;refine⟨?_,λv D=> ?_⟩
  .have:u∈l.filter (sP d l):=by rw[e];simp
   grind
  grind[GN]
 .rintro⟨z,B⟩;have e:l.filter (sP d l)=[u]:=by
   refine eq_one (q.nodup.filter _) (λx G=> ?_) ?_
   .simp_all[CB]
   .grind[CB,le_antisymm]
  rw[e];rfl
def TC {d:List aB} (A:Acc d) {F u:bV} (h:CY d F=some u):u∈kZ d:=Hw ((TB A).1 h).1
def h357 {d:List aB} (O:Ok d) (B:Fz d) (F:bV):∀(xs:List aB) (i:Nat) (o:List bV),d.drop i=xs->o.length<=i->i<=d.length->
  Me d F o i=some (match one (wL d ((xY xs F).foldl (λo s=>rP s o) o)) with|some x=>(x,true)|none=>([],false)):=by
 have w:=O.len;intro xs;induction xs with
 |nil=>intro i o h D q;refine adv ?_;rw[bg h,c104 O.z O.acc o af];show _=some (match one (wL d o) with|some x=>(x,true)|none=>([],false));generalize wL d o=l;cases l with
  |nil=>rfl
  |cons x l=>cases l with
   |nil=>exact cR ai _
   |cons y l=>rfl
 |cons t xs z=>intro i o h D q;refine adv ?_;have H:=eM h;have G:=B t (aP (bU h));rw[aK h,c373 _ _ G,ak,aN h af];cases K:val t F with
  |none=>rw[z _ o (aI h) af af];simp_all[xY]
  |some v=>have I:=nY t.Name o;rw[aK h,c98 _ _ af,ak,z _ _ (aI h) af af];simp_all[xY]
def c357 {d:List aB} (O:Ok d) (l:Fz d) (F:bV):f357 d F=some (match CY d F with|some x=>(x,true)|none=>([],false)):=
 e357 (h357 O l F d 0 _ rfl ai af)
def h358 {l:List fT} (w:l.length<=1048576) (x:bV):∀(xs:List fT) (i:Nat),l.drop i=xs->Re l x i=some (jy (λc=>c.Name==x) xs i):=by intro xs;induction xs with
 |nil=>intro i h;refine adw ?_;rw[bg h];rfl
 |cons y xs q=>intro i h;refine adw ?_;rw[aR h,aK h,aN h af,q _ (aI h),jy];grind
def o358 {d:List aB} (O:Ok d) {x:bV} (q:x∈kZ d):f358 (z1 d) x=some (nu d x:Int):=by have l:=O.cM;rw[<-oF] at l;refine e358 ((h358 (l:=z1 d) af x (z1 d) 0 rfl).trans ?_);rw[(O.An q).1]
def Ok.code_nu {d:List aB} (O:Ok d) {x:bV} (l:x∈kZ d) (q:nu d x<(z1 d).length):(z1 d)[nu d x].Code=e1 (cwd d x):=by rw[O.cd.code,(O.An l).2.2.1]
def Ok.nu_lt {d:List aB} (O:Ok d) {x:bV} (l:x∈kZ d):nu d x<(z1 d).length:=by rw[oF];exact(O.An l).2.1
def comb (o:Option Nat) (c:Nat):Nat:=match o with
 |some a=>a&&&c
 |none=>c
noncomputable def DG (d:List aB) (w:Nat) (F:bV) (o:Option Nat) (t:aB):Option Nat:=match val t F with
 |some v=>if sub w (cwd d t.Name)=true then some (comb o (cwd d v)) else o
 |none=>o
noncomputable def inh (d:List aB) (w:Nat) (F:bV):Option Nat:=d.foldl (DG d w F) none
def Vd (d:List aB):Prop:=∀t∈d,∀x∈t.bG,x.Value∈kZ d
def Vd.val {d:List aB} (h:Vd d) {t:aB} (l:t∈d) {F v:bV} (q:val t F=some v):v∈kZ d:=by obtain⟨x,w,_,rfl⟩:=afw q;exact h t l x w
def stp_in {d:List aB} (O:Ok d) (D:Vd d) {w:Nat} {F:bV}:∀(xs:List aB) (o:Option Nat),(∀t∈xs,t∈d)->(∀c,o=some c->c=0\/c∈tys d)->∀c,xs.foldl (DG d w F) o=some c->c=0\/c∈tys d:=by intro xs;induction xs with
 |nil=>simp
 |cons t xs N=>intro o B I c G;refine N _ (λu K=>B u (by simp[K])) (λc' l=> ?_) c G;unfold DG at l;cases z:val t F with
  |none=>simp_all
  |some v=>
   rw[z] at l;have H:=O.cwmem (D.val (B t ai) z);simp at l;split at l
   .cases o with
    |none=>simp_all[comb]
    |some a=>
     simp[comb] at l;rcases I a rfl with q|q
     .simp_all
     .by_cases L:a&&&cwd d v=0
      .omega
      .right;rw[<-l];exact O.V6.cl a q _ H L
   simp_all
def inh_in {d:List aB} (O:Ok d) (l:Vd d) {w:Nat} {F:bV} {c:Nat} (h:inh d w F=some c):c=0\/c∈tys d:=
 stp_in O l d _ (λt h=>h) (λc h=>by cases h) c h
def Ok.ltmem {d:List aB} (O:Ok d) {c:Nat} (h:c∈tys d):c<18446744073709551616:=O.cd.lt c h
def h370 {d:List aB} (O:Ok d) (Q:Fz d) (L:Vd d) {T:Nat} (K:T<(tys d).length) (F:bV):∀(xs:List aB) (i:Nat) (o:Option Nat),d.drop i=xs->(∀c,o=some c->c<18446744073709551616)->
  Hh d (z1 d) T F o.isSome (e1 (o.getD ((tys d).getD 0 0))) i=some (e1 ((xs.foldl (DG d ((tys d).getD T 0) F) o).getD ((tys d).getD 0 0)),(xs.foldl (DG d ((tys d).getD T 0) F) o).isSome):=by
 have D:=O.len;intro xs;induction xs with
 |nil=>grind[adA,bg]
 |cons t xs B=>intro i o h G;refine adA ?_;have q:t∈d:=aP (bU h);have S:=Q t q;rw[aR h,aj,aK h,c373 _ _ S,ak,aN h af,gA];cases z:val t F with
  |none=>
   have e:DG d ((tys d).getD T 0) F o t=o:=by unfold DG;rw[z]
   rw[cond_pos (by rfl),B (i+1) o (aI h) G,e]
  |some v=>have l:=L.val q z;have w:=T7 q;have H:=O.An w;have R:=O.An l;rw[cond_neg (by rfl),aK h,o358 O w,ak,o25 O.cd H.2.1 K,ak,H.2.2.1];unfold DG;rw[z];simp only;cases I:sub ((tys d).getD T 0) (cwd d t.Name) with
   |false=>rw[fE,aj,aA ai];exact B (i+1) o (aI h) G
   |true=>
    rw[dr,au,aC rfl,o358 O l,ak,cR (O.nu_lt l),O.code_nu l _];have N:(o.getD ((tys d).getD 0 0))<18446744073709551616:=by cases o with
     |none=>exact O.lt O.V6.pos
     |some a=>simp_all
    rw[o61 N (O.cwlt v),ak];have e:o.getD ((tys d).getD 0 0)&&&cwd d v=comb o (cwd d v):=by cases o with
     |some a=>rfl
     |none=>rw[Nat.and_comm];exact Zc.1 (O.V6.top _ (O.cwmem l))
    rw[e];refine B _ (some (comb o _)) (aI h) (λc P=> ?_);grind[Nat.and_le_left]
def c370 {d:List aB} (O:Ok d) (w:Fz d) (q:Vd d) {T:Nat} (l:T<(tys d).length) (F:bV):f370 d (z1 d) T F=some (e1 ((inh d ((tys d).getD T 0) F).getD ((tys d).getD 0 0)),(inh d ((tys d).getD T 0) F).isSome):=by
 have z:0<(z1 d).length:=by rw[oF];exact O.V6.pos
 refine e370 ?_;rw[show(0:Int)=((0:Nat)) from rfl,cR z,O.cd.code];exact h370 O w q l F d 0 none rfl (λc h=>by cases h)
noncomputable def CE (d:List aB) (l:List bV):Bool:=l.any λF=>(CY d F).isNone
noncomputable def DO (d:List aB) (l:List Nat):Bool:=l.any λw=>(rf d).any λF=>inh d w F==some 0
noncomputable def yb (d:List aB):Int:=
 if Jd d≠0 then Jd d else if(Ba (qR d)).length>256 then 7 else if(rf d).length>64 then 7 else if sO (kZ d) d≠0 then sO (kZ d) d
 else if CE d (rf d)=true then 10 else if DO d (tys d)=true then 11 else 0
def h318c {d:List aB} (O:Ok d) (z:Fz d) (w:Vd d) {T:Nat} (q:T<(tys d).length) {r:Int} (B:(rf d).length<=1000) (D:FU d (z1 d) (rf d) (T+1:Nat)=some r):∀(xs:List bV) (i:Nat),(rf d).drop i=xs->
  FV d (z1 d) (rf d) T i=some (if(xs.any λF=>inh d ((tys d).getD T 0) F==some 0)=true then 11 else r):=by
 have I:=O.cM;intro xs;induction xs with
 |nil=>intro i h;refine Yn ?_;rw[bg h,au,bJ af,D];rfl
 |cons F xs G=>intro i h;refine Yn ?_;rw[aR h,aK h,c370 O z w q,ak,aN h af,G _ (aI h),uj];cases H:inh d _ F with
  |none=>rfl
  |some c=>
   simp only[EF,aj];by_cases l:c=0
   .subst l;rfl
   .have:(some c==some 0)=false:=by simpa using l
    rw[this,lz,cond_neg (by grind[EY])]
def h318b {d:List aB} (O:Ok d) (B:Fz d) (z:Vd d) (l:(rf d).length<=1000):∀(xs:List Nat) (T:Nat),(tys d).drop T=xs->
  FU d (z1 d) (rf d) T=some (if DO d xs=true then 11 else 0):=by
 intro xs;induction xs with
 |nil=>intro T h;refine Ym ?_;rw[oF,bg h];rfl
 |cons w xs D=>
  intro T h;refine Ym ?_;have q:=eM h;have F:(tys d).getD T 0=w:=by rw[bD,bU h];rfl
  rw[oF,aR h,aj];refine(h318c O B z q l (D _ (aI h)) _ 0 rfl).trans ?_;unfold DO;grind
def h318a {d:List aB} (O:Ok d) (q:Fz d) (w:Vd d) (l:(rf d).length<=1000):∀(xs:List bV) (i:Nat),(rf d).drop i=xs->
  JC d (z1 d) (rf d) i=some (if CE d xs=true then 10 else if DO d (tys d)=true then 11 else 0):=by
 intro xs;induction xs with
 |nil=>intro i h;refine Yl ?_;rw[bg h,au];exact h318b O q w l _ 0 rfl
 |cons F xs z=>intro i h;refine Yl ?_;rw[aR h,aK h,c357 O q,aN h af,z _ (aI h)];unfold CE;grind
def ok_of {d:List aB} (z:Sz d) (l:d.length<=64) (q:Jd d=0) (w:¬(Ba (qR d)).length>256):Ok d:=⟨z,JZ q,l,af⟩
def OA {d:List aB} (h:sO (kZ d) d=0):Vd d:=λt l x q=>(((VQ _ d).1 h t l).1 x q).2
def c318 {d:List aB} (z:Sz d) (l:d.length<=64) (B:Fz d):f318 d=some (yb d):=by
 refine e318 ?_;unfold yb;rw[c15 z l,ak];by_cases D:Jd d=0
 .have q:¬(Jd d≠0):=λh=>h D
  rw[aA q,aA q];by_cases w:(Ba (qR d)).length>256
  .simp_all
  .rw[aA w,aA w,cond_neg ai,c345 af B,ak];have O:=ok_of z l D w;by_cases G:(rf d).length>64
   .grind
   .rw[aA G,cond_neg (by grind),c346 af B,ak];by_cases F:sO (kZ d) d=0
    .rw[F,cond_neg ai];exact h318a O B (OA F) af _ 0 rfl
    grind
 grind
structure Ok5 (d:List aB):Prop where
 ok:Ok d
 fz:Fz d
 f64:(rf d).length<=64
 fd:sO (kZ d) d=0
 intro:∀F∈rf d,∃u,CY d F=some u
 vals:∀w∈tys d,∀F∈rf d,inh d w F≠some 0
def Lv {d:List aB} (z:Sz d) (l:d.length<=64) (K:Fz d) (h:yb d=0):Ok5 d/\Jd d=0/\¬(Ba (qR d)).length>256:=by
 unfold yb at h;by_cases B:Jd d=0
 .by_cases D:(Ba (qR d)).length>256
  .omega
  .by_cases N:(rf d).length>64
   .omega
   .by_cases G:sO (kZ d) d=0
    .by_cases H:CE d (rf d)=true
     .simp_all
     .by_cases I:DO d (tys d)=true
      .simp_all
      .refine⟨⟨ok_of z l B D,K,by omega,G,λF q=> ?_,λw L F q e=> ?_⟩,B,D⟩
       .cases P:CY d F with
        |some u=>simp
        |none=>exact absurd (lD.2 ⟨F,q,by simp_all⟩) H
       .exact I (lD.2 ⟨w,L,lD.2 ⟨F,q,by simp_all⟩⟩)
    omega
 omega
noncomputable def MV (d:List aB) (F:bV):dg:=⟨F,(nu d ((CY d F).getD []):Int)⟩
noncomputable def wz (d:List aB):List dg:=(rf d).map (MV d)
def h320 {d:List aB} (O:Ok5 d):∀(xs:List bV) (i:Nat) (o:List dg),(rf d).drop i=xs->o.length<=i->QW d (z1 d) (rf d) i o=some (o++xs.map (MV d),0):=by have q:=O.f64;intro xs;induction xs with
 |nil=>intro i o h w;refine adk ?_;grind
 |cons F xs z=>
  intro i o h w;refine adk ?_;have B:=eM h;obtain⟨u,l⟩:=O.intro F (aP (bU h))
  rw[aK h,c357 O.ok O.fz,ak,l,aK h,o358 O.ok (TC O.ok.acc l),ak,cF _ af ai af,aN h af,
   z _ _ (aI h) (by simp_all)]
  simp_all[MV]
def c320 {d:List aB} (z:Sz d) (l:d.length<=64) (q:Fz d):f320 d=some (if yb d=0 then(wz d,0) else([],yb d)):=by
 refine e320 ?_;rw[c318 z l q,ak];by_cases h:yb d=0
 .obtain⟨O,w,B⟩:=Lv z l q h;rw[aC h,cond_neg (by simpa using h),c15 z l,aA (show¬(Jd d≠0) from λh=>h w),aA B,ak,c345 af q,ak];exact h320 O (rf d) 0 [] rfl ai
 .rw[aA h,cond_pos (by simpa using h)]
noncomputable def yt (d:List aB) (w:Nat):List bV->Nat->List gi
 |[],_=>[]
 |F::l,k=>match inh d w F with
  |some c=>⟨(k:Int),H9 (tys d) c⟩::yt d w l (k+1)
  |none=>yt d w l (k+1)
noncomputable def MC (d:List aB):List (List gi):=(tys d).map λw=>yt d w (rf d) 0
def II {d:List aB} {w:Nat}:∀(l:List bV) (k:Nat),(yt d w l k).length<=l.length:=by intro l;induction l with
 |nil=>intro k;simp[yt]
 |cons F l q=>intro k;have:=q (k+1);unfold yt;cases inh d w F<;>simp<;>omega
def h323b {d:List aB} (O:Ok5 d) {T:Nat} (B:T<(tys d).length) {o:List (List gi)} (I:o.length<=T) {r:List (List gi)×Int}:∀(xs:List bV) (i:Nat) (row:List gi),(rf d).drop i=xs->row.length<=i->
  L9 d (z1 d) (rf d) (T+1:Nat) (o++[row++yt d ((tys d).getD T 0) xs i])=some r->FW d (z1 d) (rf d) T i o row=some r:=by
 have D:=O.f64;have H:=O.ok.cM;intro xs;induction xs with
 |nil=>intro i row h w l;refine Yo ?_;rw[bg h,au,cF _ af ai af,bJ af];rwa[yt,eP] at l
 |cons F xs z=>intro i row h w l;refine Yo ?_;have G:=eM h;rw[aR h,aj,aK h,c370 O.ok O.fz (OA O.fd) B,ak,aN h af];unfold yt at l;cases q:inh d ((tys d).getD T 0) F with
  |none=>rw[q] at l;simp only[Option.isSome_none,au];exact z (i+1) row (aI h) af l
  |some c=>rw[q] at l;simp only[EF,su,aj];rw[o19 O.ok.cd,ak,cF _ af ai af];refine z (i+1) _ (aI h) (by rw[bR];simp;omega) ?_;rw[dz];exact l
def h323 {d:List aB} (O:Ok5 d):∀(xs:List Nat) (T:Nat) (o:List (List gi)),(tys d).drop T=xs->o.length<=T->
  L9 d (z1 d) (rf d) T o=some (o++xs.map (λw=>yt d w (rf d) 0),0):=by
 intro xs;induction xs with
 |nil=>intro T o h l;refine adl ?_;rw[oF,bg h,au,fN,eP]
 |cons w xs z=>
  intro T o h l;refine adl ?_;have q:(tys d).getD T 0=w:=by rw[bD,bU h];rfl
  rw[oF,aR h,aj];refine h323b O (eM h) l (rf d) 0 [] rfl ai ?_;rw[z (T+1) _ (aI h) (by rw[bR];simp;omega),q,dz];rfl
def c323 {d:List aB} (z:Sz d) (l:d.length<=64) (q:Fz d):f323 d=some (if yb d=0 then(MC d,0) else([],yb d)):=by
 refine e323 ?_;rw[c318 z l q,ak];by_cases h:yb d=0
 .obtain⟨O,w,B⟩:=Lv z l q h;rw[aC h,cond_neg (by simpa using h),c15 z l,aA (show¬(Jd d≠0) from λh=>h w),aA B,ak,c345 af q,ak];exact h323 O (tys d) 0 [] rfl ai
 .rw[aA h,cond_pos (by simpa using h)]
end Go.Proofs.YtacapiamkgkkjaaGreatDoor.cl
namespace Go.AM
end Go.AM
namespace Go.Proofs.YtacapiamkgkkjaaGreatDoor.cl
open Go Go.AM
def K8 (o:List bV) (x:bV):uz (p6 o) x true=p6 (o++[x]):=(P0 o x).symm
end Go.Proofs.YtacapiamkgkkjaaGreatDoor.cl
namespace Go.Proofs.YtacapiamkgkkjaaGreatDoor.cl
open Go Go.AM
def KE {d:List aB}:(wz d).length=(rf d).length:=by simp[wz]
def aa3 {d:List aB}:(MC d).length=(tys d).length:=by simp[MC]
end Go.Proofs.YtacapiamkgkkjaaGreatDoor.cl
namespace Go.Proofs.YtacapiamkgkkjaaGreatDoor.cl
open Go Go.AM
def NI {d:List aB} {w:Nat} {F:bV}:∀(xs:List aB) (o:Option Nat),
  ((xs.foldl (DG d w F) o).isSome=true↔o.isSome=true\/∃t∈xs,(val t F).isSome=true/\sub w (cwd d t.Name)=true)/\
  ∀c,xs.foldl (DG d w F) o=some c->∀i,c.testBit i=true↔(∀a,o=some a->a.testBit i=true)/\∀t∈xs,∀v,val t F=some v->sub w (cwd d t.Name)=true->(cwd d v).testBit i=true:=by
 intro xs;induction xs with
 |nil=>intro o;refine⟨ai,λc G i=> ?_⟩;rw[List.foldl_nil] at G;subst G;simp
 |cons t xs Q=>intro o;obtain⟨I,K⟩:=Q (DG d w F o t);rw[gA];cases H:val t F with
  |none=>
   have e:DG d w F o t=o:=by unfold DG;rw[H]
   rw[e] at I K⊢;constructor
   .rw[I];constructor
    .rintro (h|⟨u,q,h⟩)
     .exact .inl h
     .exact .inr ⟨u,by simp[q],h⟩
    .rintro (h|⟨u,q,h⟩)
     .exact .inl h
     .rcases aJ.1 q with rfl|q
      .rw[H] at h;simp at h
      .exact .inr ⟨u,q,h⟩
   .intro c G i;rw[K c G i];constructor
    .rintro⟨a,b⟩;refine⟨a,λu q v l B=> ?_⟩;rcases aJ.1 q with rfl|q
     .rw[H] at l;cases l
     .exact b u q v l B
    .rintro⟨a,b⟩;exact⟨a,λu q v l B=>b u (by simp[q]) v l B⟩
  |some v=>cases B:sub w (cwd d t.Name) with
   |false=>
    have e:DG d w F o t=o:=by unfold DG;rw[H,B];simp
    rw[e] at I K⊢;constructor
    .rw[I];constructor
     .rintro (h|⟨u,q,h⟩)
      .exact .inl h
      .exact .inr ⟨u,by simp[q],h⟩
     .rintro (h|⟨u,q,h⟩)
      .exact .inl h
      .rcases aJ.1 q with rfl|q
       .rw[B] at h;simp at h
       .exact .inr ⟨u,q,h⟩
    .intro c G i;rw[K c G i];constructor
     .rintro⟨a,b⟩;refine⟨a,λu q v l z=> ?_⟩;rcases aJ.1 q with rfl|q
      .rw[B] at z;cases z
      .exact b u q v l z
     .rintro⟨a,b⟩;exact⟨a,λu q v l z=>b u (by simp[q]) v l z⟩
   |true=>
    have e:DG d w F o t=some (comb o (cwd d v)):=by unfold DG;rw[H,B];cases o<;>rfl
    rw[e] at I K⊢;have D:∀i,(comb o (cwd d v)).testBit i=true↔(∀a,o=some a->a.testBit i=true)/\(cwd d v).testBit i=true:=by intro i;cases o with
     |none=>simp[comb]
     |some a=>simp[comb,mJ]
    constructor
    .rw[I];constructor
     .intro _;exact .inr ⟨t,by simp,by rw[H];rfl,B⟩
     .intro _;exact .inl rfl
    .intro c G i;rw[K c G i];constructor
     .rintro⟨a,b⟩;have P:=(D i).1 (a _ rfl);refine⟨P.1,λu q N l z=> ?_⟩;rcases aJ.1 q with rfl|q
      .rw[H] at l;injection l with l;rw[<-l];exact P.2
      .exact b u q N l z
     .rintro⟨a,b⟩;refine⟨λx L=> ?_,λu q N l z=>b u (by simp[q]) N l z⟩;injection L with L;rw[<-L];exact(D i).2 ⟨a,b t ai v H B⟩
def Tt {d:List aB} {w:Nat} {F:bV}:(inh d w F).isSome=true↔∃t∈d,(val t F).isSome=true/\sub w (cwd d t.Name)=true:=by have:=(NI (d:=d) (w:=w) (F:=F) d none).1;unfold inh;rw[this];simp
def Ye {d:List aB} {w:Nat} {F:bV} {c:Nat} (h:inh d w F=some c) (i:Nat):c.testBit i=true↔∀t∈d,∀v,val t F=some v->sub w (cwd d t.Name)=true->(cwd d v).testBit i=true:=by rw[(NI (d:=d) (w:=w) (F:=F) d none).2 c h i];exact⟨λh=>h.2,λh=>⟨λa l=>(by cases l),h⟩⟩
def acY {d:List aB} {w v:Nat} {F:bV} {a b:Nat} (B:sub v w=true) (l:inh d w F=some a) (q:inh d v F=some b):sub b a=true:=by rw[kR];intro i z;rw[Ye l];intro t D x H G;exact(Ye q i).1 z t D x H (ze B G)
def inh_up {d:List aB} {w v:Nat} {F:bV} (z:sub v w=true) (h:(inh d w F).isSome=true):(inh d v F).isSome=true:=by rw[Tt] at h⊢;obtain⟨t,B,l,q⟩:=h;exact⟨t,B,l,ze z q⟩
def aas {d:List aB} (A:Acc d) {w:Nat} {F u:bV} (h:CY d F=some u):(inh d w F).isSome=sub w (cwd d u):=by
 obtain⟨D,G⟩:=(TB A).1 h;rw[ia,Tt];constructor
 .rintro⟨t,q,z,l⟩;have B:t.Name∈xY d F:=GQ.2 ⟨t,q,z,rfl⟩;exact ze l ((O5 (Hw B)).2 (G _ B))
 .intro l;obtain⟨t,q,z,rfl⟩:=GQ.1 D;exact⟨t,q,z,l⟩
def Ok5.num {d:List aB} (O:Ok5 d) {w:Nat} (H:w∈tys d) {F:bV} (G:F∈rf d) {c:Nat} (h:inh d w F=some c):∃q:Nat,H9 (tys d) c=(q:Int)/\q<(tys d).length/\(tys d).getD q 0=c:=by
 rcases inh_in O.ok (OA O.fd) h with l|l
 .rw[l] at h;exact absurd h (O.vals w H F G)
 .obtain⟨q,z,B,D⟩:=Pj l;exact⟨q,D,z,B⟩
def rowF_ge {d:List aB} {w:Nat}:∀(l:List bV) (k:Nat),∀x∈yt d w l k,(k:Int)<=x.bP:=by intro l;induction l with
 |nil=>intro k x q;cases q
 |cons F l z=>intro k x q;unfold yt at q;cases h:inh d w F with
  |none=>rw[h] at q;have:=z (k+1) x q;omega
  |some c=>
   rw[h] at q;rcases aJ.1 q with rfl|q
   .simp
   .have:=z (k+1) x q;omega
def aaV {d:List aB} {w:Nat}:∀(l:List bV) (k j:Nat) (F:bV),l[j]? =some F->(yt d w l k).find? (λx=>x.bP==((k+j:Nat):Int))=(inh d w F).map λc=>(⟨((k+j:Nat):Int),H9 (tys d) c⟩:gi):=by intro l;induction l with
 |nil=>intro k j F h;simp at h
 |cons G l H=>intro k j F h;unfold yt;cases j with
  |zero=>
   have:G=F:=by simpa using h
   subst this;cases B:inh d w G with
   |none=>simp only[Bp];rw[zz];intro x D;have:=rowF_ge l (k+1) x D;simp only[jo];omega
   |some c=>simp only[mL,mO,beq_self_eq_true,ey]
  |succ j=>
   have z:l[j]? =some F:=by simpa using h
   have q:=H (k+1) j F z;have e:k+1+j=k+(j+1):=af;rw[e] at q;cases B:inh d w G with
   |none=>exact q
   |some c=>simp only[mL];rw[show((k:Int)==((k+(j+1):Nat):Int))=false by rw[lE];omega];exact q
def afx {d:List aB} {T:Nat} (l:T<(tys d).length):∃h:T<(MC d).length,(MC d)[T]=yt d ((tys d).getD T 0) (rf d) 0:=by refine⟨by rw[aa3];exact l,?_⟩;unfold MC;rw[lH];congr 1;rw[bD,aM l];rfl
def aad {d:List aB} {j:Nat} {F:bV} (h:(rf d)[j]? =some F):∃l:j<(wz d).length,(wz d)[j]=MV d F:=by obtain⟨l,e⟩:=bu.1 h;refine⟨by rw[KE];exact l,?_⟩;unfold wz;rw[lH,e]
end Go.Proofs.YtacapiamkgkkjaaGreatDoor.cl
namespace Go.Proofs.YtacapiamkgkkjaaGreatDoor.cl
open Go Go.AM
noncomputable def aeJ (d:List aB) (i:Nat):bV:=((dR d).getD i ([],0)).1
noncomputable def Xv (d:List aB) (i:Nat):fL:=⟨aeJ d i,e1 ((tys d).getD i 0),cast (afe (tys d) i),yt d ((tys d).getD i 0) (rf d) 0⟩
noncomputable def sQ (d:List aB):aV:=⟨(List.range (tys d).length).map (Xv d),wz d⟩
def cds_at {d:List aB} {i:Nat} (h:i<(z1 d).length):(z1 d)[i]=⟨aeJ d i,e1 ((tys d).getD i 0)⟩:=by
 have l:i<(dR d).length:=by simpa[z1] using h
 have e:(z1 d)[i]? =some ⟨aeJ d i,e1 ((tys d).getD i 0)⟩:=by unfold z1 aeJ tys;rw[dV,aM l,bD,aM l,bD,dV,aM l];rfl
 rw[aM h] at e;exact fc e
def Xb {l:Type} (g:Nat->l) (i:Nat):(List.range i).map g++[g i]=(List.range (i+1)).map g:=by rw[lF,cE];rfl
section
variable {d:List aB} (O:Ok5 d)
include O
theorem h332 (D:f320 d=some (wz d,0)) {I:aV} {b:List dg}:∀(n i:Nat),(tys d).length-i=n->i<=(tys d).length->
  QX d (MC d) (z1 d) i I ((List.range i).map (Xv d)) b=some (sQ d,0):=by
 have K:=O.ok.cM;have F:=oF (d:=d);intro n;induction n with
 |zero=>
  intro i G w;refine adn ?_
  have:i=(tys d).length:=af
  subst this;rw[cond_neg (by rw[bB];omega),D];rfl
 |succ n H=>intro i G w;refine adn ?_;have q:i<(tys d).length:=af;have l:i<(z1 d).length:=af;obtain⟨z,B⟩:=afx q;rw[cond_pos (by rw[bN];omega),cR l,cR l,o28 O.ok.cd q,ak,cR z,B,cds_at l,cF _ (by rw[bI,List.length_range];omega) ai af,bJ af];have:=Xb (Xv d) i;unfold Xv at this⊢;rw[this];exact H (i+1) af af
end
def c332 {d:List aB} (z:Sz d) (l:d.length<=64) (q:Fz d):f332 d=some (if yb d=0 then(sQ d,0) else(⟨[],[]⟩,yb d)):=by
 refine e332 ?_;rw[c323 z l q,ak,c15 z l,ak];by_cases h:yb d=0
 .obtain⟨O,B,D⟩:=Lv z l q h;have w:=c320 z l q;rw[aC h] at w;rw[aC h,aC h,aA (by simpa using B),aA D,cond_neg ai];exact h332 O w _ 0 rfl af
 .rw[aA h,cond_pos (by simpa using h),aA h]
def Dx:List bV->List er
 |a::b::l=>⟨a,b⟩::Dx l
 |_=>[]
def U4 {i:Nat} (h:i<4611686018427387904):IntKind.wrap .i64 ((i:Int)+2)=((i+2:Nat):Int):=by rw[oW af af];omega
def YZ {l:List bV} (I:l.length<=1000) {name:bV} {o6:aB} {sup a c:List bV} {b:List er}:∀(n:Nat) (xs:List bV),xs.length<=n->∀(i:Nat) (w:List er),l.drop i=xs->w.length<=i->i<=2000->
  QZ l i o6 name sup a b c w=some ⟨name,sup,w++Dx xs⟩/\JE l i o6 name a b c w=some ⟨name,c,w++Dx xs⟩:=by
 intro n;induction n with
 |zero=>
  intro xs D i w h z G
  have:xs=[]:=ou.1 af
  subst this;have:=j0 h;constructor
  .refine PA ?_;rw[bJ af,cond_neg (by rw[bB];omega)];simp[Dx]
  .refine Ji ?_;rw[bJ af,cond_neg (by rw[bB];omega)];simp[Dx]
 |succ n H=>intro xs D i w h z G;match xs,h,D with
  |[],h,_=>
   have:=j0 h;constructor
   .refine PA ?_;rw[bJ af,cond_neg (by rw[bB];omega)];simp[Dx]
   .refine Ji ?_;rw[bJ af,cond_neg (by rw[bB];omega)];simp[Dx]
  |[x],h,_=>
   have:=j0 (aI h);constructor
   .refine PA ?_;rw[bJ af,cond_neg (by rw[bB];omega)];simp[Dx]
   .refine Ji ?_;rw[bJ af,cond_neg (by rw[bB];omega)];simp[Dx]
  |x::y::r,h,D=>
   have B:=aI h;have:=eM B;have F:=aI B;simp only[bA] at D;obtain⟨p,q⟩:=H r af (i+2) (w++[⟨x,y⟩]) F (by rw[bR];simp;omega) af;rw[dz] at p q;constructor
   .refine PA ?_;rw[bJ af,cond_pos (by rw[bN];omega),aK h,aK B,cF _ af ai af,U4 af];exact p
   .refine Ji ?_;rw[bJ af,cond_pos (by rw[bN];omega),aK h,aK B,cF _ af ai af,U4 af];exact q
def Gv (name super:bV) (l:List bV) (w:l.length<=1000):f351 name super l=some ⟨name,if super=[] then[] else[super],Dx l⟩:=by
 refine e351 ?_;by_cases h:super=[]
 .subst h;have:=(YZ w (name:=name) (o6:=⟨[],[],[]⟩) (sup:=[]) (a:=[]) (c:=[]) (b:=[]) _ l (aQ _) 0 [] rfl ai af).2;have q:(!(([]:List UInt8)==([]:List UInt8)))=false:=rfl;rw[dU] at this;rw[cond_neg q,aC rfl];exact this
 .have:=(YZ w (name:=name) (o6:=⟨[],[],[]⟩) (sup:=[super]) (a:=[]) (c:=[]) (b:=[]) _ l (aQ _) 0 [] rfl ai af).1;have q:(!(super==([]:List UInt8)))=true:=by simpa using h
  rw[dU] at this;rw[cond_pos q,aA h];exact this
def A9:List aB:=[
 ⟨[116,111,112],[],[]⟩,
 ⟨[108,105,115,116],[[116,111,112]],[]⟩,
 ⟨[99,111,110,115],[[108,105,115,116]],[⟨[70,73,82,83,84],[116,111,112]⟩,⟨[82,69,83,84],[108,105,115,116]⟩]⟩,
 ⟨[110,117,108,108],[[108,105,115,116]],[]⟩,
 ⟨[100,108,105,115,116],[[116,111,112]],[⟨[76,73,83,84],[108,105,115,116]⟩,⟨[76,65,83,84],[108,105,115,116]⟩]⟩,
 ⟨[105,110,100,101,120],[[116,111,112]],[]⟩,
 ⟨[104,97,110,100,108,101],[[105,110,100,101,120]],[]⟩,
 ⟨[101,118,101,110,116],[[105,110,100,101,120]],[]⟩,
 ⟨[101,110,116,105,116,121],[[105,110,100,101,120]],[]⟩,
 ⟨[114,101,108],[[116,111,112]],[⟨[76,65,66,69,76],[104,97,110,100,108,101]⟩]⟩,
 ⟨[113,101,113],[[116,111,112]],[⟨[72,73,71,72],[104,97,110,100,108,101]⟩,⟨[76,79,87],[104,97,110,100,108,101]⟩]⟩,
 ⟨[115,101,109],[[116,111,112]],[⟨[84,79,80],[104,97,110,100,108,101]⟩,⟨[73,78,68,69,88],[105,110,100,101,120]⟩,⟨[82,69,76,83],[100,108,105,115,116]⟩,⟨[67,79,78,83],[100,108,105,115,116]⟩]⟩,
 ⟨[115,105,103,110],[[116,111,112]],[⟨[83,69,77],[115,101,109]⟩,⟨[65,82,71,83],[108,105,115,116]⟩]⟩]
def c327:f327=some A9:=by refine e327 ?_;rw[Gv _ _ _ (by decide),Gv _ _ _ (by decide),Gv _ _ _ (by decide),Gv _ _ _ (by decide),Gv _ _ _ (by decide),Gv _ _ _ (by decide),Gv _ _ _ (by decide),Gv _ _ _ (by decide),Gv _ _ _ (by decide),Gv _ _ _ (by decide),Gv _ _ _ (by decide),Gv _ _ _ (by decide),Gv _ _ _ (by decide)];simp only[ak];rfl
