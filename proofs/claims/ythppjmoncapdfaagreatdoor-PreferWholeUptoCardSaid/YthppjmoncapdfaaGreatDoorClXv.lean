/- The parts of a feature structure. -/
import Derived.Test.YthppjmoncapdfaaGreatDoorClXr
import Derived.Test.YthppjmoncapdfaaGreatDoorClSh
set_option linter.all false
open Int (toNat)
namespace Go.Proofs.YthppjmoncapdfaaGreatDoor.cl.pf
open Go Go.AM
structure PT (T F:Nat) (f:FSt) (L:List FSt):Prop where
 len:L.length≤200
 can:∀p∈L,Can T F p
 low:∀sb,TO T sb→∀p∈L,Le sb p f
 all:∀sb,TO T sb→∀C,Can T F C→(∀p∈L,Le sb p C)→Le sb f C
 cov:∃P:List (List Int),P.length≤12∧∀p∈L,YK p P
def Y7:Prop:=∀n:Nat,n≤64→∃h,f428 (n:Int)=some h∧HM h 1 Se
theorem c425 (t:Int):f425 t=some ⟨[⟨t,[]⟩]⟩:=e425 rfl
theorem c414 (t:Int):f414 t=some ⟨[⟨t,[]⟩]⟩:=e414 rfl
theorem Dq {T F:Nat} {f:FSt} (hf:Can T F f):∀{π:List Int} {i k:Nat},Bv (nY f) i π=some k→i<f.az.length→∀g∈π,0≤g∧g<(F:Int)
 |[],_,_,_,_,g,hg=>by cases hg
 |x::π,i,k,h,hi,g,hg=>by
  simp only [Bv] at h;cases e:Bj ((nY f).sc i) x with
  |none=>rw [e] at h;cases h
  |some j=>
   rw [e] at h;have hm:=(uK (hf.Bo i)).1 e;rcases aD.1 hg with rfl|hg
   ·exact hf.go.ft i hi _ hm
   ·exact Dq hf h (hf.bd i hi _ hm) g hg
theorem c427 {T F:Nat} {f:FSt} (hf:Can T F f) (hl:Sj f) (hF:F≤64):∃n:Nat,n≤64∧f427 f=some (n:Int):=by
 have inner:∀{i:Nat} {x:Node},f.az[i]? =some x→∀(xs:List cF) (k n:Nat),x.cO.drop k=xs→n≤64→(∀m:Nat,m≤64→∃n':Nat,n'≤64∧Kl (m:Int) f.az (f.az.length:Int) ((i+1:Nat):Int) f=some (n':Int))→
   ∃n':Nat,n'≤64∧OJ (n:Int) f.az (f.az.length:Int) (i:Int) x.cO (x.cO.length:Int) (k:Int) f x=some (n':Int):=by
  intro i x hx xs;have hxm:=aT hx;have hin:=(bD.1 hx).1;have hal:=hl.a x hxm;have hn:=hl.n
  induction xs with
  |nil=>
   intro k n hd hn64 hr;obtain ⟨n',h1,h2⟩:=hr n hn64;refine ⟨n',h1,abu ?_⟩;rw [bI hd,aj,bG (by omega)];exact h2
  |cons a xs ih=>
   intro k n hd hn64 hr;have ha:=((hf.ao hxm).ok a (aT (b9 hd))).1;have hk:=eo hd;obtain ⟨m,hm⟩:=je ha.1;have hw:IntKind.wrap .i64 (a.aY+1)=((m+1:Nat):Int):=by rw [hm];exact bG (by omega)
   obtain ⟨n',h1,h2⟩:=ih (k+1) (if m+1>n then m+1 else n) (aN hd) (by split<;>omega) hr;refine ⟨n',h1,abu ?_⟩;rw [bH hd,ai,aX hd,hw,bG (by omega)];have:(if ((m+1:Nat):Int)>(n:Int) then ((m+1:Nat):Int) else (n:Int))=((if m+1>n then m+1 else n:Nat):Int):=by
    by_cases h:m+1>n
    ·rw [au h,au (by omega)]
    ·rw [ak h,ak (by omega)]
   rw [this];exact h2
 have outer:∀(xs:List Node) (i n:Nat),f.az.drop i=xs→n≤64→∃n':Nat,n'≤64∧Kl (n:Int) f.az (f.az.length:Int) (i:Int) f=some (n':Int):=by
  intro xs
  induction xs with
  |nil=>
   intro i n hd hn;refine ⟨n,hn,abt ?_⟩;rw [bI hd,aj]
  |cons x xs ih=>
   intro i n hd hn;obtain ⟨n',h1,h2⟩:=inner (b9 hd) x.cO 0 n rfl hn fun m hm=>ih (i+1) m (aN hd) hm
   refine ⟨n',h1,abt ?_⟩;rw [bH hd,ai,aX hd];exact h2
 obtain ⟨n',h1,h2⟩:=outer f.az 0 0 rfl (by omega);exact ⟨n',h1,e427 h2⟩
section
variable {T F:Nat} {f:FSt} (hf:Can T F f) (hl:Sj f) (hF:F≤64)
include hf hl hF
theorem prt_shr {P:List (List Int)} (hP:Fst f P) {h:bZ} (H:HM h 1 Se):∀(xs:List fq) (i:Nat),(tY P 0 f.az).drop i=xs→∃ss:List FSt,ss.length=xs.length∧
  (∀o:List FSt,o.length+xs.length≤1000→i+xs.length≤1000→OB (tY P 0 f.az) ((tY P 0 f.az).length:Int) (i:Int) o h=some (o++ss)∧OD (tY P 0 f.az) (i:Int) o=some (o++ss))∧
  (∀p∈ss,∃s∈xs,YL F s.A s.B p∧YK p P)∧∀s∈xs,∃p∈ss,YL F s.A s.B p:=by
 have hn:=hl.n;intro xs
 induction xs with
 |nil=>
  intro i hd;refine ⟨[],rfl,fun o ho hi=>⟨abj ?_,abl ?_⟩,fun p hp=>by (cases hp),fun s hs=>by (cases hs)⟩<;>rw [bI hd,aj,eU]
 |cons s xs ih=>
  intro i hd;have hs:=aT (b9 hd);obtain ⟨a,k,g,ha,hm,eA,eB,hne,qA,qB,hnp⟩:=Ww hf hl (by omega) hP s hs;have hk:k<f.az.length:=hf.bd a ha _ hm;have fA:=Dq hf qA hf.ne;have fB:=Dq hf qB hf.ne;have lA:s.A.length≤12:=by rw [eA];have:=hP.ln k hk;omega
  have lB:s.B.length≤13:=by rw [eB,cQ,ij];have:=hP.ln a ha;omega
  have Tp:s.B≠[]:=by rw [eB];simp
  obtain ⟨p,p1,p2,p3⟩:=c438 fA fB H (by omega) (by omega) (by omega);obtain ⟨q,q1,q2⟩:=c439 fA fB (by omega) (by omega) (by omega) Tp hnp;have e:=q2.uniq p2;subst e
  have hcov:YK q P:=p3 P (fun j _=>by
   have:s.A∈P:=by
    rw [eA];have:=bF (l:=P) (n:=k) (by rw [hP.len];exact hk);rw [aQ,aH (by rw [hP.len];exact hk)];exact this
   exact hP.pre _ this j) fun j hj=>by
   rw [eB,cQ,ij] at hj;rw [eB,uu (by omega)];refine hP.pre _ ?_ j;rw [aQ,aH (by rw [hP.len];exact ha)];exact bF _
  obtain ⟨ss,s1,s2,s3,s4⟩:=ih (i+1) (aN hd);refine ⟨q::ss,by simp [s1],fun o ho hi=> ?_,fun r hr=> ?_,fun r hr=> ?_⟩
  ·rw [bg] at ho hi
   obtain ⟨r1,r2⟩:=s2 (o++[q]) (by simp;omega) (by omega);rw [fe] at r1 r2;refine ⟨abj ?_,abl ?_⟩
   ·rw [bH hd,ai,aX hd,c425,aA,p1,aA,cz _ (by omega) (by simp) (by omega),bG (by omega)]
    exact r1
   ·rw [bH hd,ai,aX hd,aX hd,q1,aA,cz _ (by omega) (by simp) (by omega),bG (by omega)]
    exact r2
  ·rcases aD.1 hr with rfl|hr
   ·exact ⟨s,by simp,q2,hcov⟩
   ·obtain ⟨t,ht,h1⟩:=s3 r hr
    exact ⟨t,by simp [ht],h1⟩
  ·rcases aD.1 hr with rfl|hr
   ·exact ⟨q,by simp,q2⟩
   ·obtain ⟨t,ht,h1⟩:=s4 r hr
    exact ⟨t,by simp [ht],h1⟩
theorem aco (HT:Y7):∃L S,f400 f=some L∧f401 f=some L∧PT T F f L∧f409 f=some S∧L.length=f.az.length+S.length∧S.length≤200:=by
 have hn:=hl.n;have h0:=hf.ne;obtain ⟨P,p1,p2,hP,s1,s2⟩:=shr_ok hf hl (by omega);obtain ⟨n,n1,n2⟩:=c427 hf hl hF;obtain ⟨h,h1,H⟩:=HT n n1;have DR:(tY P 0 f.az).length≤12 *f.az.length:=RO 0 _ hl.a;obtain ⟨ss,q1,q2,q3,q4⟩:=prt_shr hf hl hF hP H (tY P 0 f.az) 0 rfl;have hg:∀i,i<f.az.length→P[i]? =some (P.getD i []):=fun i hi=>by rw [aQ,aH (by rw [hP.len];exact hi)];rfl
 have hmem:∀i,i<f.az.length→P.getD i []∈P:=fun i hi=>aT (hg i hi)
 let ch:Nat→FSt:=fun i=>qN (P.getD i []) (sg f i)
 have key:∀(k i:Nat),f.az.length=i+k→OA P (P.length:Int) (i:Int) f ((List.range i).map ch)=some ((List.range f.az.length).map ch++ss)∧OC P (i:Int) f ((List.range i).map ch)=some ((List.range f.az.length).map ch++ss):=by
  intro k
  induction k with
  |zero=>
   intro i hi;have e:i=f.az.length:=by omega
   subst e;obtain ⟨r1,r2⟩:=q2 ((List.range f.az.length).map ch) (by simp;omega) (by omega);have CL:=hP.len;refine ⟨abi ?_,abk ?_⟩
   ·rw [cond_neg (by rw [bA];omega),n2,aA,h1,aA,s1,aA];exact r1
   ·rw [cond_neg (by rw [bA];omega),s2,aA];exact r2
  |succ k ih=>
   intro i hi;have hin:i<f.az.length:=by omega
   have CL:=hP.len;have hil:=hP.ln i hin;obtain ⟨r1,r2⟩:=ih (i+1) (by omega);have et:sg f i=f.az[i].eN:=tZ hin;have es:(List.range (i+1)).map ch=(List.range i).map ch++[qN (P.getD i []) f.az[i].eN]:=by
    rw [jC,bT,←et];rfl
   rw [es] at r1 r2;refine ⟨abi ?_,abk ?_⟩
   ·rw [cond_pos (by rw [bB];omega),gW (hg i hin),cn hin,c425,aA,c426 (by omega),aA,cz _ (by simp;omega) (by simp) (by omega),bG (by omega)];exact r1
   ·rw [cond_pos (by rw [bB];omega),gW (hg i hin),cn hin,c414,aA,c430 (by omega),aA,cz _ (by simp;omega) (by simp) (by omega),bG (by omega)];exact r2
 obtain ⟨r1,r2⟩:=key f.az.length 0 (by omega);have hT1:1≤T:=by have:=hf.go.tp 0 h0;omega
 have hch:∀i,i<f.az.length→(∀g∈P.getD i [],0≤g∧g<(F:Int))∧0≤sg f i∧sg f i<(T:Int):=fun i hi=>⟨Dq hf (hP.at_ i hi) h0,hf.go.tp i hi⟩
 refine ⟨(List.range f.az.length).map ch++ss,_,e400 ?_,e401 ?_,⟨?_,fun p hp=> ?_,fun sb hT p hp=> ?_,fun sb hT C hC hall=> ?_,⟨P,by rw [hP.len];omega,fun p hp=> ?_⟩⟩,s2,?_,by omega⟩
 ·rw [p1,aA];exact r1
 ·rw [p2,aA];exact r2
 ·rw [cQ,aW,ye];omega
 ·rcases bC.1 hp with hp|hp
  ·obtain ⟨i,hi,rfl⟩:=aB.1 hp
   have:=hch i (eT.1 hi);exact sO (by omega) this.1 this.2
  ·obtain ⟨s,_,hs,_⟩:=q3 p hp
   exact hs.can.up hT1
 ·rcases bC.1 hp with hp|hp
  ·obtain ⟨i,hi,rfl⟩:=aB.1 hp
   have hi:=eT.1 hi;have:=hch i hi;exact (Zy hT this.1 this.2 hf).2 ⟨i,hP.at_ i hi,hT.refl this.2.1 this.2.2⟩
  ·obtain ⟨s,hs,hs2,_⟩:=q3 p hp
   obtain ⟨a,k,g,ha,hm,eA,eB,hne,qA,qB,hnp⟩:=Ww hf hl (by omega) hP s hs;exact (hs2.le hT hT1 hf).2 ⟨k,qA,qB⟩
 ·have He:∀i,i<f.az.length→∃k,BZ C (P.getD i [])=some k∧sb (sg f i) (sg C k):=fun i hi=>by
   have:=hch i hi;exact (Zy hT this.1 this.2 hC).1 (hall _ (eC _ (aB.2 ⟨i,eT.2 hi,rfl⟩)))
  refine ⟨fun i=>(BZ C (P.getD i [])).getD 0,?_,fun i hi=> ?_⟩
  ·show (BZ C (P.getD 0 [])).getD 0=0
   rw [hP.zero];rfl
  ·have hin:=hf.Yr hi
   obtain ⟨k,hk,hs⟩:=He i hin;refine ⟨?_,fun p hp=> ?_⟩
   ·show sb (sg f i) (sg C ((BZ C (P.getD i [])).getD 0))
    rw [hk];exact hs
   ·have hp2:p.2<f.az.length:=hf.bd i hin _ hp
    obtain ⟨k2,hk2,_⟩:=He p.2 hp2;show (p.1,(BZ C (P.getD p.2 [])).getD 0)∈kX C ((BZ C (P.getD i [])).getD 0);rw [hk,hk2];have hpath:BZ C (P.getD i []++[p.1])=some k2:=by
     by_cases e:P.getD i []++[p.1]=P.getD p.2 []
     ·rw [e];exact hk2
     ·obtain ⟨q,hq,hs⟩:=q4 _ (shr_all hf hl (by omega) hin hp e)
      obtain ⟨j,j1,j2⟩:=(hs.le hT hT1 hC).1 (hall q (uv _ hq));have j1:BZ C (P.getD p.2 [])=some j:=j1;rw [hk2] at j1;cases j1;exact j2
    obtain ⟨j,j1,j2⟩:=zT.1 hpath;have j1:BZ C (P.getD i [])=some j:=j1;rw [hk] at j1;cases j1;exact (uK (hC.Bo k)).1 j2
 ·rcases bC.1 hp with hp|hp
  ·obtain ⟨i,hi,rfl⟩:=aB.1 hp
   exact chn_cov fun j _=>hP.pre _ (hmem i (eT.1 hi)) j
  ·obtain ⟨s,_,_,hs⟩:=q3 p hp
   exact hs
 ·rw [cQ,aW,ye,q1]
end
end Go.Proofs.YthppjmoncapdfaaGreatDoor.cl.pf
namespace Go.Proofs.YthppjmoncapdfaaGreatDoor.cl.pf
open Go Go.AM
structure TH where
 T:Nat
 F:Nat
 sb:Int→Int→Prop
 io:Int→Int
 vl:Int→Int→Int
structure TH.OK (t:TH) (h:bZ):Prop where
 hx:HX h t.T t.F t.sb t.io t.vl
 T:t.T≤1000
 F:t.F≤64
def HierOK (d:List aq):Prop:=∃(h:bZ) (t:TH),f403 d=some h∧t.OK h
section
variable {d:List aq} (HO:HierOK d) (K:Y7) (X:f399=some true)
include HO K X
theorem l396 (f:FSt):f396 d f=some true:=by
 obtain ⟨h,t,g1,H⟩:=HO;have hT:=H.hx.hv.hm.to;obtain ⟨r,q1,q2⟩:=c408 h f;rw [H.hx.tl,H.hx.hv.fl] at q2;refine e396 ?_;rw [g1,aA,q1,aA];cases r with
 |false=>rw [cond_pos (by rfl),X,aA]
 |true=>
  have hv:=q2 rfl;have hn:=hv.lt.n;have hF:=H.F;obtain ⟨L,S,e1,_,hp,e2,e3,e4⟩:=aco hv.can hv.lt H.F K;have hw:IntKind.wrap .i64 ((f.az.length:Int)+(S.length:Int))=(L.length:Int):=by rw [e3];exact kJ (by omega) (by omega)
  have hLl:=hp.len;rw [cond_neg (by rfl),e1,aA,e2,aA,hw,cond_neg (by simp)];have hsz:∀p∈L,p.az.length≤12:=fun p hpL=>by
   obtain ⟨P,h1,h2⟩:=hp.cov;have:=(h2 p hpL).le;omega
  have hall:f420 h L=some (f,true):=by
   have hL0:0<L.length:=by have:=hv.can.ne;omega
   obtain ⟨P,c1,c2⟩:=hp.cov;obtain ⟨x0,L',rfl⟩:∃x0 L',L=x0::L':=by cases L with|nil=>simp at hL0|cons a b=>exact ⟨a,b,rfl⟩
   have et:((x0::L').take (x0::L').length).drop (toNat (1:Int))=L':=by rw [gw];rfl
   refine e420 ?_;rw [cond_neg (by rw [gv,bg];omega),iN,bp ⟨by omega,by rw [bg];omega⟩,et];have key:∀(xs:List FSt) (i:Nat) (x o9:FSt),L'.drop i=xs→Can t.T t.F x→YK x P→Le t.sb x f→(∀p∈x0::L'.take i,Le t.sb p x)→UJ L' (L'.length:Int) (i:Int) h ⟨[]⟩ x=some (f,true)∧HJ L' (L'.length:Int) (i:Int) h ⟨[]⟩ x o9=some (f,true):=by
    intro xs
    induction xs with
    |nil=>
     intro i x o9 hd hx hc hle hpx;have:x=f:=by
      refine Le.anti hT hx hv.can hle (hp.all _ hT x hx fun p hpL=>hpx p ?_);rw [jm (jU hd)];exact hpL
     subst this;refine ⟨abo ?_,VT ?_⟩<;>rw [bI hd,aj]
    |cons p xs ih=>
     intro i x o9 hd hx hc hle hpx;have XO:p∈x0::L':=dW _ (aT (b9 hd));have hil:=eo hd;have h1:=hc.le;have h2:=hsz p XO;rw [bg] at hLl;rcases c433 H.hx.hv.hm hx (hp.can p XO) (by omega) (by omega) with ⟨y,u,hy⟩|⟨u,hno⟩
     ·have nx:=ih (i+1) y y (aN hd) hy.can (hy.cov P hc (c2 p XO)) (hy.least f hv.can hle (hp.low _ hT p XO)) fun q hq=>by
       rw [c8,b9 hd,aD,bC] at hq;rcases hq with rfl|hq|hq
       ·exact Le.trans hT (hpx q (by simp)) hy.l
       ·exact Le.trans hT (hpx q (by simp [hq])) hy.l
       ·simp at hq;subst hq;exact hy.r
      refine ⟨abo ?_,VT ?_⟩<;>rw [bH hd,ai,aX hd,u,aA,cond_neg (by rfl),bJ hd (by omega)]<;>exact nx.2
     ·exact (hno f hv.can hle (hp.low _ hT p XO)).elim
   exact (key L' 0 x0 x0 rfl (hp.can x0 (by simp)) (c2 x0 (by simp)) (hp.low _ hT x0 (by simp)) fun p h=>by
    simp at h;subst h;exact Le.refl hT (hp.can p (by simp))).1
  have key:∀(xs:List FSt) (i:Nat),L.drop i=xs→Oz L (i:Int) f h=some true:=by
   intro xs
   induction xs with
   |nil=>
    intro i hd;refine abh ?_;rw [bI hd,aj,hall,aA,cond_pos (by rfl),c407_eq hv.lt.sm,aA,cond_pos (by rfl),X,aA]
   |cons p xs ih=>
    intro i hd;have XO:=aT (b9 hd);have:=hsz p XO;obtain ⟨r,s1,s2⟩:=c412 H.hx (hp.can p XO) hv.can (by omega) (by omega);refine abh ?_;rw [bH hd,ai,aX hd,s1,aA,s2.2 (hp.low _ hT p XO),cond_neg (by rfl),bJ hd (by omega)];exact ih (i+1) (aN hd)
  exact key L 0 rfl
end
end Go.Proofs.YthppjmoncapdfaaGreatDoor.cl.pf
namespace Go.Proofs.YthppjmoncapdfaaGreatDoor.cl.pf
open Go Go.AM
noncomputable def tOf (d:List aq):TH:=⟨(tys d).length,(qe d).length,
 fun a b=>(0≤a∧a<((tys d).length:Int))∧(0≤b∧b<((tys d).length:Int))∧sub ((tys d).getD b.toNat 0) ((tys d).getD a.toNat 0)=true,
 fun f=>(nu d ((Ac d ((qe d).getD f.toNat [])).getD []):Int),
 fun a f=>match inh d ((tys d).getD a.toNat 0) ((qe d).getD f.toNat []) with
  |some c=>GL (tys d) c
  |none=>0⟩
theorem Cs {a:Int} {n:Nat} (h:0≤a) (h':a<(n:Int)):∃i:Nat,a=(i:Int)∧i<n:=⟨a.toNat,by omega,by omega⟩
theorem hd_to {cs:List Nat} (K:YZ cs):TO cs.length (fun a b=>(0≤a∧a<(cs.length:Int))∧(0≤b∧b<(cs.length:Int))∧sub (cs.getD b.toNat 0) (cs.getD a.toNat 0)=true):=by
 refine ⟨fun h=>h.1,fun h=>h.2.1,fun h h'=>⟨⟨h,h'⟩,⟨h,h'⟩,xC _⟩,fun h h'=>⟨h.1,h'.2.1,xD h'.2.2 h.2.2⟩,fun h h'=> ?_,fun h h'=>⟨⟨by omega,by omega⟩,⟨h,h'⟩,K.top _ (kG (by omega))⟩⟩;have:=getD_inj K.nd (by omega) (by omega) (rY h.2.2 h'.2.2);omega
theorem hd_hm {h:bZ} {cs:List Nat} (H:Hd h cs) (K:YZ cs):HM h cs.length (fun a b=>(0≤a∧a<(cs.length:Int))∧(0≤b∧b<(cs.length:Int))∧sub (cs.getD b.toNat 0) (cs.getD a.toNat 0)=true):=by
 refine ⟨hd_to K,fun a b a0 a1 b0 b1=> ?_⟩;obtain ⟨i,rfl,hi⟩:=Cs a0 a1;obtain ⟨j,rfl,hj⟩:=Cs b0 b1;rw [o335 H K hi hj,o336 H K hi hj];simp only [aR];by_cases hm:cs.getD i 0&&&cs.getD j 0∈cs
 ·obtain ⟨q,q1,q2,q3⟩:=ME hm
  have e:BH cs (cs.getD i 0&&&cs.getD j 0)=((q:Int),true):=by
   unfold BH;rw [q3,ak (by omega)]
  rw [e];refine .inl ⟨q,rfl,rfl,⟨⟨a0,a1⟩,⟨by omega,by omega⟩,?_⟩,⟨⟨b0,b1⟩,⟨by omega,by omega⟩,?_⟩,fun c h1 h2=>⟨⟨by omega,by omega⟩,h1.2.1,?_⟩⟩
  ·rw [aR,q2];exact Eo _ _
  ·rw [aR,q2];exact La _ _
  ·rw [aR,q2];exact Wz h1.2.2 h2.2.2
 ·have e:BH cs (cs.getD i 0&&&cs.getD j 0)=(0,false):=by
   unfold BH;rw [Vq hm];rfl
  rw [e];refine .inr ⟨0,rfl,rfl,fun c h1 h2=>hm (K.cl _ (kG hi) _ (kG hj) fun h0=> ?_)⟩;have hs:=Wz h1.2.2 h2.2.2;rw [h0] at hs;have hc:=h1.2.1;refine K.nz _ (kG (by omega)) (rY hs ?_);exact jY.2 fun i hi=>by simp at hi
theorem MS {d:List aq} (O:Y3 d):(tOf d).OK (u9 d):=by
 have HD:=hd5 O;have K:=O.ok.Tr;have hl:=O.ok.cD;have h64:=O.f64;have hvd:=R1 O.fd;have hft:∀f:Int,0≤f→f<((qe d).length:Int)→∃j F,f=((j:Nat):Int)∧(qe d)[j]? =some F∧(qe d).getD f.toNat []=F∧F∈qe d:=fun f f0 f1=>by
  obtain ⟨j,rfl,hj⟩:=Cs f0 f1;have e:=aH hj;exact ⟨j,_,rfl,e,by rw [aR,aQ,e];rfl,bF hj⟩
 have hio:∀F∈qe d,∃u∈jQ d,Ac d F=some u:=fun F hF=>by
  obtain ⟨u,hu⟩:=O.intro F hF;exact ⟨u,Qy O.ok.acc hu,hu⟩
 have hin:∀(a f:Int),0≤a→a<((tys d).length:Int)→∀F∈qe d,(qe d).getD f.toNat []=F→((inh d ((tys d).getD a.toNat 0) F).isSome=true↔(tOf d).sb ((tOf d).io f) a):=fun a f a0 a1 F hF e=>by
  obtain ⟨u,hu,e2⟩:=hio F hF;obtain ⟨_,n1,n2,_⟩:=O.ok.yN hu;have eio:(tOf d).io f=(nu d u:Int):=by
   show (nu d ((Ac d ((qe d).getD f.toNat [])).getD []):Int)=_;rw [e,e2];rfl
  rw [XV O.ok.acc e2,eio];constructor
  ·intro h
   exact ⟨⟨by omega,by omega⟩,⟨a0,a1⟩,by rw [aR,n2];exact h⟩
  ·intro h
   have:=h.2.2;rw [aR,n2] at this;exact this
 have hval:∀a:Int,0≤a→a<((tys d).length:Int)→∀F∈qe d,∀c,inh d ((tys d).getD a.toNat 0) F=some c→∃q:Nat,GL (tys d) c=(q:Int)∧q<(tys d).length∧(tys d).getD q 0=c:=fun a a0 a1 F hF c hc=>O.num (kG (by omega)) hF hc
 refine ⟨⟨⟨hd_hm HD K,IQ,fun f f0 f1=> ?_,fun a f a0 a1 f0 f1 hs=> ?_,fun a f a0 a1 f0 f1 hs=> ?_,fun a b f f0 f1 h1 h2=> ?_,fun a b h=> ?_⟩,HD.length,fun a b a0 a1 b0 b1=> ?_⟩,by show (tys d).length≤1000;omega,h64⟩
 ·obtain ⟨j,F,rfl,e1,e2,hF⟩:=hft f f0 f1
  obtain ⟨u,hu,e3⟩:=hio F hF;obtain ⟨_,n1,n2,_⟩:=O.ok.yN hu;have eio:(tOf d).io ((j:Nat):Int)=(nu d u:Int):=by
   show (nu d ((Ac d ((qe d).getD (toNat ((j:Nat):Int)) [])).getD []):Int)=_;rw [e2,e3];rfl
  obtain ⟨g1,g2⟩:=XA e1;have:((u9 d).de.getD (toNat ((j:Nat):Int)) default).Intro=(nu d u:Int):=by
   show ((yE d).getD (toNat ((j:Nat):Int)) default).Intro=_;rw [aR,aQ,aH g1,g2];show (nu d ((Ac d F).getD []):Int)=_;rw [e3];rfl
  rw [eio];exact ⟨this,by omega,by show _<((tys d).length:Int);omega⟩
 ·obtain ⟨i,rfl,hi⟩:=Cs a0 a1
  obtain ⟨j,F,rfl,e1,e2,hF⟩:=hft f f0 f1;have h1:=(hin _ _ a0 a1 F hF e2).2 hs;obtain ⟨c,hc⟩:=kA.1 h1;obtain ⟨q,q1,q2,q3⟩:=hval _ a0 a1 F hF c hc;have ev:(tOf d).vl ((i:Nat):Int) ((j:Nat):Int)=GL (tys d) c:=by
   show (match inh d ((tys d).getD (toNat ((i:Nat):Int)) 0) ((qe d).getD (toNat ((j:Nat):Int)) []) with|some c=>GL (tys d) c|none=>0)=_;rw [e2,hc]
  rw [aR] at hc;rw [o355 O hi e1,o356 O hi e1,hc,ev];exact ⟨rfl,rfl,by omega,by show _<((tys d).length:Int);omega⟩
 ·obtain ⟨i,rfl,hi⟩:=Cs a0 a1
  obtain ⟨j,F,rfl,e1,e2,hF⟩:=hft f f0 f1;have h1:inh d ((tys d).getD (toNat ((i:Nat):Int)) 0) F=none:=by
   cases e:inh d ((tys d).getD (toNat ((i:Nat):Int)) 0) F with
   |none=>rfl
   |some c=>exact absurd ((hin _ _ a0 a1 F hF e2).1 (by rw [e];rfl)) hs
  rw [aR] at h1;rw [o355 O hi e1,o356 O hi e1,h1];exact ⟨0,rfl,rfl⟩
 ·obtain ⟨j,F,rfl,e1,e2,hF⟩:=hft f f0 f1
  have a1:=h2.1;have b1:=h2.2.1;have h3:=(hin _ _ a1.1 a1.2 F hF e2).2 h1;obtain ⟨c,hc⟩:=kA.1 h3;obtain ⟨q,q1,q2,q3⟩:=hval _ a1.1 a1.2 F hF c hc;have h4:=inh_up h2.2.2 h3;obtain ⟨c',uB⟩:=kA.1 h4;obtain ⟨q',q1',q2',q3'⟩:=hval _ b1.1 b1.2 F hF c' uB;have ev:(tOf d).vl a ((j:Nat):Int)=(q:Int):=by
   show (match inh d ((tys d).getD a.toNat 0) ((qe d).getD (toNat ((j:Nat):Int)) []) with|some c=>GL (tys d) c|none=>0)=_;rw [e2,hc];exact q1
  have ev':(tOf d).vl b ((j:Nat):Int)=(q':Int):=by
   show (match inh d ((tys d).getD b.toNat 0) ((qe d).getD (toNat ((j:Nat):Int)) []) with|some c=>GL (tys d) c|none=>0)=_;rw [e2,uB];exact q1'
  rw [ev,ev'];refine ⟨⟨by omega,by omega⟩,⟨by omega,by omega⟩,?_⟩;rw [aR,aR,q3,q3'];exact aas h2.2.2 hc uB
 ·have:=K.G0 a.toNat b.toNat (by have:=h.1;omega) (by have:=h.2.1;omega) h.2.2
  have:=h.1;have:=h.2.1;omega
 ·obtain ⟨i,rfl,hi⟩:=Cs a0 a1
  obtain ⟨j,rfl,hj⟩:=Cs b0 b1;refine ⟨_,o339 HD hi hj,o340 HD hi hj,?_⟩;show _↔(tOf d).sb _ _;constructor
  ·intro h;exact ⟨⟨a0,a1⟩,⟨b0,b1⟩,by rw [aR,aR];exact h⟩
  ·intro h
   have:=h.2.2;rw [aR,aR] at this;exact this
end Go.Proofs.YthppjmoncapdfaaGreatDoor.cl.pf
namespace Go.Proofs.YthppjmoncapdfaaGreatDoor.cl
open Go Go.AM
theorem Xk {d:List aq}:ID d=0↔SA d=false∧vV [] d=0∧xA (jQ d) d=0∧CH d=1∧BX d:=by
 unfold ID;constructor
 ·intro h
  split at h
  ·cases h
  split at h
  ·rename_i h1;exact absurd h h1
  split at h
  ·rename_i h1;exact absurd h h1
  split at h
  ·cases h
  split at h
  ·rename_i h0 h1 h2 h3 h4
   exact ⟨by simpa using h0,dA h1,dA h2,dA h3,h4⟩
  ·cases h
 ·rintro ⟨a,b,c,e,f⟩
  rw [ak (by simp [a]),ak (fun h=>h b),ak (fun h=>h c),ak (fun h=>h e),au f]
def leT (tb:List (cG×List cG)) (x y:cG):Bool:=match tb.find? fun p=>p.1==x with
 |some p=>p.2.contains y
 |none=>false
def Ns (d:List aq) (x:cG):List cG→List cG→Bool
 |_,[]=>true
 |seen,y::l=>(y==x||d.any fun t=>t.Name==y&&t.dF.any fun s=>seen.contains s)&&Ns d x (y::seen) l
def tabOk (d:List aq) (tb:List (cG×List cG)):Bool:=
 (tb.all fun p=>Ns d p.1 [] p.2)&&(jQ d).all fun x=>leT tb x x&&(jQ d).all fun y=> !leT tb x y||(dn d y).all fun z=>leT tb x z
theorem Yg {d:List aq} {x:cG}:∀(l seen:List cG),Ns d x seen l=true→(∀s∈seen,Le d x s)→∀y∈l,Le d x y:=by
 intro l
 induction l with
 |nil=>intro seen _ _ y hy;cases hy
 |cons z l ih=>
  intro seen h hs y hy;unfold Ns at h;rw [aF,eY] at h;have hz:Le d x z:=by
   rcases h.1 with h1|h1
   ·rw [fu] at h1;rw [h1];exact .refl
   ·obtain ⟨t,ht,h2⟩:=j9.1 h1
    rw [aF,fu] at h2;obtain ⟨s,hss,h3⟩:=j9.1 h2.2;rw [Dj] at h3;exact .step (hs s h3) (Jk.2 ⟨t,ht,h2.1,hss⟩)
  rcases aD.1 hy with rfl|hy
  ·exact hz
  ·refine ih (z::seen) h.2 (fun s hs'=> ?_) y hy
   rcases aD.1 hs' with rfl|hs'
   ·exact hz
   ·exact hs s hs'
theorem tab_le {d:List aq} {tb:List (cG×List cG)} (h:tabOk d tb=true):∀x∈jQ d,∀y,Le d x y↔leT tb x y=true:=by
 unfold tabOk at h;rw [aF,cg,cg] at h;intro x hx y;have h2:=h.2 x hx;rw [aF,cg] at h2;have key:∀y,Le d x y→y∈jQ d∧leT tb x y=true:=by
  intro y hl
  induction hl with
  |refl=>exact ⟨hx,h2.1⟩
  |step _ hz ih=>
   refine ⟨S4 hz,?_⟩;have:=h2.2 _ ih.1;rw [eY,ih.2,cg] at this;rcases this with h3|h3
   ·cases h3
   ·exact h3 _ hz
 constructor
 ·intro hl
  exact (key y hl).2
 ·intro hl
  unfold leT at hl;split at hl
  ·rename_i p hp
   have XO:=oV hp;have hpe:p.1=x:=by simpa using oW hp
   rw [Dj] at hl;rw [←hpe];exact Yg p.2 [] (h.1 p XO) (fun s hs=>by cases hs) y hl
  ·cases hl
def rk (d:List aq) (s:cG):Nat:=(gP (fun t:aq=>t.Name==s) d 0).toNat
def chk0 (d:List aq):Bool:= !SA d&&vV [] d==0&&xA (jQ d) d==0&&CH d==1&&d.all fun t=>t.dF.all fun s=>Nat.blt (rk d s) (rk d t.Name)
theorem chk0_ok {d:List aq} (h:chk0 d=true):ID d=0:=by
 unfold chk0 at h;simp only [aF,fu,cg] at h;obtain ⟨⟨⟨⟨h1,h2⟩,h3⟩,h4⟩,h5⟩:=h;refine Xk.2 ⟨by simpa using h1,h2,h3,h4,rk d,fun t ht s hs=> ?_⟩;exact cV (h5 t ht s hs)
section
variable (d:List aq) (le:cG→cG→Bool)
def cwC (all:List cG) (x:cG):Nat:=mk 0 ((List.range all.length).filter fun i=>le x (all.getD i []))
def Xn:List Nat:=(iK d).map (cwC le (iK d))
def VZ (l:List cG):List cG:=(mD (l.filter fun s=>decide (s∈jQ d))).filter fun x=>(mD (l.filter fun s=>decide (s∈jQ d))).all fun y=>decide (y=x)|| !le y x
def uP (w:Nat):List cG→List Nat→Nat→List cG→cG
 |s::ss,c::cs,i,acc=>if c=w then s else uP w ss cs (i+1) (if w.testBit i=true then acc++[s] else acc)
 |_,_,_,acc=>sd [38] (VZ d le acc)
def ZP:List G5:=((zA (Xn d le)).map fun w=>((uP d le w (iK d) (Xn d le) 0 [],w):G5)).foldl (fun E p=>qV Af p E) []
def VF (F:cG):Option cG:=one (VZ d le (mD (r5 d F)))
def stpC (w:Nat) (F:cG) (o:Option Nat) (t:aq):Option Nat:=match val t F with
 |some v=>if sub w (cwC le (iK d) t.Name)=true then some (comb o (cwC le (iK d) v)) else o
 |none=>o
def inhC (w:Nat) (F:cG):Option Nat:=d.foldl (stpC d le w F) none
variable {d le} (hle:∀x∈jQ d,∀y,Le d x y↔le x y=true)
include hle
open Classical in
theorem SZ {all:List cG} {x:cG} (hx:x∈jQ d):cw d all x=cwC le all x:=by
 unfold cw idxs cwC
 congr 1
 refine rf fun i _=> ?_
 rw [iH,bB];exact hle x hx _
theorem Vi:oA d=Xn d le:=by
 unfold oA Xn;exact ia fun x hx=>SZ hle (gB.1 hx)
theorem Jj (l:List cG):vh d l=VZ d le l:=by
 unfold vh VZ;have hm:∀x∈mD (l.filter fun s=>decide (s∈jQ d)),x∈jQ d:=fun x hx=>by
  have:=(cL.1 (gB.1 hx)).2;simpa using this
 generalize mD (l.filter fun s=>decide (s∈jQ d))=m at hm;refine rf fun x hx=> ?_
 unfold rI;rw [iH,cg,cg];have key:∀y∈m,((decide (y=x)|| !(open Classical in decide (Le d y x)))=true↔(decide (y=x)|| !le y x)=true):=by
  intro y hy;have h1:=hle y (hm y hy) x;cases hl:le y x with
  |true=>
   have:Le d y x:=h1.2 hl;simp [this]
  |false=>
   have:¬Le d y x:=fun h=>by rw [h1.1 h] at hl;cases hl
   simp [this]
 constructor
 ·intro h y hy
  refine (key y hy).1 ?_;have:=h y hy;simpa using this
 ·intro h y hy
  have:=(key y hy).2 (h y hy);simpa using this
theorem Nj {w:Nat}:∀(ss:List cG) (cs:List Nat) (i:Nat) (acc:List cG),mM d w ss cs i acc=uP d le w ss cs i acc:=by
 intro ss
 induction ss with
 |nil=>intro cs i acc;cases cs<;>simp only [mM,uP,Jj hle]
 |cons s ss ih=>
  intro cs i acc;cases cs with
  |nil=>simp only [mM,uP,Jj hle]
  |cons c cs=>simp only [mM,uP,ih]
theorem ZQ:cN d=ZP d le:=by
 unfold cN ZP BJ;rw [Vi hle]
 congr 1
 exact ia fun w _=>by rw [Nj hle]
theorem aau (F:cG):Ac d F=VF d le F:=by unfold Ac VF;rw [Jj hle]
theorem inhC_eq (hV:Vd d) (w:Nat) (F:cG):inh d w F=inhC d le w F:=by
 have key:∀(l:List aq) (o:Option Nat),(∀t∈l,t∈d)→l.foldl (Bj d w F) o=l.foldl (stpC d le w F) o:=by
  intro l
  induction l with
  |nil=>intro o _;rfl
  |cons t l ih=>
   intro o h;rw [fR,fR];have ht:=h t (by simp);have e:Bj d w F o t=stpC d le w F o t:=by
    unfold Bj stpC;cases hv:val t F with
    |none=>rfl
    |some v=>
     simp only;rw [show cwd d t.Name=cwC le (iK d) t.Name from SZ hle (Jn ht),show cwd d v=cwC le (iK d) v from SZ hle (hV.val ht hv)]
   rw [e];exact ih _ fun u hu=>h u (by simp [hu])
 exact key d none fun t h=>h
end
structure At (d:List aq) (le:cG→cG→Bool) (E:List G5):Prop where
 hl:∀x∈jQ d,∀y,Le d x y↔le x y=true
 cN:ZP d le=E
 ID:ID d=0
theorem At.tys {d:List aq} {le:cG→cG→Bool} {E:List G5} (h:At d le E):tys d=E.map (·.2):=by
 unfold cl.tys;rw [ZQ h.hl,h.cN]
def chk5C (d:List aq) (le:cG→cG→Bool) (E:List G5):Int:=
 if (zA (Xn d le)).length>256 then 7 else if (qe d).length>64 then 7 else if qP (jQ d) d≠0 then qP (jQ d) d
 else if ((qe d).any fun F=>(VF d le F).isNone)=true then 10 else if ((E.map (·.2)).any fun w=>(qe d).any fun F=>inhC d le w F==some 0)=true then 11 else 0
theorem At.yz {d:List aq} {le:cG→cG→Bool} {E:List G5} (h:At d le E):yz d=chk5C d le E:=by
 unfold cl.yz chk5C;have h0:=h.ID;rw [ak (fun hh=>hh h0),Vi h.hl];by_cases h1:(zA (Xn d le)).length>256
 ·rw [au h1,au h1]
 ·rw [ak h1,ak h1]
  by_cases h2:(qe d).length>64
  ·rw [au h2,au h2]
  ·rw [ak h2,ak h2]
   by_cases h3:qP (jQ d) d=0
   ·have hn:¬(qP (jQ d) d≠0):=fun hh=>hh h3
    rw [ak hn,ak hn];have e1:Bc d (qe d)=(qe d).any fun F=>(VF d le F).isNone:=by
     unfold Bc
     congr 1
     funext F
     rw [aau h.hl]
    have e2:B1 d (cl.tys d)=(E.map (·.2)).any fun w=>(qe d).any fun F=>inhC d le w F==some 0:=by
     unfold B1;rw [h.tys]
     congr 1
     funext w
     congr 1
     funext F
     rw [inhC_eq h.hl (R1 h3)]
    rw [e1,e2]
   ·rw [au h3,au h3]
end Go.Proofs.YthppjmoncapdfaaGreatDoor.cl
set_option maxRecDepth 100000
namespace Go.Proofs.YthppjmoncapdfaaGreatDoor.cl.pf
open Go Go.AM
def szB (d:List aq):Bool:=Nat.ble d.length 64&&d.all fun t=>Nat.ble t.dF.length 20&&Nat.ble t.de.length 100
theorem acD {d:List aq} (h:szB d=true):Sz d∧d.length≤64∧Fz d:=by
 unfold szB at h;rw [aF,cg] at h;have h0:=cV h.1;have key:∀t∈d,t.dF.length≤20∧t.de.length≤100:=fun t ht=>by
  have:=h.2 t ht;rw [aF] at this;exact ⟨cV this.1,cV this.2⟩
 exact ⟨⟨by omega,fun t ht=>by have:=(key t ht).1;omega⟩,h0,fun t ht=>by have:=(key t ht).2;omega⟩
def TP:List (cG×List cG):=[([116,111,112],
  [[116,111,112],[108,105,115,116],[100,108,105,115,116],[105,110,100,101,120],[114,101,108],
   [113,101,113],[115,101,109],[115,105,103,110],[99,111,110,115],[110,117,108,108],
   [104,97,110,100,108,101],[101,118,101,110,116],[101,110,116,105,116,121]]),
 ([108,105,115,116],[[108,105,115,116],[99,111,110,115],[110,117,108,108]]),
 ([99,111,110,115],[[99,111,110,115]]),([110,117,108,108],[[110,117,108,108]]),
 ([100,108,105,115,116],[[100,108,105,115,116]]),
 ([105,110,100,101,120],
  [[105,110,100,101,120],[104,97,110,100,108,101],[101,118,101,110,116],
   [101,110,116,105,116,121]]),
 ([104,97,110,100,108,101],[[104,97,110,100,108,101]]),
 ([101,118,101,110,116],[[101,118,101,110,116]]),
 ([101,110,116,105,116,121],[[101,110,116,105,116,121]]),([114,101,108],[[114,101,108]]),
 ([113,101,113],[[113,101,113]]),([115,101,109],[[115,101,109]]),
 ([115,105,103,110],[[115,105,103,110]])]
def EP:List G5:=[([116,111,112],8191),([105,110,100,101,120],60),([108,105,115,116],193),([99,111,110,115],1),
  ([100,108,105,115,116],2),([101,110,116,105,116,121],4),([101,118,101,110,116],8),
  ([104,97,110,100,108,101],16),([110,117,108,108],128),([113,101,113],256),([114,101,108],512),
  ([115,101,109],1024),([115,105,103,110],2048)]
theorem atP:At NB (leT TP) EP:=⟨tab_le (by kernel_rfl),by kernel_rfl,chk0_ok (by kernel_rfl)⟩
theorem ckP:yz NB=0:=atP.yz.trans (by kernel_rfl)
theorem okP:Y3 NB:=by
 obtain ⟨z,h64,hf⟩:=acD (d:=NB) (by kernel_rfl);exact (Jy z h64 hf ckP).1
theorem x332:f332 NB=some (u9 NB,0):=by
 obtain ⟨z,h64,hf⟩:=acD (d:=NB) (by kernel_rfl);rw [c332 z h64 hf,au ckP]
theorem c403 {d:List aq} (z:Sz d) (hf:Fz d):∃(h:bZ) (t:TH),f403 d=some h∧t.OK h:=by
 have pre:Option.bind (f327) (fun cC=>Option.bind (f332 cC) fun er=>some er.1)=some (u9 NB):=by rw [c327,aA,x332,aA]
 by_cases hl:d.length≤20
 ·by_cases hc:yz d=0
  ·refine ⟨_,_,e403 ?_,MS (Jy z (by omega) hf hc).1⟩
   rw [cond_pos (by rw [bB];omega),c332 z (by omega) hf,aA,au hc,cond_pos (by rfl)]
  ·refine ⟨_,_,e403 ?_,MS okP⟩
   rw [cond_pos (by rw [bB];omega),c332 z (by omega) hf,aA,ak hc,cond_neg (by simpa using hc)];exact pre
 ·refine ⟨_,_,e403 ?_,MS okP⟩
  rw [cond_neg (by rw [bA];omega)];exact pre
end Go.Proofs.YthppjmoncapdfaaGreatDoor.cl.pf
