/- Equal, Check, Valid and Canonical (the references'). -/
import Derived.Test.YthppjmoncapdfaaGreatDoorClXo
set_option linter.all false
open List (replicate)
namespace Go.Proofs.YthppjmoncapdfaaGreatDoor.cl.pf
open Go Go.AM
def nmA (l:List cF):List Int:=l.flatMap fun a=>[a.aY,a.To]
def nmN (x:Node):List Int:=[x.eN,(x.cO.length:Int)]++nmA x.cO
def nmF (f:FSt):List Int:=(f.az.length:Int)::f.az.flatMap nmN
theorem Wa (l:List cF):(nmA l).length=2 *l.length:=by
 induction l with
 |nil=>rfl
 |cons a l ih=>simp only [nmA,pz,cQ,bg,eE] at ih⊢;omega
theorem V8:∀{l m:List cF} {x y:List Int},l.length=m.length→nmA l++x=nmA m++y→l=m∧x=y
 |[],[],x,y,_,h=>⟨rfl,by simpa [nmA] using h⟩
 |a::l,b::m,x,y,hl,h=>by
  simp only [nmA,pz,ff,dU,dz] at h;obtain ⟨h1,h2,h3⟩:=h;obtain ⟨e1,e2⟩:=V8 (l:=l) (m:=m) (by simpa using hl) h3;exact ⟨by rw [e1];congr 1;cases a;cases b;simp_all,e2⟩
 |[],b::m,_,_,hl,_=>by simp at hl
 |a::l,[],_,_,hl,_=>by simp at hl
theorem nmN_inj {a b:Node} {x y:List Int} (h:nmN a++x=nmN b++y):a=b∧x=y:=by
 simp only [nmN,ff,dU,dz] at h;obtain ⟨h1,h2,h3⟩:=h;obtain ⟨e1,e2⟩:=V8 (by omega) h3;exact ⟨by cases a;cases b;simp_all,e2⟩
theorem Wb:∀{l m:List Node} {x y:List Int},l.length=m.length→l.flatMap nmN++x=m.flatMap nmN++y→l=m∧x=y
 |[],[],x,y,_,h=>⟨rfl,by simpa using h⟩
 |a::l,b::m,x,y,hl,h=>by
  rw [pz,pz,fe,fe] at h;obtain ⟨e1,h2⟩:=nmN_inj h;obtain ⟨e2,e3⟩:=Wb (by simpa using hl) h2;exact ⟨by rw [e1,e2],e3⟩
 |[],b::m,_,_,hl,_=>by simp at hl
 |a::l,[],_,_,hl,_=>by simp at hl
theorem nmF_inj {a b:FSt} {x y:List Int} (h:nmF a++x=nmF b++y):a=b:=by
 simp only [nmF,ff,dz] at h;obtain ⟨h1,h2⟩:=h;have:=(Wb (by omega) h2).1;cases a;cases b;simp_all
structure Sm (f:FSt):Prop where
 n:f.az.length≤5000
 a:∀x∈f.az,x.cO.length≤1000
theorem h432_8 {f:FSt} {i:Nat} {res:List Int} {l:List cF} (hl:l.length≤1000):∀(xs:List cF) (k:Nat) (o:List Int),l.drop k=xs→o.length+2 *xs.length≤100000000→
  Ko (IntKind.wrap .i64 ((i:Int)+1)) f (o++nmA xs)=some res→OO (i:Int) l (k:Int) f o=some res:=by
 intro xs
 induction xs with
 |nil=>
  intro k o hd _ hr;refine abA ?_;rw [bI hd,aj];simpa [nmA] using hr
 |cons x xs ih=>
  intro k o hd ho hr;refine abA ?_;rw [bH hd,ai,aX hd,aX hd,cz _ (by simp at ho;omega) (by simp) (by omega),bJ hd (by omega)];refine ih (k+1) _ (aN hd) (by simp at ho⊢;omega) ?_;simpa [nmA] using hr
theorem h432_3 {f:FSt} (hf:Sm f):∀(xs:List Node) (i:Nat) (o:List Int),f.az.drop i=xs→o.length+2002 *xs.length≤100000000→Ko (i:Int) f o=some (o++xs.flatMap nmN):=by
 intro xs
 induction xs with
 |nil=>
  intro i o hd _;refine abz ?_;rw [bI hd,aj];simp
 |cons x xs ih=>
  intro i o hd ho;have hx:=hf.a x (aT (b9 hd));have hn:=hf.n;refine abz ?_;rw [bH hd,ai,aX hd,aX hd,cz _ (by simp at ho;omega) (by simp) (by omega)];refine h432_8 hx x.cO 0 _ rfl (by simp at ho⊢;omega) ?_;rw [bJ hd (by omega),ih (i+1) _ (aN hd) (by simp [Wa] at ho⊢;omega)];simp [nmN]
theorem c432 {f:FSt} (hf:Sm f):f432 f=some (nmF f):=by
 refine e432 ?_;exact h432_3 hf f.az 0 [(f.az.length:Int)] rfl (by have:=hf.n;simp;omega)
theorem Wc:∀{l:List Node},(∀x∈l,x.cO.length≤1000)→(l.flatMap nmN).length≤2002 *l.length
 |[],_=>by simp
 |x::l,h=>by
  have h1:=h x (by simp);have h2:=Wc (l:=l) fun y hy=>h y (by simp [hy])
  rw [pz,cQ,bg];simp only [nmN,cQ,bg,eE,Wa];omega
theorem nmF_len {f:FSt} (hf:Sm f):(nmF f).length≤1000000000:=by
 have:=Wc hf.a;have:=hf.n;simp only [nmF,bg];omega
theorem h418 {l m:List Int} (hl:l.length≤1000000000):∀(xs ys:List Int) (i:Nat),l.drop i=xs→m.drop i=ys→∃r,OF l m (i:Int)=some r∧(r=0↔∃x y,xs++x=ys++y):=by
 intro xs
 induction xs with
 |nil=>
  intro ys i hd hm;refine ⟨0,Jd ?_,⟨fun _=>⟨ys,[],by simp⟩,fun _=>rfl⟩⟩;rw [bI hd,aj]
 |cons a xs ih=>
  intro ys i hd hm;cases ys with
  |nil=>
   refine ⟨0,Jd ?_,⟨fun _=>⟨[],a::xs,by simp⟩,fun _=>rfl⟩⟩;rw [bH hd,ai,bI hm,aj]
  |cons b ys=>
   by_cases h1:a<b
   ·refine ⟨-1,Jd ?_,⟨fun e=>by omega,fun ⟨x,y,e⟩=>by simp at e;omega⟩⟩
    rw [bH hd,ai,bH hm,ai,aX hd,aX hm,cond_pos (by rw [bB];exact h1)]
   by_cases h2:a>b
   ·refine ⟨1,Jd ?_,⟨fun e=>by omega,fun ⟨x,y,e⟩=>by simp at e;omega⟩⟩
    rw [bH hd,ai,bH hm,ai,aX hd,aX hm,cond_neg (by rw [bA];exact h1),aX hd,aX hm,cond_pos (by rw [bB];exact h2)]
   have e:a=b:=by omega
   obtain ⟨r,g1,g2⟩:=ih ys (i+1) (aN hd) (aN hm);refine ⟨r,Jd ?_,g2.trans ?_⟩
   ·rw [bH hd,ai,bH hm,ai,aX hd,aX hm,cond_neg (by rw [bA];exact h1),aX hd,aX hm,cond_neg (by rw [bA];exact h2),bJ hd (by omega)];exact g1
   ·subst e;simp
theorem c407 {a b:FSt} (ha:Sm a) (hb:Sm b):∃r,f407 a b=some r∧(r=true↔a=b):=by
 obtain ⟨r,g1,g2⟩:=h418 (l:=nmF a) (m:=nmF b) (nmF_len ha) _ _ 0 rfl rfl;have hc:f418 a b=some r:=e418 (by rw [c432 ha,aA,c432 hb,aA];exact g1);refine ⟨r==0,e407 (by rw [hc,aA]),?_⟩;rw [fu,g2];exact ⟨fun ⟨x,y,e⟩=>nmF_inj e,fun e=>⟨[],[],by rw [e]⟩⟩
theorem c407_eq {a:FSt} (ha:Sm a):f407 a a=some true:=by
 obtain ⟨r,g1,g2⟩:=c407 ha ha;rw [g1,g2.2 rfl]
theorem srG_grF {f:FSt} (h:∀x∈f.az,EI x.cO):Fq f=nY f:=by
 unfold Fq nY
 congr 1
 funext n
 by_cases hn:n<f.az.length
 ·rw [AH hn,yX hn,srt_id (h _ (bF hn))];rfl
 ·rw [Hy (by omega)]
  unfold Gx;rw [fc (by omega)]
def InB (T F:Nat) (x:Node):Prop:=x.eN<(T:Int)∧∀a∈x.cO,a.aY<(F:Int)
theorem srG_go {T F:Nat} {f:FSt} (hg:zD f) (hs:∀x∈f.az,x.cO.length≤1000) (hb:∀x∈f.az,InB T F x):GO T F (Fq f) f.az.length:=by
 refine ⟨NY (hg.Sv fun x hx=>by have:=hs x hx;omega),fun n hn=> ?_,fun n hn p hp=> ?_,fun n hn=> ?_⟩
 ·show AU (Gx f n)
  rw [AH hn];have:=Wx (hg.2.2 _ (bF hn)).2.2;unfold AU;rw [iJ];exact this
 ·have hp:p∈Gx f n:=hp
  rw [AH hn] at hp;obtain ⟨a,ha,rfl⟩:=aB.1 hp;have ha:=(sY _).2.2 a|>.1 ha
  exact ⟨((hg.2.2 _ (bF hn)).2.1 a ha).1,(hb _ (bF hn)).2 a ha⟩
 ·show 0≤sg f n∧_
  have e:(Fq f).ty n=f.az[n].eN:=tZ hn;rw [e,tZ hn];exact ⟨(hg.2.2 _ (bF hn)).1,(hb _ (bF hn)).1⟩
theorem Can.jH {T F:Nat} {f:FSt} (h:Can T F f):∀x∈f.az,InB T F x:=fun x hx=>⟨(h.tyr hx).2,fun a ha=>((h.ao hx).ok a ha).1.2⟩
theorem Can.good {T F:Nat} {f:FSt} (h:Can T F f) (hn:f.az.length≤4096):zD f:=
 ⟨h.ne,hn,fun x hx=>⟨(h.tyr hx).1,fun a ha=>⟨((h.ao hx).ok a ha).1.1,((h.ao hx).ok a ha).2⟩,(h.ao hx).Bo.nd⟩⟩
theorem Can.sr {T F:Nat} {f:FSt} (h:Can T F f):mI (Fq f) f.az.length 0=f:=by
 rw [srG_grF fun x hx=>(h.ao hx).Bo];exact h.eq.symm
theorem Can.sm {T F:Nat} {f:FSt} (h:Can T F f) (hn:f.az.length≤5000) (hF:F≤1000):Sm f:=⟨hn,fun x hx=>by have:=(h.ao hx).len;omega⟩
theorem can_sr {T F:Nat} {f:FSt} (hg:zD f) (hs:∀x∈f.az,x.cO.length≤1000) (hb:∀x∈f.az,InB T F x):f=mI (Fq f) f.az.length 0↔Can T F f:=
 ⟨fun e=>by
  have:=SP (srG_go hg hs hb) hg.1
  rw [←e] at this;exact this,fun h=>h.sr.symm⟩
theorem sm_can {f:FSt} (hg:zD f) (hs:∀x∈f.az,x.cO.length≤1000):Sm (mI (Fq f) f.az.length 0):=by
 have hB:=NY (hg.Sv fun x hx=>by have:=hs x hx;omega);have hm:=uG (G:=Fq f) hB hg.1;have hl:=zk hm.nd hm.lt;refine ⟨by rw [IB];have:=hg.2.1;omega,fun x hx=> ?_⟩;obtain ⟨n,hn,rfl⟩:=aB.1 hx;have hnl:=hm.lt n hn;have e:(Fq f).sc n=_:=AH hnl;simp only [aW,e,(sY _).2.1];exact hs _ (bF hnl)
theorem h410_11 {h:bZ} {f g:FSt} {x:Node} {i:Nat} {P:Prop} (hx:x.cO.length≤1000) (hr:∃e,Kj (IntKind.wrap .i64 ((i:Int)+1)) h f g=some e∧(e=0↔P)):∀(xs:List cF) (k:Nat),x.cO.drop k=xs→
  ∃e,HI (i:Int) (k:Int) h f g x=some e∧(e=0↔(∀a∈xs,a.aY<(h.de.length:Int))∧P):=by
 intro xs
 induction xs with
 |nil=>
  intro k hd;obtain ⟨e,g1,g2⟩:=hr;refine ⟨e,M4 ?_,g2.trans ⟨fun q=>⟨fun a ha=>by (cases ha),q⟩,fun q=>q.2⟩⟩;rw [bI hd,aj];exact g1
 |cons a xs ih=>
  intro k hd;by_cases h1:a.aY≥(h.de.length:Int)
  ·refine ⟨2,M4 ?_,⟨fun e=>by omega,fun q=>by have:=q.1 a (by simp);omega⟩⟩
   rw [bH hd,ai,aX hd,cond_pos (by rw [bB];exact h1)]
  ·obtain ⟨e,g1,g2⟩:=ih (k+1) (aN hd)
   refine ⟨e,M4 ?_,g2.trans ⟨fun q=>⟨fun b hb=> ?_,q.2⟩,fun q=>⟨fun b hb=>q.1 b (by simp [hb]),q.2⟩⟩⟩
   ·rw [bH hd,ai,aX hd,cond_neg (by rw [bA];exact h1),bJ hd (by omega)];exact g1
   ·rcases aD.1 hb with rfl|hb
    ·omega
    ·exact q.1 b hb
theorem h410_5 {h:bZ} {f g:FSt} (hf:Sm f) (hg:Sm g):∀(xs:List Node) (i:Nat),f.az.drop i=xs→
  ∃e,Kj (i:Int) h f g=some e∧(e=0↔(∀x∈xs,InB h.Types.length h.de.length x)∧f=g):=by
 intro xs
 induction xs with
 |nil=>
  intro i hd;obtain ⟨r,g1,g2⟩:=c407 hf hg;cases r with
  |true=>
   refine ⟨0,M5 ?_,⟨fun _=>⟨fun x hx=>by (cases hx),g2.1 rfl⟩,fun _=>rfl⟩⟩;rw [bI hd,aj,g1,aA];rfl
  |false=>
   refine ⟨3,M5 ?_,⟨fun e=>by omega,fun q=>absurd (g2.2 q.2) (by simp)⟩⟩;rw [bI hd,aj,g1,aA];rfl
 |cons x xs ih=>
  intro i hd;have hx:=hf.a x (aT (b9 hd));have hn:=hf.n;by_cases h1:x.eN≥(h.Types.length:Int)
  ·refine ⟨2,M5 ?_,⟨fun e=>by omega,fun q=>by have:=(q.1 x (by simp)).1;omega⟩⟩
   rw [bH hd,ai,aX hd,cond_pos (by rw [bB];exact h1)]
  ·obtain ⟨e,g1,g2⟩:=h410_11 (i:=i) hx (by rw [bJ hd (by omega)];exact ih (i+1) (aN hd)) x.cO 0 rfl
   refine ⟨e,M5 ?_,g2.trans ⟨fun q=>⟨fun y hy=> ?_,q.2.2⟩,fun q=>⟨(q.1 x (by simp)).2,fun y hy=>q.1 y (by simp [hy]),q.2⟩⟩⟩
   ·rw [bH hd,ai,aX hd,cond_neg (by rw [bA];exact h1)];exact g1
   ·rcases aD.1 hy with rfl|hy
    ·exact ⟨by omega,q.1⟩
    ·exact q.2.1 y hy
theorem c410 {h:bZ} {f:FSt} (hs:∀x∈f.az,x.cO.length≤1000):∃e,f410 h f=some e∧(e=0↔Can h.Types.length h.de.length f∧f.az.length≤4096):=by
 rcases c421 (f:=f) (fun x hx=>by have:=hs x hx;omega) with ⟨hg,g1⟩|⟨hg,e,he,g1⟩
 ·have hn:=hg.2.1
  obtain ⟨e,q1,q2⟩:=h410_5 (h:=h) ⟨by omega,hs⟩ (sm_can hg hs) f.az 0 rfl;refine ⟨e,e410 ?_,q2.trans ⟨fun q=>⟨(can_sr hg hs q.1).1 q.2,hn⟩,fun q=>⟨q.1.jH,q.1.sr.symm⟩⟩⟩;rw [g1,aA,cond_neg (by rfl)];exact q1
 ·refine ⟨e,e410 ?_,⟨fun q=>absurd q he,fun q=>absurd (q.1.good q.2) hg⟩⟩
  rw [g1,aA,cond_pos (by rw [iI];exact he)]
structure Sj (f:FSt):Prop where
 n:f.az.length≤12
 a:∀x∈f.az,x.cO.length≤12
theorem c413 (f:FSt):∃r,f413 f=some r∧(r=true→Sj f):=by
 by_cases h1:f.az.length>12
 ·refine ⟨false,e413 ?_,fun e=>by cases e⟩
  rw [cond_pos (by rw [bB];omega)]
 have key:∀(xs:List Node) (i:Nat),f.az.drop i=xs→∃r,OE (i:Int) f=some r∧(r=true→∀x∈xs,x.cO.length≤12):=by
  intro xs
  induction xs with
  |nil=>
   intro i hd;refine ⟨true,TE ?_,fun _ x hx=>by cases hx⟩;rw [bI hd,aj]
  |cons x xs ih=>
   intro i hd;by_cases h2:x.cO.length>12
   ·refine ⟨false,TE ?_,fun e=>by cases e⟩
    rw [bH hd,ai,aX hd,cond_pos (by rw [bB];omega)]
   ·obtain ⟨r,g1,g2⟩:=ih (i+1) (aN hd)
    refine ⟨r,TE ?_,fun e y hy=> ?_⟩
    ·rw [bH hd,ai,aX hd,cond_neg (by rw [bA];omega),bJ hd (by omega)];exact g1
    ·rcases aD.1 hy with rfl|hy
     ·omega
     ·exact g2 e y hy
 obtain ⟨r,g1,g2⟩:=key f.az 0 rfl;refine ⟨r,e413 ?_,fun e=>⟨by omega,g2 e⟩⟩;rw [cond_neg (by rw [bA];omega)];exact g1
theorem Sj.sm {f:FSt} (h:Sj f):Sm f:=⟨by have:=h.n;omega,fun x hx=>by have:=h.a x hx;omega⟩
structure Val (T F:Nat) (f:FSt):Prop where
 lt:Sj f
 can:Can T F f
theorem c408 (h:bZ) (f:FSt):∃r,f408 h f=some r∧(r=true→Val h.Types.length h.de.length f):=by
 obtain ⟨r,g1,g2⟩:=c413 f;cases r with
 |false=>exact ⟨false,e408 (by rw [g1,aA];rfl),fun e=>by cases e⟩
 |true=>
  have hl:=g2 rfl;obtain ⟨e,q1,q2⟩:=c410 (h:=h) (f:=f) fun x hx=>by have:=hl.a x hx;omega
  refine ⟨e==0,e408 (by rw [g1,aA,ai,q1,aA]),fun he=>⟨hl,(q2.1 (by simpa using he)).1⟩⟩
end Go.Proofs.YthppjmoncapdfaaGreatDoor.cl.pf
namespace Go.Proofs.YthppjmoncapdfaaGreatDoor.cl.pf
open Go Go.AM
structure HX (h:bZ) (T F:Nat) (sb:Int→Int→Prop) (wD:Int→Int) (val:Int→Int→Int):Prop where
 hv:HV h T F sb wD val
 tl:h.Types.length=T
 ss:∀a b:Int,0≤a→a<(T:Int)→0≤b→b<(T:Int)→∃r,f339 h a b=some r∧f340 h a b=some r∧(r=true↔sb a b)
theorem c466 {x:Node} {f:Int} (hl:x.cO.length≤1000000):f466 x f=some (match fa x.cO f with|some a=>a.To|none=> -1):=by
 have key:∀(xs) (i),x.cO.drop i=xs→OU f x.cO (x.cO.length) (i) x=some (match fa xs f with|some a=>a.To|none=> -1):=by
  intro xs
  induction xs with
  |nil=>intro i hd;refine abG ?_;rw [bI hd];rfl
  |cons a xs ih=>
   intro i hd;refine abG ?_;rw [bH hd,aX hd,bJ hd (by omega),ih _ (aN hd)];unfold fa
   grind
 exact e466 (key _ 0 rfl)
structure MI (sb:Int→Int→Prop) (A B:FSt) (i:Nat) (m:List Int):Prop where
 len:m.length=A.az.length
 rg:∀j,j<A.az.length→m.getD j 0<(B.az.length:Int)
 rt:m.getD 0 0=0
 dn:∀j,j<i→0≤m.getD j 0∧sb (sg A j) (sg B (m.getD j 0).toNat)∧∀p∈kX A j,(p.1,(m.getD p.2 0).toNat)∈kX B (m.getD j 0).toNat∧0≤m.getD p.2 0
 hom:∀μ,EF sb (nY A) 0 (nY B) 0 μ→∀j,j<A.az.length→0≤m.getD j 0→m.getD j 0=(μ j:Nat)
theorem MI.r6 {sb:Int→Int→Prop} {A B:FSt} {i:Nat} {m:List Int} (M:MI sb A B i m) {t u:Nat} (ht:t<A.az.length) (hu:u<B.az.length) (hv:m.getD t 0<0∨m.getD t 0=(u:Int)) (hh:∀μ,EF sb (nY A) 0 (nY B) 0 μ→μ t=u):
  MI sb A B i (m.set t (u:Int))∧(∀j,0≤m.getD j 0→(m.set t (u:Int)).getD j 0=m.getD j 0)∧(m.set t (u:Int)).getD t 0=u:=by
 have htl:t<m.length:=by rw [M.len];exact ht
 have keep:∀j,0≤m.getD j 0→(m.set t (u)).getD j 0=m.getD j 0:=fun j hj=>by
  grind
 refine ⟨⟨by rw [jd];exact M.len,fun j hj=> ?_,?_,fun j hj=> ?_,fun μ hμ j hj h0=> ?_⟩,keep,by simp_all⟩
 ·rw [gi]
  split
  ·omega
  ·exact M.rg j hj
 ·rw [keep 0 (by rw [M.rt];omega)];exact M.rt
 ·obtain ⟨h0,h1,h2⟩:=M.dn j hj
  grind
 ·rw [gi] at h0⊢
  split
  ·simp_all
  ·rename_i e
   rw [ak e] at h0;exact M.hom _ hμ j hj h0
def Y6 (sb:Int→Int→Prop) (A B:FSt) (res:Option (List Int×Bool)):Prop:=∃l r,res=some (l,r)∧(r=true↔Le sb A B)
section
variable {h:bZ} {T F:Nat} {sb:Int→Int→Prop} {wD:Int→Int} {val:Int→Int→Int} (H:HX h T F sb wD val) {A B:FSt} (hA:Can T F A) (hB:Can T F B) (hAn:A.az.length≤100000) (hF:F≤1000)
include H hA hB hAn hF
theorem h423_16 {i:Nat} {x:Node} (hx:A.az[i]? =some x) {b:Nat} (hb:b<B.az.length)
  (hr:∀m',MI sb A B (i+1) m'→Y6 sb A B (Eu true A.az (A.az.length:Int) ((i+1:Nat):Int) h A B m')):
  ∀(xs:List cF) (k:Nat) (m:List Int),x.cO.drop k=xs→MI sb A B i m→m.getD i 0=(b:Int)→sb (sg A i) (sg B b)→
   (∀a∈x.cO.take k,(a.aY,(m.getD a.To.toNat 0).toNat)∈kX B b∧0≤m.getD a.To.toNat 0)→
   Y6 sb A B (uL true (b:Int) A.az (A.az.length:Int) (i:Int) x.cO (x.cO.length:Int) (k:Int) h A B x m):=by
 have hxm:=aT hx;have hin:i<A.az.length:=(bD.1 hx).1;have hscA:kX A i=Wu x:=by unfold kX;rw [hx]
 have hxl:=(hA.ao hxm).len;have YO:=bF hb;have wC:=(hB.ao YO).len;have hscB:kX B b=Wu B.az[b]:=yX hb;intro xs
 induction xs with
 |nil=>
  intro k m hd M hm hty hpr
  have hM:MI sb A B (i+1) m:=⟨M.len,M.rg,M.rt,fun j hj=>by
   by_cases e:j=i
   ·subst e
    rw [hm];refine ⟨by omega,by assumption,fun p hp=> ?_⟩;rw [hscA] at hp;obtain ⟨a,ha,rfl⟩:=aB.1 hp;rw [aR];have hk:x.cO.take k=x.cO:=jm (jU hd);exact hpr a (by rw [hk];exact ha)
   ·exact M.dn j (by omega),M.hom⟩
  obtain ⟨l,r,g1,g2⟩:=hr m hM;refine ⟨l,r,M8 ?_,g2⟩;rw [bI hd,aj,bG (by omega)];omega
 |cons a xs ih=>
  intro k m hd M hm hty hpr;have ham:a∈x.cO:=aT (b9 hd);have hao:=(hA.ao hxm).ok a ham;obtain ⟨t,ht⟩:=je hao.2.1;have Sc:t<A.az.length:=by have:=hao.2.2;omega
  have htt:a.To.toNat=t:=by omega
  have htl:t<m.length:=by rw [M.len];exact Sc
  have hsc:(a.aY,t)∈kX A i:=by
   rw [hscA];exact aB.2 ⟨a,ham,by rw [htt]⟩
  have hom1:∀μ,EF sb (nY A) 0 (nY B) 0 μ→(a.aY,μ t)∈kX B b:=fun μ hμ=>by
   have h1:=(hμ.2 i (hA.NJ hin)).2 _ hsc;have h2:=M.hom μ hμ i hin (by omega);rw [hm] at h2;have h3:μ i=b:=by omega
   rw [h3] at h1;exact h1
  have hk:=eo hd;cases e:fa B.az[b].cO a.aY with
  |none=>
   refine ⟨[],false,M8 ?_,⟨fun q=>by (cases q),fun ⟨μ,hμ⟩=> ?_⟩⟩
   ·rw [bH hd,ai,aX hd,cn hb,c466 (by omega),aA,e];rfl
   ·have h1:=hom1 μ hμ
    rw [hscB] at h1;obtain ⟨c,hc,hce⟩:=aB.1 h1;exact absurd (Prod.mk.inj hce).1 (Vn e c hc)
  |some c=>
   obtain ⟨hc,hcf⟩:=Mz e;have hco:=(hB.ao YO).ok c hc;obtain ⟨u,hu⟩:=je hco.2.1;have hun:u<B.az.length:=by have:=hco.2.2;omega
   have hscu:(a.aY,u)∈kX B b:=by
    rw [hscB];exact aB.2 ⟨c,hc,by simp_all⟩
   have hhom:∀μ,EF sb (nY A) 0 (nY B) 0 μ→μ t=u:=fun μ hμ=>(hB.Bo b).Lp (hom1 μ hμ) hscu
   have cont:(m.getD t 0<0∨m.getD t 0=(u:Int))→Y6 sb A B (uL true (b:Int) A.az (A.az.length:Int) (i:Int) x.cO (x.cO.length:Int) ((k+1:Nat):Int) h A B x (m.set t (u:Int))):=fun hv=>by
    obtain ⟨M2,keep,at_⟩:=M.r6 Sc hun hv hhom;refine ih (k+1) _ (aN hd) M2 (by rw [keep i (by rw [hm];omega)];exact hm) hty fun a' KI=> ?_
    rw [c8,b9 hd] at KI;rcases bC.1 KI with KI|KI
    ·simp_all
    simp_all
   have pre:∀res:List Int×Bool,(bif decide (m.getD t 0≥0) then (bif m.getD t 0 !=(u:Int) then some (([]:List Int),false) else uL true (b:Int) A.az (A.az.length:Int) (i:Int) x.cO (x.cO.length:Int) ((k+1:Nat):Int) h A B x (m.set t (u:Int))) else uL true (b:Int) A.az (A.az.length:Int) (i:Int) _ _ _ h A B x _)=some res→
     uL _ _ _ _ _ _ _ _ h A B x m=some _:=fun res hres=>by
    refine M8 ?_;have c6:=c466 (x:=B.az[b]) (f:=a.aY) (by omega);rw [e] at c6;have c6:f466 _ _=some c.To:=c6;rw [bH hd,ai,aX hd,cn hb,c6,aA,hu,cond_neg (by rfl),ht,CM htl,CM htl,CM htl,bJ hd (by omega),aR];omega
   by_cases hg:m.getD t 0≥0
   ·by_cases hne:m.getD t 0=(u)
    ·obtain ⟨l,r,g1,g2⟩:=cont (.inr hne)
     grind
    ·refine ⟨[],false,pre _ ?_,⟨fun q=>by (cases q),fun ⟨μ,hμ⟩=> ?_⟩⟩
     ·grind
     ·exact absurd (by rw [M.hom _ hμ t Sc hg,hhom _ hμ]) hne
   ·obtain ⟨l,r,g1,g2⟩:=cont (.inl (by omega))
    grind
theorem h423_10:∀(k i:Nat) (m:List Int),A.az.length=i+k→MI sb A B i m→Y6 sb A B (Eu true A.az (A.az.length:Int) (i:Int) h A B m):=by
 intro k
 induction k with
 |zero=>
  intro i m hi M;refine ⟨m,_,M7 ?_,⟨fun _=>⟨fun j=>(m.getD j 0).toNat,?_,fun j hj=> ?_⟩,fun _=>rfl⟩⟩
  ·simp_all
  ·show (m.getD 0 0).toNat=0
   rw [M.rt];rfl
  ·obtain ⟨h0,h1,h2⟩:=M.dn j (by have:=hA.Yr hj;omega)
   exact ⟨h1,fun p hp=>(h2 p hp).1⟩
 |succ k ih=>
  intro i m hi M;have hin:i<A.az.length:=by omega
  have hil:i<m.length:=by rw [M.len];exact hin
  have h0:0≤m.getD i 0:=by
   by_cases e:i=0
   ·subst e;rw [M.rt];omega
   ·obtain ⟨j,hj,p,hp,hpi⟩:=hA.pred (by omega) hin
    have:=((M.dn j hj).2.2 p hp).2;simp_all
  obtain ⟨b,hb⟩:=je h0;have Pa:b<B.az.length:=by have:=M.rg i hin;omega
  have hta:=hA.tyr (bF hin);have htb:=hB.tyr (bF Pa);obtain ⟨r,s1,_,s3⟩:=H.ss _ _ hta.1 hta.2 htb.1 htb.2;have eA :=tZ hin;have eB :=tZ Pa;cases r with
  |false=>
   refine ⟨[],false,M7 ?_,⟨fun q=>by (cases q),fun ⟨μ,hμ⟩=> ?_⟩⟩
   ·rw [cond_pos (by grind),cn hin,CM hil,hb,cn Pa,s1];rfl
   ·have h1:=(hμ.2 i (hA.NJ hin)).1
    have h2:=M.hom _ hμ i hin h0;have h3:μ i=b:=by omega
    rw [h3] at h1;have h1:sb (sg A i) (sg B b):=h1;simp_all
  |true=>
   have hs:=s3.1 rfl;rw [←eA,←eB] at hs;obtain ⟨l,r,g1,g2⟩:=h423_16 H hA hB hAn hF (aH hin) Pa (fun m' M'=>ih _ _ (by omega) M') _ 0 m rfl M hb hs (fun a ha=>by cases ha);refine ⟨l,r,M7 ?_,g2⟩;rw [cond_pos (by grind),cn _,CM hil,hb,cond_neg (by rfl),cn Pa,s1,aA,cond_neg (by rfl)];omega
theorem c423:Y6 sb A B (f423 h A B):=by
 have h0:=hA.ne;have M:MI sb A B 0 ((replicate A.az.length (-1:Int)).set 0 0):=by
  have hg:∀j,((replicate A.az.length (-1:Int)).set 0 0).getD j 0=if j=0 then 0 else if j<A.az.length then-1 else 0:=fun j=>by
   grind
  refine ⟨by simp,fun j hj=> ?_,by simp_all,fun j hj=>absurd hj (by omega),fun μ hμ j hj hj0=> ?_⟩
  ·rw [hg]
   have:=hB.ne;omega
  ·rw [hg] at hj0⊢
   by_cases e:j=0
   ·subst e
    rw [au rfl,hμ.1];rfl
   omega
 obtain ⟨l,r,g1,g2⟩:=h423_10 H hA hB hAn hF A.az.length 0 _ (by omega) M;have key:∀(k i:Nat),A.az.length=i+k→OG (A.az.length:Int) (i:Int) h A B (replicate i (-1)++replicate k 0)=some (l,r):=by
  intro k
  induction k with
  |zero=>
   simp_all [abp,Int.toNat,replicate,kg,cond_neg,bp,MK]
  |succ k ih=>
   intro i hi;refine abp ?_;have hl:i<(replicate i (-1)++replicate (k+1) 0).length:=by simp
   rw [cond_pos (by grind),CM hl,aR,bG (by omega)];have e:(replicate i (-1)++replicate (k+1) 0).set i (-1)=replicate (i+1) (-1)++replicate k 0:=by
    rw [zM,pE];simp
   grind
 refine ⟨l,r,e423 ?_,g2⟩
 grind [bp,Int.toNat_natCast]
theorem c412:∃r,f412 h A B=some r∧(r=true↔Le sb A B):=by
 obtain ⟨l,r,g1,g2⟩:=c423 H hA hB hAn hF;simp_all [e412]
end
theorem Ie:∀l:List cF,wq (l.map cF.enc)=some (l.map fun a=>(a.aY,a.To))
 |[]=>rfl
 |x::l=>by
  show (wq _).map _=_;rw [Ie l];rfl
end Go.Proofs.YthppjmoncapdfaaGreatDoor.cl.pf
namespace Go.Proofs.YthppjmoncapdfaaGreatDoor.cl.pf
open Go Go.AM
theorem rdG {α R:Type} {l:List α} {i:Nat} {x:α} (h:l[i]? =some x) (k:α→Option R):check (0≤(i:Int)∧Int.toNat (i:Int)<l.length) (gj l (Int.toNat (i:Int)) k)=k x:=by
 rw [DB (bD.1 h).1,aR,iD h]
def gN (f:FSt):List zF:=f.az.map fun x=>(x.eN,x.cO.map fun a=>(a.aY,a.To))
theorem Ge:∀l:List Node,vW (l.map Node.enc)=some (l.map fun x=>(x.eN,x.cO.map fun a=>(a.aY,a.To)))
 |[]=>rfl
 |x::l=>by
  rw [aP,aP]
  show (match wq (x.cO.map cF.enc),vW (l.map Node.enc) with
   |some a,some r=>some ((x.eN,a)::r)
   |_,_=>none)=_
  rw [Ie,Ge l]
theorem wY:∀(ns:List Int) (ps out:List (List Int)) (t:Int) (p:List Int),ns.length=ps.length→DU out (ns++[t]) (ps++[p])=(DU out ns ps).set t.toNat p
 |[],[],out,t,p,_=>rfl
 |n::ns,q::ps,out,t,p,h=>wY ns ps (out.set n.toNat q) t p (by simpa using h)
 |[],_::_,_,_,_,h=>by cases h
 |_::_,[],_,_,_,h=>by cases h
abbrev Qs:=List (Nat×List Int)
def Gf (qs:Qs):List Int:=qs.map fun a=>(a.1:Int)
def NC (qs:Qs):List (List Int):=qs.map (·.2)
structure BI (f:FSt) (i:Nat) (sn:List Bool) (qs:Qs) (out:List (List Int)):Prop where
 nd:(qs.map (·.1)).Nodup
 lt:∀a∈qs,a.1<f.az.length
 sl:sn.length=f.az.length
 se:∀x,x<f.az.length→(sn.getD x false=true↔x∈qs.map (·.1))
 hd:qs[0]? =some (0,[])
 at_:∀a∈qs,BZ f a.2=some a.1
 ln:∀(j:Nat) a,qs[j]? =some a→a.2.length≤j
 pr:∀a∈qs,a.2=[]∨∃b∈qs,∃g,a.2=b.2++[g]
 mo:qs.Pairwise fun a b=>a.2.length≤b.2.length
 up:∀b,qs[i]? =some b→∀a∈qs,a.2.length≤b.2.length+1
 cl:∀(j:Nat) b,j<i→qs[j]? =some b→∀p∈kX f b.1,∃a∈qs,a.1=p.2∧a.2.length≤b.2.length+1
 oe:out=DU (replicate f.az.length []) (Gf qs) (NC qs)
 ol:out.length=f.az.length
 oa:∀a∈qs,out[a.1]? =some a.2
theorem BI.le {f:FSt} {i:Nat} {sn:List Bool} {qs:Qs} {out:List (List Int)} (I:BI f i sn qs out):qs.length≤f.az.length:=by
 have:=zk I.nd (N:=f.az.length) fun x hx=>by
  obtain ⟨a,ha,rfl⟩:=aB.1 hx;exact I.lt a ha
 simpa using this
theorem BI.snoc {T F:Nat} {f:FSt} (hf:Can T F f) {i:Nat} {sn:List Bool} {qs:Qs} {out:List (List Int)} (I:BI f i sn qs out) {b:Nat×List Int} (hb:qs[i]? =some b) {g:Int} {t:Nat} (hs:(g,t)∈kX f b.1) (hno:t∉qs.map (·.1)):
  BI f i (sn.set t true) (qs++[(t,b.2++[g])]) (out.set t (b.2++[g])):=by
 have hil:i<qs.length:=(bD.1 hb).1;have YO:=aT hb;have Sc:t<f.az.length:=hf.bd b.1 (I.lt b YO) _ hs;have hN:=I.le;refine ⟨?_,fun a ha=> ?_,by rw [jd];exact I.sl,fun x hx=> ?_,?_,fun a ha=> ?_,fun j a ha=> ?_,fun a ha=> ?_,?_,fun c hc a ha=> ?_,fun j c hj hc p hp=> ?_,?_,by rw [jd];exact I.ol,fun a ha=> ?_⟩
 ·rw [bT,jq]
  refine ⟨I.nd,by simp,fun x hx y hy=> ?_⟩;simp at hy;subst hy;exact fun e=>hno (e▸hx)
 ·rcases bC.1 ha with ha|ha
  ·exact I.lt a ha
  ·simp at ha;subst ha;exact Sc
 ·rw [gi,bT,bC]
  by_cases e:t=x
  ·subst e
   rw [au ⟨rfl,by rw [I.sl];exact hx⟩];simp
  ·rw [ak (fun h=>e h.1),I.se x hx]
   simp only [aP,dV,bP];exact ⟨.inl,fun h=>h.elim id fun h=>absurd h.symm e⟩
 ·rw [di (by omega)];exact I.hd
 ·rcases bC.1 ha with ha|ha
  ·exact I.at_ a ha
  ·simp at ha;subst ha
   exact zT.2 ⟨_,I.at_ b YO,(uK (hf.Bo b.1)).2 hs⟩
 ·by_cases hj:j<qs.length
  ·rw [di hj] at ha;exact I.ln j a ha
  ·have hj2:j=qs.length:=by
    have:=(bD.1 ha).1;simp at this;omega
   subst hj2;simp at ha;subst ha;have:=I.ln i b hb;simp;omega
 ·rcases bC.1 ha with ha|ha
  ·rcases I.pr a ha with h|⟨c,hc,h⟩
   ·exact .inl h
   ·exact .inr ⟨c,eC _ hc,h⟩
  ·simp at ha;subst ha
   exact .inr ⟨b,eC _ YO,g,rfl⟩
 ·rw [ri]
  refine ⟨I.mo,by simp,fun a ha c hc=> ?_⟩;simp at hc;subst hc;have:=I.up b hb a ha;simpa using this
 ·rw [di hil,hb] at hc
  cases hc;rcases bC.1 ha with ha|ha
  ·exact I.up b hb a ha
  ·simp at ha;subst ha;simp
 ·rw [di (by omega)] at hc
  obtain ⟨a,ha,h⟩:=I.cl j c hj hc p hp;exact ⟨a,eC _ ha,h⟩
 ·have:DU (replicate f.az.length []) (Gf (qs++[(t,b.2++[g])])) (NC (qs++[(t,b.2++[g])]))=(DU (replicate f.az.length []) (Gf qs) (NC qs)).set t (b.2++[g]):=by
   unfold Gf NC;rw [bT,bT];exact wY _ _ _ _ _ (by simp)
  rw [this,←I.oe]
 ·rcases bC.1 ha with ha|ha
  ·have:t≠a.1:=fun e=>hno (e▸aB.2 ⟨a,ha,rfl⟩)
   rw [gJ this];exact I.oa a ha
  ·simp at ha;subst ha
   rw [lQ (by rw [I.ol];exact Sc)]
theorem BI.next {f:FSt} {i:Nat} {sn:List Bool} {qs:Qs} {out:List (List Int)} (I:BI f i sn qs out) {b:Nat×List Int} (hb:qs[i]? =some b) (hc:∀p∈kX f b.1,∃a∈qs,a.1=p.2∧a.2.length≤b.2.length+1):BI f (i+1) sn qs out:=by
 refine { I with up:=fun c hc a ha=> ?_,cl:=fun j c hj uB=> ?_ }
 ·have h1:=I.up b hb a ha
  obtain ⟨hi,e⟩:=bD.1 hb;obtain ⟨hi',e'⟩:=bD.1 hc;have:=(lK.1 I.mo) i (i+1) hi hi' (by omega);rw [e,e'] at this;omega
 ·by_cases e:j=i
  ·subst e
   rw [hb] at uB;cases uB;exact hc
  ·exact I.cl j c (by omega) uB
section
variable {T F:Nat} {f:FSt} (hf:Can T F f) (hn:f.az.length≤100000) (hF:F≤1000)
include hf hn hF
theorem bi_arcs {i:Nat} {x:Node} {b:Nat×List Int} (hx:f.az[b.1]? =some x):∀(xs:List cF) (k:Nat) (sn:List Bool) (qs:Qs) (out:List (List Int)),x.cO.drop k=xs→BI f i sn qs out→qs[i]? =some b→
  ∃sn' Wr out',GI b.2 (xs.map fun a=>(a.aY,a.To)) sn (Gf qs) (NC qs)=some (sn',Gf Wr,NC Wr)∧BI f i sn' Wr out'∧(∃m,Wr=qs++m)∧(∀a∈xs,∃c∈Wr,c.1=a.To.toNat∧c.2.length≤b.2.length+1)∧
   ∀r,Kk ((i+1:Nat):Int) f out' sn' (Gf Wr)=some r→Et (i:Int) x.cO (k:Int) f out sn (Gf qs)=some r:=by
 have hao:=hf.ao (aT hx);have hal:=hao.len;have hsc:kX f b.1=Wu x:=by unfold kX;rw [hx]
 intro xs
 induction xs with
 |nil=>
  intro k sn qs out hd I hb;refine ⟨sn,qs,out,rfl,I,⟨[],by simp⟩,fun a ha=>by (cases ha),fun r hr=>M6 ?_⟩;have:=I.le;have hil:i<qs.length:=(bD.1 hb).1;rw [bI hd,aj,bG (by omega)];exact hr
 |cons a xs ih=>
  intro k sn qs out hd I hb;have hil:i<qs.length:=(bD.1 hb).1;have hN:=I.le;have YO:=aT hb;have ham:=aT (b9 hd);have ha:=hao.ok a ham;obtain ⟨t,ht⟩:=je ha.2.1;have Sc:t<f.az.length:=by omega
  have htt:a.To.toNat=t:=by omega
  have hs:(a.aY,t)∈kX f b.1:=by rw [hsc];exact aB.2 ⟨a,ham,by rw [htt]⟩
  have DR:t<sn.length:=by rw [I.sl];exact Sc
  have hsg:sn[t]? =some (sn.getD t false):=by rw [aQ,aH DR];rfl
  have ebf:GI b.2 ((a.aY,a.To)::xs.map fun a=>(a.aY,a.To)) sn (Gf qs) (NC qs)=bif sn.getD t false then GI b.2 (xs.map fun a=>(a.aY,a.To)) sn (Gf qs) (NC qs) else GI b.2 (xs.map fun a=>(a.aY,a.To)) (sn.set t true) (Gf qs++[a.To]) (NC qs++[b.2++[a.aY]]):=by
   rw [GI,htt,hsg];simp only [];rw [ak (by omega)]
  rw [aP,ebf];cases e:sn.getD t false with
  |true=>
   obtain ⟨sn',Wr,out',g1,g2,⟨m,rfl⟩,g4,g5⟩:=ih (k+1) sn qs out (aN hd) I hb;refine ⟨sn',_,out',g1,g2,⟨m,rfl⟩,fun c hc=> ?_,fun r hr=>M6 ?_⟩
   ·rcases aD.1 hc with rfl|hc
    ·obtain ⟨d,hd1,hd2⟩:=aB.1 ((I.se t Sc).1 e)
     exact ⟨d,eC _ hd1,by rw [hd2,htt],I.up b hb d hd1⟩
    ·exact g4 c hc
   ·rw [bH hd,ai,aX hd,ht,rdG hsg,e,cond_neg (by rfl),bJ hd (by omega)]
    exact g5 r hr
  |false=>
   have hno:t∉qs.map (·.1):=fun h=>by rw [(I.se t Sc).2 h] at e;cases e
   have I2:=I.snoc hf hb hs hno;have en:Gf (qs++[(t,b.2++[a.aY])])=Gf qs++[a.To]:=by unfold Gf;rw [bT,ht];rfl
   have ep:NC (qs++[(t,b.2++[a.aY])])=NC qs++[b.2++[a.aY]]:=by unfold NC;rw [bT];rfl
   obtain ⟨sn',Wr,out',g1,g2,⟨m,rfl⟩,g4,g5⟩:=ih (k+1) _ _ _ (aN hd) I2 (by rw [di hil];exact hb);rw [en,ep] at g1;refine ⟨sn',_,out',g1,g2,⟨_,by rw [fe]⟩,fun c hc=> ?_,fun r hr=>M6 ?_⟩
   ·rcases aD.1 hc with rfl|hc
    ·exact ⟨(t,b.2++[c.aY]),by simp,htt.symm,by simp⟩
    ·exact g4 c hc
   ·have KW:=I.ln i b hb
    have h1:(Gf qs)[i]? =some (b.1:Int):=by unfold Gf;rw [cZ,hb];rfl
    have h2:=I.oa b YO;have h3:out[t]? =some (out.getD t []):=by rw [aQ,aH (by rw [I.ol];exact Sc)];rfl
    have h4:(Gf qs).length=qs.length:=by unfold Gf;simp
    rw [bH hd,ai,aX hd,ht,rdG hsg,e,cond_pos (by rfl),aX hd,ht,rdG hsg,aX hd,rdG h1,rdG h2,cz _ (by simp) (by omega) (by omega),aX hd,cz _ (by simp;omega) (by simp) (by omega),ht,rdG h3,aX hd,cz _ (by omega) (by simp) (by omega),bJ hd (by omega)];have:=g5 r hr;rw [en] at this;simpa using this
theorem bi_all:∀(k i:Nat) (sn:List Bool) (qs:Qs) (out:List (List Int)),f.az.length<k+i→i≤qs.length→BI f i sn qs out→
  ∃sn' Wr out',bfs (gN f) k i sn (Gf qs) (NC qs)=some (Gf Wr,NC Wr)∧Kk (i:Int) f out sn (Gf qs)=some out'∧BI f Wr.length sn' Wr out':=by
 intro k
 induction k with
 |zero=>intro i sn qs out h1 h2 I;have:=I.le;omega
 |succ k ih=>
  intro i sn qs out h1 h2 I;have hN:=I.le;have h4:(Gf qs).length=qs.length:=by unfold Gf;simp
  have h5:(NC qs).length=qs.length:=by unfold NC;simp
  by_cases hi:i=qs.length
  ·subst hi
   refine ⟨sn,qs,out,?_,abn ?_,I⟩
   ·rw [bfs,fc (by omega)]
   ·rw [cond_neg (by rw [bA];omega)]
  ·have hil:i<qs.length:=by omega
   have hb:qs[i]? =some qs[i]:=aH hil;generalize qs[i]=b at hb;have YO:=aT hb;have wC:=I.lt b YO;have hx:f.az[b.1]? =some f.az[b.1]:=aH wC;obtain ⟨sn',Wr,out',g1,g2,⟨m,rfl⟩,g4,g5⟩:=bi_arcs hf hn hF hx f.az[b.1].cO 0 sn qs out rfl I hb;have hb':(qs++m)[i]? =some b:=by rw [di hil];exact hb
   have g3:=g2.next hb' fun p hp=>by
    have:kX f b.1=Wu f.az[b.1]:=yX wC;rw [this] at hp;obtain ⟨a,ha,rfl⟩:=aB.1 hp;exact g4 a ha
   obtain ⟨sn2,qs2,out2,q1,q2,q3⟩:=ih (i+1) sn' _ out' (by omega) (by rw [cQ];omega) g3;have n1:(Gf qs)[i]? =some (b.1:Int):=by unfold Gf;rw [cZ,hb];rfl
   have n2:(NC qs)[i]? =some b.2:=by unfold NC;rw [cZ,hb];rfl
   refine ⟨sn2,qs2,out2,?_,abn ?_,q3⟩
   ·rw [bfs,n1,n2]
    simp only [aR];have:(gN f)[b.1]? =some (f.az[b.1].eN,f.az[b.1].cO.map fun a=>(a.aY,a.To)):=by unfold gN;rw [cZ,hx];rfl
    rw [this];simp only [];rw [g1];exact q1
   ·rw [cond_pos (by rw [bB];omega),rdG n1,gW hx]
    exact g5 _ q2
structure Fst (f:FSt) (P:List (List Int)):Prop where
 len:P.length=f.az.length
 at_:∀i,i<f.az.length→BZ f (P.getD i [])=some i
 zero:P.getD 0 []=[]
 ln:∀i,i<f.az.length→(P.getD i []).length≤f.az.length
 arc:∀i,i<f.az.length→∀p∈kX f i,(P.getD p.2 []).length≤(P.getD i []).length+1
 pre:∀p∈P,∀j,p.take j∈P
theorem Z4:∃P,f415 f=some P∧f416 f=some P∧Fst f P:=by
 have h0:=hf.ne;have I0:BI f 0 ((replicate f.az.length false).set 0 true) [(0,[])] (replicate f.az.length []):=by
  refine ⟨by simp,fun a ha=>by simp at ha;subst ha;exact h0,by simp,fun x hx=> ?_,rfl,fun a ha=>by simp at ha;subst ha;rfl,fun j a ha=> ?_,fun a ha=>by simp at ha;subst ha;exact .inl rfl,by simp,fun c hc a ha=>by simp at ha;subst ha;simp,fun j c hj=>absurd hj (by omega),?_,by simp,fun a ha=> ?_⟩
  ·rw [gi]
   by_cases e:0=x
   ·subst e;simp [h0]
   ·rw [ak (fun h=>e h.1),aQ,jD,au hx]
    simp;omega
  ·cases j with
   |zero=>simp at ha;subst ha;simp
   |succ j=>simp at ha
  ·show _=(replicate f.az.length []).set 0 []
   apply kE;intro j;rw [oP];by_cases e:0=j
   ·subst e;simp [h0]
   ·rw [ak e]
  ·simp at ha;subst ha;simp [h0]
 obtain ⟨sn,qs,P,g1,g2,I⟩:=bi_all hf hn hF (f.az.length+1) 0 _ _ _ (by omega) (by simp) I0;have hall:∀x,x<f.az.length→∃a∈qs,a.1=x:=by
  intro x hx;have hr:=hf.NJ hx;have:x∈qs.map (·.1):=by
   clear hx
   induction hr with
   |root=>exact aB.2 ⟨(0,[]),aT I.hd,rfl⟩
   |step _ hp ih=>
    obtain ⟨a,ha,rfl⟩:=aB.1 ih;obtain ⟨j,hj⟩:=iq.1 ha;obtain ⟨c,hc,e,_⟩:=I.cl j a (bD.1 hj).1 hj _ hp;exact aB.2 ⟨c,hc,e⟩
  obtain ⟨a,ha,e⟩:=aB.1 this;exact ⟨a,ha,e⟩
 have hP:∀a∈qs,P.getD a.1 []=a.2:=fun a ha=>by rw [aQ,I.oa a ha];rfl
 have hl:=I.le;refine ⟨P,?_,e416 ?_,⟨I.ol,fun i hi=> ?_,?_,fun i hi=> ?_,fun i hi p hp=> ?_,fun p hp j=> ?_⟩⟩
 ·refine jM (E:=EN Q6) ?_
  refine qU ?_
  show (match vW (f.az.map Node.enc) with
   |some g=>bif Nat.blt 0 g.length&&Nat.ble g.length 1073741824 then (yF g).map fun (ps:List (List Int))=>(AV.eH 1 (ps.map fun (p:List Int)=>[AV.eH 1 (p.map fun (n:Int)=>[AV.int .i64 n])]),[]) else none
   |none=>none)=_
  rw [Ge];have hg:(gN f).length=f.az.length:=by unfold gN;simp
  have hp:yF (gN f)=some P:=by
   unfold yF;rw [hg];have:bfs (gN f) (f.az.length+1) 0 ((replicate f.az.length false).set 0 true) [0] [[]]=some (Gf qs,NC qs):=g1;rw [this,I.oe];rfl
  have MP:Nat.blt 0 (gN f).length=true:=jA (by omega);have KW:Nat.ble (gN f).length 1073741824=true:=jA (by omega);show (bif Nat.blt 0 (gN f).length&&Nat.ble (gN f).length 1073741824 then (yF (gN f)).map _ else none)=_;rw [MP,KW,hp];rfl
 ·rw [bp ⟨by omega,by omega,by omega,by omega⟩,bp ⟨by omega,by omega,by omega,by omega⟩,aR,bp ⟨by omega,by simpa using h0⟩,iD (x:=false) (by simp [h0])]
  exact g2
 ·obtain ⟨a,ha,rfl⟩:=hall i hi
  rw [hP a ha];exact I.at_ a ha
 ·exact hP (0,[]) (aT I.hd)
 ·obtain ⟨a,ha,rfl⟩:=hall i hi
  obtain ⟨j,hj⟩:=iq.1 ha;have:=I.ln j a hj;have:=(bD.1 hj).1;rw [hP a ha];omega
 ·obtain ⟨a,ha,rfl⟩:=hall i hi
  obtain ⟨j,hj⟩:=iq.1 ha;obtain ⟨c,hc,e,h⟩:=I.cl j a (bD.1 hj).1 hj _ hp;rw [←e,hP a ha,hP c hc];exact h
 ·have key:∀(n:Nat) (a:Nat×List Int),a∈qs→a.2.length≤n→∃c∈qs,a.2.take j=c.2:=by
   intro n
   induction n with
   |zero=>
    intro a ha h;have:a.2=[]:=nC.1 (by omega);exact ⟨a,ha,by rw [this];simp⟩
   |succ n ih=>
    intro a ha h;by_cases hj:a.2.length≤j
    ·exact ⟨a,ha,jm hj⟩
    ·rcases I.pr a ha with e|⟨b,hb,g,e⟩
     ·exact ⟨a,ha,by rw [e];simp⟩
     ·rw [e,cQ,ij] at h hj
      obtain ⟨c,hc,e2⟩:=ih b hb (by omega);refine ⟨c,hc,?_⟩;rw [e,uu (by omega)];exact e2
  obtain ⟨i,hi⟩:=iq.1 hp;have hil:=(bD.1 hi).1;rw [I.ol] at hil;obtain ⟨a,ha,rfl⟩:=hall i hil;rw [I.oa a ha] at hi;cases hi;obtain ⟨c,hc,e⟩:=key _ a ha (aS _);rw [e];exact aT (I.oa c hc)
end
theorem c445 {p q:List Int} (hp:p.length≤1000000):∃r,f445 p q=some r∧f484 p q=some r∧(r=true↔p=q):=by
 by_cases hl:p.length=q.length
 ·have key:∀(xs ys:List Int) (i:Nat),p.drop i=xs→q.drop i=ys→xs.length=ys.length→∃r,OT p q (i:Int)=some r∧OX p q (p.length:Int) (i:Int)=some r∧(r=true↔xs=ys):=by
   intro xs
   induction xs with
   |nil=>
    intro ys i hd hd2 IY;have:ys=[]:=nC.1 (by simpa using IY.symm);subst this;refine ⟨true,TI ?_,TN ?_,by simp⟩<;>rw [bI hd,aj]
   |cons x xs ih=>
    intro ys i hd hd2 IY;cases ys with
    |nil=>cases IY
    |cons y ys=>
     by_cases e:x=y
     ·obtain ⟨r,g1,g2,g3⟩:=ih ys (i+1) (aN hd) (aN hd2) (by simpa using IY)
      refine ⟨r,TI ?_,TN ?_,g3.trans (by rw [e];simp)⟩<;>rw [bH hd,ai,aX hd,aX hd2,cond_neg (by rw [rD];exact e),bJ hd (by omega)]
      ·exact g1
      ·exact g2
     ·refine ⟨false,TI ?_,TN ?_,by simp [e]⟩<;>rw [bH hd,ai,aX hd,aX hd2,cond_pos (by rw [iI];exact e)]
  obtain ⟨r,g1,g2,g3⟩:=key p q 0 rfl rfl hl;refine ⟨r,e445 ?_,e484 ?_,g3⟩
  ·rw [cond_neg (by rw [rD];omega)];exact g1
  ·rw [cond_neg (by rw [rD];omega)];exact g2
 ·refine ⟨false,e445 ?_,e484 ?_,⟨fun e=>by (cases e),fun e=>absurd (by rw [e]) hl⟩⟩<;>rw [cond_pos (by rw [iI];omega)]
theorem c460 {l:List Int} (hl:l.length≤1000000):f460 l=some l:=by
 refine jM (E:=EN Q24) ?_;refine qU ?_;have hb:Nat.ble ((List.map (bX .i64) l).length *8) 140737488355328=true:=jA (by rw [aW];omega);show (bif Nat.ble ((List.map (bX .i64) l).length *8) 140737488355328 then _ else _)=_;rw [hb];rfl
def CE (P:List (List Int)) (n:Nat) (l:List cF):List fq:=
 l.filterMap fun a=>if P.getD n []++[a.aY]=P.getD a.To.toNat [] then none else some ⟨P.getD a.To.toNat [],P.getD n []++[a.aY]⟩
def tY (P:List (List Int)):Nat→List Node→List fq
 |_,[]=>[]
 |n,x::l=>CE P n x.cO++tY P (n+1) l
theorem RN {P:List (List Int)} {n:Nat} (l:List cF):(CE P n l).length≤l.length:=CW _ _
theorem RO {P:List (List Int)}:∀(n:Nat) (l:List Node),(∀x∈l,x.cO.length≤12)→(tY P n l).length≤12 *l.length
 |_,[],_=>by simp [tY]
 |n,x::l,h=>by
  have h1:=RN (P:=P) (n:=n) x.cO;have h2:=h x (by simp);have h3:=RO (P:=P) (n+1) l fun y hy=>h y (by simp [hy])
  rw [tY,cQ,bg];omega
section
variable {T F:Nat} {f:FSt} (hf:Can T F f) (hl:Sj f) (hF:F≤1000)
include hf hl hF
theorem shr_ok:∃P,f415 f=some P∧f416 f=some P∧Fst f P∧f429 f=some (tY P 0 f.az)∧f409 f=some (tY P 0 f.az):=by
 have hn:=hl.n;obtain ⟨P,p1,p2,hP⟩:=Z4 hf (by omega) hF;refine ⟨P,p1,p2,hP,?_⟩;have hg:∀i,i<f.az.length→P[i]? =some (P.getD i []):=fun i hi=>by rw [aQ,aH (by rw [hP.len];exact hi)];rfl
 have inner:∀{i:Nat} {x:Node},f.az[i]? =some x→∀(xs:List cF) (k:Nat) (o:List fq),x.cO.drop k=xs→o.length+xs.length≤1000000→∀r,
   (Km P f.az (f.az.length:Int) ((i+1:Nat):Int) f (o++CE P i xs)=some r→Kn P (i:Int) f.az (f.az.length:Int) (i:Int) x.cO (x.cO.length:Int) (k:Int) f o x=some r)∧
   (Kh P ((i+1:Nat):Int) f (o++CE P i xs)=some r→Ki P (i:Int) x.cO (k:Int) f o=some r):=by
  intro i x hx xs;have hin:i<f.az.length:=(bD.1 hx).1;have hxm:=aT hx;have hal:=hl.a x hxm;have hao:=hf.ao hxm;have CL:=hP.ln i hin
  induction xs with
  |nil=>
   intro k o hd _ r;refine ⟨fun hr=>TF ?_,fun hr=>TD ?_⟩<;>rw [bI hd,aj,bG (by omega)]<;>simpa [CE] using hr
  |cons a xs ih=>
   intro k o hd ho r;have ha:=hao.ok a (aT (b9 hd));obtain ⟨t,ht⟩:=je ha.2.1;have Sc:t<f.az.length:=by omega
   have htt:a.To.toNat=t:=by omega
   have hgt:∀{R:Type} (K:List Int→Option R),bw P a.To K=K (P.getD t []):=fun K=>by rw [ht,gW (hg t Sc)]
   obtain ⟨q,q1,q2,q3⟩:=c445 (p:=P.getD i []++[a.aY]) (q:=P.getD t []) (by rw [cQ,ij];omega);have hk:=eo hd;rw [bg] at ho;cases q with
   |true=>
    have e:=q3.1 rfl;have es:CE P i (a::xs)=CE P i xs:=by unfold CE;rw [xG,htt,au e]
    rw [es];obtain ⟨r1,r2⟩:=ih (k+1) o (aN hd) (by omega) r;refine ⟨fun hr=>TF ?_,fun hr=>TD ?_⟩
    ·rw [bH hd,ai,aX hd,gW (hg i hin),c460 (by omega),aA,cz _ (by omega) (by simp) (by omega),hgt,q2,aA,cond_neg (by rfl),bG (by omega)]
     exact r1 hr
    ·rw [bH hd,ai,gW (hg i hin),cz _ (by simp) (by omega) (by omega),aX hd,cz _ (by rw [dU];omega) (by simp) (by omega),aX hd,hgt,dU,q1,aA,cond_neg (by rfl),bG (by omega)]
     exact r2 hr
   |false=>
    have e:¬P.getD i []++[a.aY]=P.getD t []:=fun e=>by have:=q3.2 e;cases this
    have es:CE P i (a::xs)=⟨P.getD t [],P.getD i []++[a.aY]⟩::CE P i xs:=by unfold CE;rw [xG,htt,ak e]
    rw [es];obtain ⟨r1,r2⟩:=ih (k+1) (o++[⟨P.getD t [],P.getD i []++[a.aY]⟩]) (aN hd) (by simp;omega) r;rw [fe] at r1 r2;refine ⟨fun hr=>TF ?_,fun hr=>TD ?_⟩
    ·rw [bH hd,ai,aX hd,gW (hg i hin),c460 (by omega),aA,cz _ (by omega) (by simp) (by omega),hgt,q2,aA,cond_pos (by rfl),hgt,cz _ (by omega) (by simp) (by omega),bG (by omega)]
     exact r1 hr
    ·rw [bH hd,ai,gW (hg i hin),cz _ (by simp) (by omega) (by omega),aX hd,cz _ (by rw [dU];omega) (by simp) (by omega),aX hd,hgt,dU,q1,aA,cond_pos (by rfl),aX hd,hgt,cz _ (by omega) (by simp) (by omega),bG (by omega)]
     exact r2 hr
 have outer:∀(xs:List Node) (i:Nat) (o:List fq),f.az.drop i=xs→o.length+12 *xs.length≤1000000→
   Km P f.az (f.az.length:Int) (i:Int) f o=some (o++tY P i xs)∧Kh P (i:Int) f o=some (o++tY P i xs):=by
  intro xs
  induction xs with
  |nil=>
   intro i o hd _;refine ⟨abw ?_,abm ?_⟩<;>rw [bI hd,aj]<;>simp [tY]
  |cons x xs ih=>
   intro i o hd ho;rw [bg] at ho;have hx:=b9 hd;have hal:=hl.a x (aT hx);have DR:=RN (P:=P) (n:=i) x.cO;obtain ⟨r1,r2⟩:=ih (i+1) (o++CE P i x.cO) (aN hd) (by rw [cQ];omega);have es:o++tY P i (x::xs)=o++CE P i x.cO++tY P (i+1) xs:=by rw [tY,fe]
   rw [es];obtain ⟨i1,i2⟩:=inner hx x.cO 0 o rfl (by omega) (o++CE P i x.cO++tY P (i+1) xs);refine ⟨abw ?_,abm ?_⟩
   ·rw [bH hd,ai,aX hd];exact i1 r1
   ·rw [bH hd,ai,aX hd];exact i2 r2
 obtain ⟨r1,r2⟩:=outer f.az 0 [] rfl (by simp;omega);refine ⟨e429 ?_,e409 ?_⟩
 ·rw [p1,aA];exact r1
 ·rw [p2,aA];exact r2
theorem Ww {P:List (List Int)} (hP:Fst f P):∀s∈tY P 0 f.az,∃i k,∃g,i<f.az.length∧(g,k)∈kX f i∧s.A=P.getD k []∧s.B=P.getD i []++[g]∧s.A≠s.B∧BZ f s.A=some k∧BZ f s.B=some k∧¬s.B<+:s.A:=by
 have key:∀(xs:List Node) (i:Nat),f.az.drop i=xs→∀s∈tY P i xs,∃i k,∃g,i<f.az.length∧(g,k)∈kX f i∧s.A=P.getD k []∧s.B=P.getD i []++[g]∧s.A≠s.B:=by
  intro xs
  induction xs with
  |nil=>intro i _ s hs;cases hs
  |cons x xs ih=>
   intro i hd s hs;rw [tY,bC] at hs;rcases hs with hs|hs
   ·unfold CE at hs
    obtain ⟨a,ha,e⟩:=fV.1 hs;split at e
    ·cases e
    ·rename_i hne
     cases e;have hsc:kX f i=Wu x:=by unfold kX;rw [b9 hd]
     exact ⟨i,a.To.toNat,a.aY,eo hd,by rw [hsc];exact aB.2 ⟨a,ha,rfl⟩,rfl,rfl,fun h=>hne h.symm⟩
   ·exact ih (i+1) (aN hd) s hs
 intro s hs;obtain ⟨i,k,g,hi,hm,eA,eB,hne⟩:=key f.az 0 rfl s hs;have hk:k<f.az.length:=hf.bd i hi _ hm;refine ⟨i,k,g,hi,hm,eA,eB,hne,by rw [eA];exact hP.at_ k hk,?_,fun h=> ?_⟩
 ·rw [eB];exact zT.2 ⟨i,hP.at_ i hi,(uK (hf.Bo i)).2 hm⟩
 ·have h1:(P.getD k []).length≤_:=hP.arc i hi _ hm
  have h2:=h.length_le;rw [eA,eB,cQ,ij] at h2;exact hne (h.eq_of_length (by rw [eA,eB,cQ,ij];omega)).symm
theorem shr_all {P:List (List Int)} {i k:Nat} {g:Int} (hi:i<f.az.length) (hm:(g,k)∈kX f i) (hne:¬P.getD i []++[g]=P.getD k []):(⟨P.getD k [],P.getD i []++[g]⟩:fq)∈tY P 0 f.az:=by
 have key:∀(xs:List Node) (j:Nat),f.az.drop j=xs→j≤i→(⟨P.getD k [],P.getD i []++[g]⟩:fq)∈tY P j xs:=by
  intro xs
  induction xs with
  |nil=>intro j hd hj;have:=jU hd;omega
  |cons x xs ih=>
   intro j hd hj;rw [tY,bC];by_cases e:j=i
   ·subst e
    left
    have hsc:kX f j=Wu x:=by unfold kX;rw [b9 hd]
    rw [hsc] at hm;obtain ⟨a,ha,e⟩:=aB.1 hm;cases e;exact fV.2 ⟨a,ha,ak hne⟩
   ·exact .inr (ih (j+1) (aN hd) (by omega))
 exact key f.az 0 rfl (by omega)
end
end Go.Proofs.YthppjmoncapdfaaGreatDoor.cl.pf
