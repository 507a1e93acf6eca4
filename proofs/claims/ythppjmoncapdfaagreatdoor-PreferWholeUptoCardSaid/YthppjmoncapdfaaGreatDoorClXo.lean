/- The same value at two paths (the program's Equate). -/
import Derived.Test.YthppjmoncapdfaaGreatDoorClXm
set_option linter.all false
open Go.IntKind (wrap)
open Int (toNat)
open List (length replicate)
namespace Go.Proofs.YthppjmoncapdfaaGreatDoor.cl.pf
open Go Go.AM
def Se (a b:Int):Prop:=a=0∧b=0
theorem to0:TO 1 Se:=⟨fun h=>by have:=h.1;omega,fun h=>by have:=h.2;omega,fun h h'=>⟨by omega,by omega⟩,fun h h'=>⟨h.1,h'.2⟩,fun h h'=>by rw [h.1,h.2],fun h h'=>⟨rfl,by omega⟩⟩
theorem Can.up {T T' F:Nat} {f:FSt} (h:Can T F f) (hT:T≤T'):Can T' F f:=
 ⟨h.ne,⟨h.go.bd,h.go.Bo,h.go.ft,fun n hn=>⟨(h.go.tp n hn).1,by have:=(h.go.tp n hn).2;omega⟩⟩,h.eq⟩
structure YL (F:Nat) (A B:List Int) (f:FSt):Prop where
 can:Can 1 F f
 at_:∃k,BZ f A=some k∧BZ f B=some k
 least:∀(C:FSt) (T':Nat) (sb:Int→Int→Prop),TO T' sb→Can T' F C→(∃k,BZ C A=some k∧BZ C B=some k)→Le sb f C
theorem YL.uniq {F:Nat} {A B:List Int} {f g:FSt} (h1:YL F A B f) (h2:YL F A B g):f=g:=
 Le.anti to0 h1.can h2.can (h1.least g 1 Se to0 h2.can h2.at_) (h2.least f 1 Se to0 h1.can h1.at_)
theorem YL.le {F T:Nat} {sb:Int→Int→Prop} (hT:TO T sb) {A B:List Int} {f C:FSt} (h:YL F A B f) (hT1:1≤T) (hC:Can T F C):Le sb f C↔∃k,BZ C A=some k∧BZ C B=some k:=by
 constructor
 ·rintro ⟨m,hm⟩
  obtain ⟨k,h1,h2⟩:=h.at_;exact ⟨m k,Jg (h.can.up hT1) hC hm h1,Jg (h.can.up hT1) hC hm h2⟩
 ·exact h.least C T sb hT hC
theorem le_zero {T F:Nat} {sb:Int→Int→Prop} (hT:TO T sb) {f C:FSt} (hf:Can 1 F f) (hC:Can T F C) (h:Le Se f (LV C (replicate C.az.length 0))):Le sb f C:=by
 obtain ⟨m,hm⟩:=h;have hl:(replicate C.az.length (0:Int)).length=C.az.length:=by simp
 have hz:Can 1 F (LV C (replicate C.az.length 0)):=hC.LV hl fun i hi=>by
  rw [aQ,jD,au hi];simp
 refine ⟨m,hm.1,fun i hi=>⟨?_,fun p hp=> ?_⟩⟩
 ·have h1:=hf.go.tp i (hf.Yr hi)
  have e:(nY f).ty i=0:=by omega
  rw [e];have hr:=hz.Yr (hm.NJ hi);rw [Eg hl] at hr;have:=hC.go.tp _ hr;exact hT.top this.1 this.2
 ·have:=(hm.2 i hi).2 p hp
  have e:(nY (LV C (replicate C.az.length 0))).sc=(nY C).sc:=NU hl;rw [e] at this;exact this
theorem Zv {T F:Nat} {C:FSt} (hC:Can T F C):Can 1 F (LV C (replicate C.az.length 0)):=hC.LV (by simp) fun i hi=>by
 rw [aQ,jD,au hi];simp
def BA (A B:List Int):List Node:=[⟨0,[]⟩]++(qN A 0).az.map (shN 1)++(qN B 0).az.map (shN (A.length+2))
section
variable {F:Nat} {A B:List Int} (hA:∀f∈A,0≤f∧f<(F:Int)) (hB:∀f∈B,0≤f∧f<(F:Int))
theorem yD:(BA A B).length=A.length+B.length+3:=by
 unfold BA;simp [gz];omega
theorem eqL_0:(BA A B)[0]? =some ⟨0,[]⟩:=rfl
theorem eqL_a {i:Nat} (h:i<A.length+1):(BA A B)[i+1]? =some (shN 1 ((qN A 0).az[i]'(by rw [gz];exact h))):=by
 unfold BA;rw [fe,List.singleton_append,oT,di (by simp [gz];omega),cZ,aH (by rw [gz];exact h)];rfl
theorem eqL_b {i:Nat} (h:i<B.length+1):(BA A B)[i+(A.length+2)]? =some (shN (A.length+2) ((qN B 0).az[i]'(by rw [gz];exact h))):=by
 unfold BA;rw [gr (by simp [gz]),cZ];have:i+(A.length+2)-([(⟨0,[]⟩:Node)]++(qN A 0).az.map (shN 1)).length=i:=by simp [gz]
 rw [this,aH (by rw [gz];exact h)];rfl
theorem EW {x:Nat} (hx:x<A.length+B.length+3):x=0∨(∃i,i<A.length+1∧x=i+1)∨∃i,i<B.length+1∧x=i+(A.length+2):=by
 by_cases h0:x=0
 ·exact .inl h0
 ·by_cases h1:x<A.length+2
  ·exact .inr (.inl ⟨x-1,by omega,by omega⟩)
  ·exact .inr (.inr ⟨x-(A.length+2),by omega,by omega⟩)
include hA hB
theorem IL {x:Node} (hx:x∈BA A B):AO F (A.length+B.length+3) x.cO∧x.eN=0:=by
 obtain ⟨j,hj⟩:=iq.1 hx;have hjl:=(bD.1 hj).1;rw [yD] at hjl;have cA:=sO (T:=1) (by omega) hA ⟨jE 0,by omega⟩;have cB:=sO (T:=1) (by omega) hB ⟨jE 0,by omega⟩;rcases EW hjl with rfl|⟨i,hi,rfl⟩|⟨i,hi,rfl⟩
 ·rw [eqL_0] at hj;cases hj
  exact ⟨⟨List.Pairwise.nil,fun a ha=>by cases ha⟩,rfl⟩
 ·rw [eqL_a hi] at hj;cases hj
  have hm:(qN A 0).az[i]'(by rw [gz];exact hi)∈(qN A 0).az:=bF _;have h1:=cA.ao hm;have h2:=cA.tyr hm;have lA:=gz A 0;have lB:=gz B 0;refine ⟨h1.sh (by omega),?_⟩;unfold shN;simp only;omega
 ·rw [eqL_b hi] at hj;cases hj
  have hm:(qN B 0).az[i]'(by rw [gz];exact hi)∈(qN B 0).az:=bF _;have h1:=cB.ao hm;have h2:=cB.tyr hm;have lA:=gz A 0;have lB:=gz B 0;refine ⟨h1.sh (by omega),?_⟩;unfold shN;simp only;omega
theorem Vl {i:Nat} (hi:i<A.length+1):(lG (BA A B)).sc (i+1)=(kX (qN A 0) i).map fun p=>(p.1,p.2+1):=by
 have hl:i+1<(BA A B).length:=by rw [yD];omega
 have e:=(bD.1 (eqL_a (A:=A) (B:=B) hi)).2;have cA:=sO (T:=1) (by omega) hA ⟨jE 0,by omega⟩;have hi':i<(qN A 0).az.length:=by rw [gz];exact hi
 rw [VY hl,e,yX hi'];exact Wv (cA.ao (bF hi'))
theorem Vm {i:Nat} (hi:i<B.length+1):(lG (BA A B)).sc (i+(A.length+2))=(kX (qN B 0) i).map fun p=>(p.1,p.2+(A.length+2)):=by
 have hl:i+(A.length+2)<(BA A B).length:=by rw [yD];omega
 have e:=(bD.1 (eqL_b (A:=A) (B:=B) hi)).2;have cB:=sO (T:=1) (by omega) hB ⟨jE 0,by omega⟩;have hi':i<(qN B 0).az.length:=by rw [gz];exact hi
 rw [VY hl,e,yX hi'];exact Wv (cB.ao (bF hi'))
theorem My {x:Nat} (hx:x<A.length+B.length+3):(lG (BA A B)).ty x=0:=by
 have hl:x<(BA A B).length:=by rw [yD];exact hx
 rw [lG_ty hl];exact (IL hA hB (bF hl)).2
theorem eqL_sc0:(lG (BA A B)).sc 0=[]:=rfl
theorem eqL_bd:Bd (lG (BA A B)).sc (A.length+B.length+3):=fun x hx p hp=>by
 have hl:x<(BA A B).length:=by rw [yD];exact hx
 rw [VY hl] at hp;obtain ⟨a,ha,rfl⟩:=aB.1 hp;have:=((IL hA hB (bF hl)).1.ok a ha).2;show a.To.toNat<_;omega
abbrev eqW (A B:List Int):List (Nat×Nat):=[(0,1),(1,A.length+2),(1+A.length,A.length+2+B.length)]
theorem eq_sol {C:FSt} {T':Nat} (hC:Can T' F C) (h:∃k,BZ C A=some k∧BZ C B=some k):
  YM Se (lG (BA A B)) (A.length+B.length+3) (eqW A B) (nY (LV C (replicate C.az.length 0))) (fun x=>if x=0 then 0 else if x<A.length+2 then O9 (nY C) A (x-1) else O9 (nY C) B (x-(A.length+2))):=by
 obtain ⟨k,hkA,hkB⟩:=h;have hl:(replicate C.az.length (0:Int)).length=C.az.length:=by simp
 have esc:(nY (LV C (replicate C.az.length 0))).sc=(nY C).sc:=NU hl;have ety:∀y,(nY (LV C (replicate C.az.length 0))).ty y=0:=fun y=>by
  show sg _ y=0;by_cases hy:y<C.az.length
  ·rw [Uy hl hy,aQ,jD,au hy];rfl
  ·unfold sg;rw [fc (by rw [Eg hl];omega)]
 have a0:O9 (nY C) A 0=0:=rfl;have b0:O9 (nY C) B 0=0:=rfl;refine ⟨fun x hx=>⟨My hA hB hx,ety _⟩,fun x hx p hp=> ?_,fun p hp=> ?_⟩
 ·rw [esc]
  rcases EW hx with rfl|⟨i,hi,rfl⟩|⟨i,hi,rfl⟩
  ·rw [eqL_sc0 hA hB] at hp;cases hp
  ·rw [Vl hA hB hi] at hp
   obtain ⟨q,hq,rfl⟩:=aB.1 hp;by_cases hi2:i<A.length
   ·rw [zZ hi2] at hq;simp at hq;subst hq
    show (A[i],if i+1+1=0 then 0 else if i+1+1<A.length+2 then _ else _)∈(nY C).sc (if i+1=0 then 0 else if i+1<A.length+2 then _ else _);rw [ak (by omega),au (by omega),ak (by omega),au (by omega)];exact uU hC.Lp hkA hi2
   ·have e:i=A.length:=by omega
    rw [e,qF] at hq;cases hq
  ·rw [Vm hA hB hi] at hp
   obtain ⟨q,hq,rfl⟩:=aB.1 hp;by_cases hi2:i<B.length
   ·rw [zZ hi2] at hq;simp at hq;subst hq
    show (B[i],if i+1+(A.length+2)=0 then 0 else if i+1+(A.length+2)<A.length+2 then _ else _)∈(nY C).sc (if i+(A.length+2)=0 then 0 else if i+(A.length+2)<A.length+2 then _ else _);rw [ak (by omega),ak (by omega),ak (by omega),ak (by omega),oR,oR];exact uU hC.Lp hkB hi2
   ·have e:i=B.length:=by omega
    rw [e,qF] at hq;cases hq
 ·simp only [eqW,aD,fF,fW] at hp
  rcases hp with rfl|rfl|rfl
  ·simp [a0]
  ·simp [a0,b0]
  ·show (if 1+A.length=0 then 0 else if 1+A.length<A.length+2 then _ else _)=(if A.length+2+B.length=0 then 0 else if A.length+2+B.length<A.length+2 then _ else _)
   rw [ak (by omega),au (by omega),ak (by omega),ak (by omega),Di,Di,CQ hkA,CQ hkB]
theorem eq_shr {G:Gr} {ρ:Nat→Nat} (hU:Uni 1 F Se (lG (BA A B)) (A.length+B.length+3) (eqW A B) G ρ):YL F A B (mI G (A.length+B.length+3) (ρ 0))∧
  ∀P,(∀i,i≤A.length→A.take i∈P)→(∀i,i<B.length→B.take i∈P)→YK (mI G (A.length+B.length+3) (ρ 0)) P:=by
 have h0:0<A.length+B.length+3:=by omega
 have hc:=hU.can h0;have cA:=sO (T:=1) (by omega) hA ⟨jE 0,by omega⟩;have cB:=sO (T:=1) (by omega) hB ⟨jE 0,by omega⟩;have q0:=hU.sol.eq (0,1) (by simp);have q1:=hU.sol.eq (1,A.length+2) (by simp);have q2:=hU.sol.eq (1+A.length,A.length+2+B.length) (by simp);simp only at q0 q1 q2
 have homA:=hU.part to0 h0 (A:=nY (qN A 0)) (s:=0) (e:=fun i=>i+1) (fun i hi=>by
  have hi2:=cA.Yr hi;rw [gz] at hi2;refine ⟨by show i+1<_;omega,?_,Vl hA hB hi2⟩;have:=cA.tyr (bF (by rw [gz];exact hi2:i<(qN A 0).az.length));have e2:(nY (qN A 0)).ty i=_:=tZ (by rw [gz];exact hi2:i<(qN A 0).az.length)
  rw [My hA hB (by omega),e2];omega) (by show ρ (0+1)=ρ 0;exact q0.symm)
 have homB:=hU.part to0 h0 (A:=nY (qN B 0)) (s:=0) (e:=fun i=>i+(A.length+2)) (fun i hi=>by
  have hi2:=cB.Yr hi;rw [gz] at hi2;refine ⟨by show i+(A.length+2)<_;omega,?_,Vm hA hB hi2⟩;have:=cB.tyr (bF (by rw [gz];exact hi2:i<(qN B 0).az.length));have e2:(nY (qN B 0)).ty i=_:=tZ (by rw [gz];exact hi2:i<(qN B 0).az.length)
  rw [My hA hB (by omega),e2];omega) (by show ρ (0+(A.length+2))=ρ 0;rw [gE,q0];exact q1.symm)
 have atA:∀i,i≤A.length→BZ (mI G (A.length+B.length+3) (ρ 0)) (A.take i)=some ((j4 G (A.length+B.length+3) (ρ 0)).idxOf (ρ (i+1))):=fun i hi=>Jg cA hc homA (Mq i hi)
 have atB:∀i,i≤B.length→BZ (mI G (A.length+B.length+3) (ρ 0)) (B.take i)=some ((j4 G (A.length+B.length+3) (ρ 0)).idxOf (ρ (i+(A.length+2)))):=fun i hi=>Jg cB hc homB (Mq i hi)
 have q2':ρ (A.length+1)=ρ (B.length+(A.length+2)):=by
  rw [s6 A.length 1,s6 B.length];exact q2
 refine ⟨⟨hc,⟨(j4 G (A.length+B.length+3) (ρ 0)).idxOf (ρ (A.length+1)),?_,?_⟩,fun C T' sb hT hC hk=> ?_⟩,fun P hPA hPB k hk=> ?_⟩
 ·have:=atA A.length (aS _)
  rw [gw] at this;exact this
 ·have:=atB B.length (aS _)
  rw [gw] at this;rw [q2'];exact this
 ·refine le_zero hT hc hC ?_
  exact hU.le to0 h0 (Zv hC) (eq_sol hA hB hC hk) (by simp)
 ·obtain ⟨x,hx⟩:=Iy hk
  have hm:=aT hx;have hk':=vc (uG hU.go.bd (hU.lt 0 h0)).nd hx;obtain ⟨YS,hxr⟩:=hU.fix h0 ((Hv hU.go.bd (hU.lt 0 h0)).1 hm);rcases EW YS with rfl|⟨i,hi,rfl⟩|⟨i,hi,rfl⟩
  ·refine ⟨[],by have:=hPA 0 (by omega);simpa using this,?_⟩
   have:=atA 0 (by omega);rw [List.take_zero] at this;refine this.trans (aI some ?_);rw [←q0];exact (aI (fun z=>List.idxOf z (j4 G (A.length+B.length+3) (ρ 0))) hxr).trans hk'
  ·exact ⟨A.take i,hPA i (by omega),by rw [atA i (by omega),hxr,hk']⟩
  ·by_cases hi2:i<B.length
   ·exact ⟨B.take i,hPB i hi2,by rw [atB i (by omega),hxr,hk']⟩
   ·have e:i=B.length:=by omega
    subst e;refine ⟨A.take A.length,hPA _ (aS _),?_⟩;rw [atA _ (aS _),q2',hxr,hk']
def Y9 (F:Nat):Gr:=⟨fun _=>(List.range F).map fun (f:Nat)=>((f:Int),0),fun _=>0⟩
omit hA hB in
theorem H7:YV (Y9 F):=fun x=>by
 show List.Pairwise _ (List.map _ _);rw [iJ];exact Db.imp fun h=>by simp only;omega
theorem Mg {W:List (Nat×Nat)}:YM Se (lG (BA A B)) (A.length+B.length+3) W (Y9 F) (fun _=>0):=by
 refine ⟨fun x hx=>⟨My hA hB hx,rfl⟩,fun x hx p hp=> ?_,fun _ _=>rfl⟩;have hl:x<(BA A B).length:=by rw [yD];exact hx
 rw [VY hl] at hp;obtain ⟨a,ha,rfl⟩:=aB.1 hp;have:=((IL hA hB (bF hl)).1.ok a ha).1;exact aB.2 ⟨a.aY.toNat,eT.2 (by omega),by show ((a.aY.toNat:Int),0)=(a.aY,0);congr 1;omega⟩
theorem c438 {h:bZ} (H:HM h 1 Se) (hF:F≤300) (hAl:A.length≤1000) (YN:B.length≤1000):∃f,f438 h ⟨[⟨0,[]⟩]⟩ A B=some (f,true)∧YL F A B f∧∀P,(∀i,i≤A.length→A.take i∈P)→(∀i,i<B.length→B.take i∈P)→YK f P:=by
 have cA:=sO (T:=1) (by omega) hA ⟨jE 0,by omega⟩;have cB:=sO (T:=1) (by omega) hB ⟨jE 0,by omega⟩;have lA:=gz A 0;have lB:=gz B 0;have a1:f442 [⟨0,[]⟩] h.Types h.de [] [] []=some ((),ids 0 1,[0],[[]]):=by
  rw [Zu (fr:=0) rfl rfl rfl (by simp) (fun x hx=>by simp at hx;subst hx;exact ⟨by simp,fun a ha=>by cases ha⟩)];rfl
 have a2:f442 (qN A 0).az h.Types h.de (ids 0 1) [0] [[]]=some ((),ids 0 1++ids 1 (A.length+1),[0]++(qN A 0).az.map (·.eN),[[]]++(qN A 0).az.map fun x=>CN 1 x.cO):=by
  rw [Zu (fr:=1) (A9 _ _) rfl rfl (by omega) (cA.small (by omega) (by omega)),lA]
 have a3:f442 (qN B 0).az h.Types h.de (ids 0 1++ids 1 (A.length+1)) ([0]++(qN A 0).az.map (·.eN)) ([[]]++(qN A 0).az.map fun x=>CN 1 x.cO)=
   some ((),ids 0 (A.length+B.length+3),(BA A B).map (·.eN),(BA A B).map (·.cO)):=by
  rw [Zu (fr:=A.length+2) (by simp [A9];omega) (by simp [lA]) (by simp [lA]) (by omega) (cB.small (by omega) (by omega)),lB];have e1:ids 0 1++ids 1 (A.length+1)++ids (A.length+2) (B.length+1)=ids 0 (A.length+B.length+3):=by
   have x1:=MX 0 1 (A.length+1);have x2:=MX 0 (1+(A.length+1)) (B.length+1);rw [gE] at x1 x2;have x3:1+(A.length+1)=A.length+2:=by omega
   rw [x1];rw [x3] at x2⊢;rw [x2]
   congr 1;omega
  rw [e1];have e2:[0]++(qN A 0).az.map (·.eN)++(qN B 0).az.map (·.eN)=(BA A B).map (·.eN):=by
   unfold BA;simp [shN,kD]
  have e3:[[]]++((qN A 0).az.map fun x=>CN 1 x.cO)++((qN B 0).az.map fun x=>CN (A.length+2) x.cO)=(BA A B).map (·.cO):=by
   unfold BA;simp [shN,kD]
  rw [e2,e3]
 have hl:=yD (A:=A) (B:=B);have J0:JI 1 (AO F (A.length+B.length+3)) Se (lG (BA A B)) (A.length+B.length+3) [] [] (ids 0 (A.length+B.length+3)) ((BA A B).map (·.eN)) ((BA A B).map (·.cO)) id (fun _=>0):=by
  refine JI.init to0.refl rfl (by simpa using hl) (by simpa using hl) (fun x hx=> ?_) (fun x hx=> ?_) (fun x _=>rfl) (fun x _=>rfl)
  ·have hx2:x<(BA A B).length:=by omega
   rw [jN hx2,(IL hA hB (bF hx2)).2];omega
  ·have hx2:x<(BA A B).length:=by omega
   rw [jN hx2];exact (IL hA hB (bF hx2)).1
 have hnF:(A.length+B.length+3) *F≤400000000:=by
  have:=Nat.mul_le_mul (by omega:A.length+B.length+3≤10000) hF;omega
 have e0:(0:Int)=((0:Nat):Int):=rfl;have w1:((ids 0 1).length:Int)=((1:Nat):Int):=by rw [A9]
 have w2:((ids 0 1++ids 1 (A.length+1)).length:Int)=((A.length+2:Nat):Int):=by simp [A9];omega
 rcases c443 H (by omega) (by omega:0<A.length+B.length+3) (by omega:1<A.length+B.length+3) hnF J0 with ⟨p1,t1,r1,rep1,d1,j1,J1⟩|⟨_,hno⟩
 ·rcases c443 H (by omega) (by omega:1<A.length+B.length+3) (by omega:A.length+2<A.length+B.length+3) hnF J1 with ⟨p2,t2,r2,rep2,d2,j2,J2⟩|⟨_,hno⟩
  ·rcases c443 H (by omega) (by omega:1+A.length<A.length+B.length+3) (by omega:A.length+2+B.length<A.length+B.length+3) hnF J2 with ⟨p3,t3,r3,rep3,d3,j3,J3⟩|⟨_,hno⟩
   ·obtain ⟨p4,g⟩:=c444 (TL:=h.Types) (FL:=h.de) (d:=d3) J3.la J3.lt J3.ao J3.pi.rl J3.pi.rr (by omega) (by omega) (by omega:0<A.length+B.length+3) J3.pi
    obtain ⟨s1,s2⟩:=eq_shr hA hB (J3.uni (eqL_bd hA hB));refine ⟨_,e438 ?_,s1,s2⟩;have v1:wrap .i64 (((1:Nat):Int)+(A.length:Int))=((1+A.length:Nat):Int):=by rw [kJ (by omega) (by omega)];omega
    have v2:wrap .i64 (((A.length+2:Nat):Int)+(B.length:Int))=((A.length+2+B.length:Nat):Int):=by rw [kJ (by omega) (by omega)];omega
    rw [e425 rfl,aA,c426 (by omega),aA,aA,c426 (by omega),aA,a1,gG,a2,gG,a3,gG,w1,w2,v1,v2,e0,j1,gG,cond_neg (by rfl),j2,gG,cond_neg (by rfl),j3,gG,cond_neg (by rfl),g,gG]
   ·exact (hno (Y9 F) _ H7 (Mg hA hB)).elim
  ·exact (hno (Y9 F) _ H7 (Mg hA hB)).elim
 ·exact (hno (Y9 F) _ H7 (Mg hA hB)).elim
end
end Go.Proofs.YthppjmoncapdfaaGreatDoor.cl.pf
namespace Go.Proofs.YthppjmoncapdfaaGreatDoor.cl.pf
open Go Go.AM
def Pd (l:List cF) (n:Int):Prop:=(∀a∈l,0≤a.aY∧0≤a.To∧a.To<n)∧(l.map (·.aY)).Nodup
theorem c454 {l:List cF} {n:Int} (hl:l.length≤1000000):∃e,f454 l n=some e∧(e=0↔Pd l n):=by
 have key:∀(k i:Nat),l.length=i+k→((∀a∈l.take i,0≤a.aY∧0≤a.To∧a.To<n)∧((l.take i).map (·.aY)).Nodup)→∃e,Kr l n (i:Int)=some e∧(e=0↔Pd l n):=by
  intro k
  induction k with
  |zero=>
   intro i hi hp;have e:i=l.length:=by omega
   subst e;rw [gw] at hp;refine ⟨0,Je ?_,⟨fun _=>hp,fun _=>rfl⟩⟩;rw [cond_neg (by rw [bA];omega)]
  |succ k ih=>
   intro i hi hp;have hil:i<l.length:=by omega
   have hm:=bF hil;by_cases h1:l[i].aY<0
   ·refine ⟨2,Je ?_,⟨fun e=>by omega,fun h=>by have:=h.1 _ hm;omega⟩⟩
    rw [cond_pos (by rw [bB];omega),cn hil,cond_pos (by rw [bB];exact h1)]
   by_cases h2:l[i].To<0
   ·refine ⟨2,Je ?_,⟨fun e=>by omega,fun h=>by have:=h.1 _ hm;omega⟩⟩
    rw [cond_pos (by rw [bB];omega),cn hil,cond_neg (by rw [bA];exact h1),cn hil,cond_pos (by rw [bB];exact h2)]
   by_cases h3:l[i].To≥n
   ·refine ⟨2,Je ?_,⟨fun e=>by omega,fun h=>by have:=h.1 _ hm;omega⟩⟩
    rw [cond_pos (by rw [bB];omega),cn hil,cond_neg (by rw [bA];exact h1),cn hil,cond_neg (by rw [bA];exact h2),cn hil,cond_pos (by rw [bB];exact h3)]
   have step:∀r,Ks l n (i:Int) 0=some r→Kr l n (i:Int)=some r:=fun r hr=>by
    refine Je ?_;rw [cond_pos (by rw [bB];omega),cn hil,cond_neg (by rw [bA];exact h1),cn hil,cond_neg (by rw [bA];exact h2),cn hil,cond_neg (by rw [bA];exact h3)];exact hr
   have inner:∀(d k2:Nat),i=k2+d→(∀j,(hj:j<l.length)→j<k2→l[j].aY≠l[i].aY)→∃e,Ks l n (i:Int) (k2:Int)=some e∧(e=0↔Pd l n):=by
    intro d
    induction d with
    |zero=>
     intro k2 hk2 hno;have e:k2=i:=by omega
     subst e
     obtain ⟨e,g1,g2⟩:=ih (k2+1) (by omega) (by
      rw [c8,aH hil];refine ⟨fun a ha=> ?_,?_⟩
      ·rcases bC.1 ha with ha|ha
       ·exact hp.1 a ha
       ·simp at ha;subst ha;exact ⟨by omega,by omega,by omega⟩
      ·rw [bT,jq]
       refine ⟨hp.2,by simp,fun x hx y hy=> ?_⟩;simp at hy;subst hy;obtain ⟨a,ha,rfl⟩:=aB.1 hx;obtain ⟨j,hj⟩:=iq.1 ha;rw [oB] at hj;split at hj
       ·rename_i hjk
        have hjl:j<l.length:=by omega
        rw [aH hjl] at hj;cases hj;exact hno j hjl hjk
       ·cases hj)
     refine ⟨e,TJ ?_,g2⟩;rw [cond_neg (by rw [bA];omega),bG (by omega)];exact g1
    |succ d ihd=>
     intro k2 hk2 hno;have hk2l:k2<l.length:=by omega
     by_cases e:l[k2].aY=l[i].aY
     ·refine ⟨4,TJ ?_,⟨fun e=>by omega,fun h=> ?_⟩⟩
      ·rw [cond_pos (by rw [bB];omega),cn hk2l,cn hil,cond_pos (by simpa using e)]
      ·have:=h.2
       unfold List.Nodup at this;rw [iJ] at this;exact absurd e (lK.1 this k2 i hk2l hil (by omega))
     ·obtain ⟨r,g1,g2⟩:=ihd (k2+1) (by omega) (fun j hj hlt=>by
       by_cases e2:j=k2
       ·subst e2;exact e
       ·exact hno j hj (by omega))
      refine ⟨r,TJ ?_,g2⟩;rw [cond_pos (by rw [bB];omega),cn hk2l,cn hil,cond_neg (by simpa using e),bG (by omega)];exact g1
   obtain ⟨e,g1,g2⟩:=inner i 0 (by omega) (fun j hj hlt=>absurd hlt (by omega));exact ⟨e,step e g1,g2⟩
 obtain ⟨e,g1,g2⟩:=key l.length 0 (by omega) ⟨fun a ha=>by (cases ha),by simp⟩;exact ⟨e,e454 g1,g2⟩
def zD (f:FSt):Prop:=0<f.az.length∧f.az.length≤4096∧∀x∈f.az,0≤x.eN∧Pd x.cO f.az.length
theorem c435 {f:FSt} (hs:∀x∈f.az,x.cO.length≤1000000):∃e,f435 f=some e∧(e=0↔zD f):=by
 by_cases h0:f.az.length=0
 ·refine ⟨1,e435 ?_,⟨fun e=>by omega,fun h=>by have:=h.1;omega⟩⟩
  rw [cond_pos (by rw [fu];omega)]
 by_cases h1:f.az.length>4096
 ·refine ⟨7,e435 ?_,⟨fun e=>by omega,fun h=>by have:=h.2.1;omega⟩⟩
  rw [cond_neg (by rw [gv];omega),cond_pos (by rw [bB];omega)]
 have key:∀(k i:Nat),f.az.length=i+k→(∀x∈f.az.take i,0≤x.eN∧Pd x.cO f.az.length)→∃e,OP (i:Int) f=some e∧(e=0↔zD f):=by
  intro k
  induction k with
  |zero=>
   intro i hi hp;have e:i=f.az.length:=by omega
   subst e;rw [gw] at hp;refine ⟨0,M9 ?_,⟨fun _=>⟨by omega,by omega,hp⟩,fun _=>rfl⟩⟩;rw [cond_neg (by rw [bA];omega)]
  |succ k ih=>
   intro i hi hp;have hil:i<f.az.length:=by omega
   have hm:=bF hil;by_cases ht:f.az[i].eN<0
   ·refine ⟨2,M9 ?_,⟨fun e=>by omega,fun h=>by have:=(h.2.2 _ hm).1;omega⟩⟩
    rw [cond_pos (by rw [bB];omega),cn hil,cond_pos (by rw [bB];exact ht)]
   ·obtain ⟨e,g1,g2⟩:=c454 (n:=(f.az.length:Int)) (hs _ hm)
    by_cases he:e=0
    ·obtain ⟨r,q1,q2⟩:=ih (i+1) (by omega) (fun x hx=>by
      rw [c8,aH hil] at hx;rcases bC.1 hx with hx|hx
      ·exact hp x hx
      ·simp at hx;subst hx;exact ⟨by omega,g2.1 he⟩)
     refine ⟨r,M9 ?_,q2⟩;rw [cond_pos (by rw [bB];omega),cn hil,cond_neg (by rw [bA];exact ht),cn hil,g1,aA,cond_neg (by rw [rD];exact he),bG (by omega)];exact q1
    ·refine ⟨e,M9 ?_,⟨fun h=>absurd h he,fun h=>absurd (g2.2 (h.2.2 _ hm).2) he⟩⟩
     rw [cond_pos (by rw [bB];omega),cn hil,cond_neg (by rw [bA];exact ht),cn hil,g1,aA,cond_pos (by rw [iI];exact he)]
 obtain ⟨e,g1,g2⟩:=key f.az.length 0 (by omega) (fun x hx=>by cases hx);refine ⟨e,e435 ?_,g2⟩;rw [cond_neg (by rw [gv];omega),cond_neg (by rw [bA];omega)];exact g1
theorem zD.Sv {f:FSt} (h:zD f) (hs:∀x∈f.az,x.cO.length≤1000000):Sf f:=fun x hx=>⟨hs x hx,fun a ha=>by have:=(h.2.2 x hx).2.1 a ha;exact ⟨this.2.1,this.2.2⟩⟩
theorem c421 {f:FSt} (hs:∀x∈f.az,x.cO.length≤1000000):(zD f∧f421 f=some (mI (Fq f) f.az.length 0,0))∨(¬zD f∧∃e,e≠0∧f421 f=some (⟨[]⟩,e)):=by
 obtain ⟨e,g1,g2⟩:=c435 hs;by_cases he:e=0
 ·have hg:=g2.1 he
  refine .inl ⟨hg,e421 ?_⟩;have e0:(0:Int)=((0:Nat):Int):=rfl;rw [g1,aA,cond_neg (by rw [rD];exact he),e0,c436 (hg.Sv hs) (by have:=hg.2.1;omega) hg.1,aA]
 ·refine .inr ⟨fun h=>he (g2.2 h),e,he,e421 ?_⟩
  rw [g1,aA,cond_pos (by rw [iI];exact he)]
theorem c468 {l:List cF} {f:Int} (hl:l.length≤1000000):f468 l f=some (match fa l f with|some a=>a.To|none=> -1):=by
 have key:∀(xs:List cF) (i:Nat),l.drop i=xs→OV l f (i:Int)=some (match fa xs f with|some a=>a.To|none=> -1):=by
  intro xs
  induction xs with
  |nil=>intro i hd;refine abH ?_;rw [bI hd,aj];rfl
  |cons x xs ih=>
   intro i hd;refine abH ?_;rw [bH hd,ai,aX hd,aX hd,bJ hd (by omega),ih (i+1) (aN hd)];unfold fa;rw [pq];by_cases e:x.aY=f
   ·have:(x.aY==f)=true:=by simpa using e
    rw [this,ai]
   ·have:(x.aY==f)=false:=by simpa using e
    rw [this,aj]
 exact e468 (key l 0 rfl)
theorem ab7 {R:Type} {ys:List (List cF)} {i:Nat} (h:i<ys.length) (k:List cF→Option R):nrT (ys.map some) i k=k (ys.getD i []):=by
 unfold nrT;rw [cZ,aH h,aQ,aH h];rfl
def WZ (ys:List (List cF)):Nat→List Int→Nat→Prop
 |x,[],y=>x=y
 |x,f::π,y=>∃z:Nat,(⟨f,(z:Int)⟩:cF)∈ys.getD x []∧WZ ys z π y
theorem WZ.snoc {ys:List (List cF)} {f:Int} {z:Nat}:∀{π:List Int} {x y:Nat},WZ ys x π y→(⟨f,(z:Int)⟩:cF)∈ys.getD y []→WZ ys x (π++[f]) z
 |[],x,y,h,hz=>by cases h;exact ⟨z,hz,rfl⟩
 |g::π,x,y,⟨w,hw,h⟩,hz=>⟨w,hw,WZ.snoc h hz⟩
theorem WZ.mono {ys zs:List (List cF)} (h:∀x,∀a∈ys.getD x [],a∈zs.getD x []):∀{π:List Int} {x y:Nat},WZ ys x π y→WZ zs x π y
 |[],_,_,hp=>hp
 |_::π,x,y,⟨w,hw,hp⟩=>⟨w,h x _ hw,WZ.mono h hp⟩
def EG (A:List Int):List (List cF):=(List.range (A.length+1)).map fun j=>match A[j]? with
 |some f=>[⟨f,(j+1:Nat)⟩]
 |none=>[]
theorem yy {A:List Int} {j:Nat} (h:j<A.length):(EG A).getD j []=[⟨A[j],(j+1:Nat)⟩]:=by
 unfold EG;rw [jN (by simp;omega)];simp [h]
theorem G7 {A:List Int} {j:Nat} (h:A.length≤j):(EG A).getD j []=[]:=by
 unfold EG;by_cases hj:j<A.length+1
 ·rw [jN (by simpa using hj)]
  simp [fc h]
 ·rw [aQ,fc (by simp;omega)];rfl
theorem Mp {A:List Int}:∀i,i≤A.length→WZ (EG A) 0 (A.take i) i
 |0,_=>rfl
 |i+1,h=>by
  rw [c8,aH (by omega:i<A.length)];exact (Mp i (by omega)).snoc (by rw [yy (by omega)];simp)
section
variable {F:Nat} {A B:List Int} (hA:∀f∈A,0≤f∧f<(F:Int)) (hB:∀f∈B,0≤f∧f<(F:Int)) (hAl:A.length≤1000) (YN:B.length≤1000) (hF:F≤1000) (Tp:B≠[]) (hnp:¬B<+:A)
structure SI (F:Nat) (A B:List Int) (n i:Nat) (ys:List (List cF)):Prop where
 len:A.length+1≤ys.length
 le:ys.length≤A.length+1+i
 aw:∀x,x<ys.length→AW F ys.length (ys.getD x [])
 pa:WZ ys 0 A A.length
 pb:WZ ys 0 (B.take i) n
 nlt:n<ys.length
 eH:∀(C:FSt) (T' k:Nat),Can T' F C→BZ C A=some k→BZ C B=some k→∃m:Nat→Nat,m 0=0∧m A.length=k∧m n=O9 (nY C) B i∧∀x,x<ys.length→∀a∈ys.getD x [],(a.aY,m a.To.toNat)∈kX C (m x)
 ph:ys.getD n []=[]∨(n=i∧i≤A.length∧B.take i=A.take i∧ys=EG A)
theorem add_get {ys:List (List cF)} {n x:Nat} {a:cF} (hn:n<ys.length):(ys.set n (ys.getD n []++[a])).getD x []=if n=x then ys.getD n []++[a] else ys.getD x []:=by
 rw [gi];by_cases e:n=x
 ·rw [au ⟨e,by rw [←e];exact hn⟩,au e]
 ·rw [ak (fun h=>e h.1),ak e]
theorem Y8 {ys:List (List cF)} {n:Nat} {a:cF} (hn:n<ys.length) (x:Nat):∀b∈ys.getD x [],b∈(ys.set n (ys.getD n []++[a])).getD x []:=fun b hb=>by
 rw [add_get hn];by_cases e:n=x
 ·subst e;rw [au rfl];exact eC _ hb
 ·rw [ak e];exact hb
theorem AW.snoc {F n:Nat} {l:List cF} (h:AW F n l) {a:cF} (ha:(0≤a.aY∧a.aY<(F:Int))∧0≤a.To∧a.To<(n:Int)) (hno:fa l a.aY=none):AW F n (l++[a]):=by
 refine ⟨?_,fun b hb=> ?_⟩
 ·rw [bT,jq]
  refine ⟨h.nd,by simp,fun x hx y hy=> ?_⟩;simp at hy;subst hy;obtain ⟨b,hb,rfl⟩:=aB.1 hx;exact Vn hno b hb
 ·rcases bC.1 hb with hb|hb
  ·exact h.ok b hb
  ·simp at hb;subst hb;exact ha
theorem AW.more {F n n':Nat} {l:List cF} (h:AW F n l) (hn:n≤n'):AW F n' l:=⟨h.nd,fun b hb=>⟨(h.ok b hb).1,(h.ok b hb).2.1,by have:=(h.ok b hb).2.2;omega⟩⟩
include hA in
theorem SI.init:SI F A B 0 0 (EG A):=by
 have hl:(EG A).length=A.length+1:=by simp [EG]
 refine ⟨by omega,by omega,fun x hx=> ?_,?_,rfl,by omega,fun C T' k hC h1 h2=>⟨O9 (nY C) A,rfl,CQ h1,rfl,fun x hx a ha=> ?_⟩, .inr ⟨rfl,by omega,rfl,rfl⟩⟩
 ·rw [hl] at hx⊢
  by_cases h:x<A.length
  ·rw [yy h]
   exact ⟨by simp,fun a ha=>by simp at ha;subst ha;exact ⟨hA _ (bF h),by show 0≤((x+1:Nat):Int);omega,by show ((x+1:Nat):Int)<((A.length+1:Nat):Int);omega⟩⟩
  ·rw [G7 (by omega)];exact ⟨by simp,fun a ha=>by cases ha⟩
 ·have:=Mp (A:=A) A.length (aS _)
  rwa [gw] at this
 ·rw [hl] at hx
  by_cases h:x<A.length
  ·rw [yy h] at ha;simp at ha;subst ha
   exact uU hC.Lp h1 h
  ·rw [G7 (by omega)] at ha;cases ha
include hB in
theorem SI.go {n i:Nat} {ys:List (List cF)} (I:SI F A B n i ys) (hi:i<B.length) {a:cF} (ha:fa (ys.getD n []) B[i]=some a):0≤a.To∧SI F A B a.To.toNat (i+1) ys:=by
 obtain ⟨h1,h2⟩:=Mz ha;rcases I.ph with h|⟨rfl,hiA,KJ,rfl⟩
 ·rw [h] at h1;cases h1
 ·have hlt:n<A.length:=by
   by_cases h:n<A.length
   ·exact h
   ·rw [G7 (by omega)] at h1;cases h1
  rw [yy hlt] at h1;simp at h1;subst h1;have h2:A[n]=B[n]:=h2;have hl:(EG A).length=A.length+1:=by simp [EG]
  have htk2:B.take (n+1)=A.take (n+1):=by
   rw [c8,c8,KJ,aH hi,aH hlt,h2]
  refine ⟨by show 0≤((n+1:Nat):Int);omega,?_⟩;show SI F A B ((n+1:Nat):Int).toNat (n+1) (EG A);rw [aR];refine ⟨I.len,by have:=I.le;omega,I.aw,I.pa,?_,by omega,fun C T' k hC k1 k2=> ?_, .inr ⟨rfl,by omega,htk2,rfl⟩⟩
  ·rw [htk2];exact Mp (n+1) (by omega)
  ·obtain ⟨m,m0,m1,m2,m3⟩:=I.eH C T' k hC k1 k2
   refine ⟨m,m0,m1,?_,m3⟩;have e1:=m3 n I.nlt ⟨A[n],(n+1:Nat)⟩ (by rw [yy hlt];simp);have e2:=uU hC.Lp k2 hi;simp only at e1;rw [m2,h2,aR] at e1;exact (hC.Bo _).Lp e1 e2
include hB in
theorem SI.new {n i:Nat} {ys:List (List cF)} (I:SI F A B n i ys) (hi:i<B.length) (ha:fa (ys.getD n []) B[i]=none):SI F A B ys.length (i+1) (ys.set n (ys.getD n []++[(⟨B[i],(ys.length:Nat)⟩:cF)])++[[]]):=by
 have hl:(ys.set n (ys.getD n []++[(⟨B[i],(ys.length:Nat)⟩:cF)])++[[]]).length=ys.length+1:=by simp
 have hg:∀x,x<ys.length→(ys.set n (ys.getD n []++[(⟨B[i],(ys.length:Nat)⟩:cF)])++[[]]).getD x []=if n=x then ys.getD n []++[(⟨B[i],(ys.length:Nat)⟩:cF)] else ys.getD x []:=fun x hx=>by
  rw [Cg (by simpa using hx),add_get I.nlt]
 have hge:(ys.set n (ys.getD n []++[(⟨B[i],(ys.length:Nat)⟩:cF)])++[[]]).getD ys.length []=[]:=by
  rw [Ch (by simp)];simp
 have hmono:∀x,∀b∈ys.getD x [],b∈(ys.set n (ys.getD n []++[(⟨B[i],(ys.length:Nat)⟩:cF)])++[[]]).getD x []:=fun x b hb=>by
  by_cases hx:x<ys.length
  ·rw [hg x hx]
   by_cases e:n=x
   ·subst e;rw [au rfl];exact eC _ hb
   ·rw [ak e];exact hb
  ·rw [aQ,fc (by omega)] at hb;cases hb
 have hnl:=I.nlt;have hIl:=I.len;have hIle:=I.le;refine ⟨by omega,by omega,fun x hx=> ?_,I.pa.mono hmono,?_,by omega,fun C T' k hC k1 k2=> ?_, .inl hge⟩
 ·rw [hl] at hx⊢
  by_cases hx2:x<ys.length
  ·rw [hg x hx2]
   by_cases e:n=x
   ·subst e
    rw [au rfl];exact ((I.aw n hx2).more (by omega)).snoc ⟨hB _ (bF hi),by show 0≤((ys.length:Nat):Int);omega,by show ((ys.length:Nat):Int)<((ys.length+1:Nat):Int);omega⟩ ha
   ·rw [ak e];exact (I.aw x hx2).more (by omega)
  ·have e:x=ys.length:=by omega
   subst e;rw [hge];exact ⟨by simp,fun a ha=>by cases ha⟩
 ·rw [c8,aH hi]
  exact (I.pb.mono hmono).snoc (by rw [hg n hnl,au rfl];simp)
 ·obtain ⟨m,m0,m1,m2,m3⟩:=I.eH C T' k hC k1 k2
  refine ⟨fun x=>if x=ys.length then O9 (nY C) B (i+1) else m x,?_,?_,by simp,fun x hx a KI=> ?_⟩
  ·show (if 0=ys.length then _ else _)=0
   rw [ak (by omega)];exact m0
  ·show (if A.length=ys.length then _ else _)=k
   rw [ak (by omega)];exact m1
  ·rw [hl] at hx
   by_cases hx2:x<ys.length
   ·rw [hg x hx2] at KI
    have old:∀b∈ys.getD x [],(b.aY,if b.To.toNat=ys.length then O9 (nY C) B (i+1) else m b.To.toNat)∈kX C (if x=ys.length then O9 (nY C) B (i+1) else m x):=fun b hb=>by
     have:=((I.aw x hx2).ok b hb).2;rw [ak (by omega),ak (by omega)];exact m3 x hx2 b hb
    by_cases e:n=x
    ·subst e
     rw [au rfl] at KI;rcases bC.1 KI with KI|KI
     ·exact old a KI
     ·simp at KI;subst KI
      show (B[i],if ((ys.length:Nat):Int).toNat=ys.length then _ else _)∈kX C (if n=ys.length then _ else _);rw [aR,au rfl,ak (by omega),m2];exact uU hC.Lp k2 hi
    ·rw [ak e] at KI;exact old a KI
   ·have e:x=ys.length:=by omega
    subst e;rw [hge] at KI;cases KI
include hB Tp hnp in
theorem SI.last {n i:Nat} {ys:List (List cF)} (I:SI F A B n i ys) (hi:i+1=B.length):fa (ys.getD n []) (B[i]'(by omega))=none:=by
 rcases I.ph with h|⟨rfl,hiA,KJ,rfl⟩
 ·rw [h];rfl
 ·cases e:fa ((EG A).getD n []) (B[n]'(by omega)) with
  |none=>rfl
  |some a=>
   exfalso;obtain ⟨h1,h2⟩:=Mz e;have hlt:n<A.length:=by
    by_cases h:n<A.length
    ·exact h
    ·rw [G7 (by omega)] at h1;cases h1
   rw [yy hlt] at h1;simp at h1;subst h1;have h2:A[n]=B[n]'(by omega):=h2;apply hnp;have:B=A.take (n+1):=by
    have hb:B.take (n+1)=B:=jm (by omega);rw [←hb,c8,c8,KJ,aH (by omega:n<B.length),aH hlt,h2]
   rw [this];exact List.take_prefix _ _
include hA hB Tp hnp hAl YN hF in
theorem SI.fin {n i:Nat} {ys:List (List cF)} (I:SI F A B n i ys) (hi:i+1=B.length) {g:FSt} (hg:g=⟨List.zipWith updA (replicate ys.length ⟨0,[]⟩) (ys.set n (ys.getD n []++[⟨B[i]'(by omega),(A.length:Nat)⟩]))⟩):
  ∃f,f421 g=some (f,0)∧YL F A B f:=by
 have hno:=I.last hB Tp hnp hi;have hib:i<B.length:=by omega
 generalize hzs:ys.set n (ys.getD n []++[⟨B[i]'(by omega),(A.length:Nat)⟩])=zs at hg;have hzl:zs.length=ys.length:=by rw [←hzs];simp
 have og:∀x,zs.getD x []=if n=x then ys.getD n []++[⟨B[i],(A.length:Nat)⟩] else ys.getD x []:=fun x=>by rw [←hzs];exact add_get I.nlt
 have hmono:∀x,∀b∈ys.getD x [],b∈zs.getD x []:=fun x=>by rw [←hzs];exact Y8 I.nlt x
 have hIl:=I.len;have hIle:=I.le;have haw:∀x,x<ys.length→AW F ys.length (zs.getD x []):=fun x hx=>by
  rw [og];by_cases e:n=x
  ·subst e
   rw [au rfl];exact (I.aw n hx).snoc ⟨hB _ (bF hib),by show 0≤((A.length:Nat):Int);omega,by show ((A.length:Nat):Int)<((ys.length:Nat):Int);omega⟩ hno
  ·rw [ak e];exact I.aw x hx
 have hgl:g.az.length=ys.length:=by rw [hg];simp [hzl]
 have hgg:∀x,x<ys.length→g.az[x]? =some ⟨0,zs.getD x []⟩:=fun x hx=>by
  rw [hg];show (List.zipWith _ _ _)[x]? =_;rw [Dh,jD,au hx,aH (by omega:x<zs.length),aQ,aH (by omega:x<zs.length)];rfl
 have hmem:∀y∈g.az,∃x,x<ys.length∧y=⟨0,zs.getD x []⟩:=fun y hy=>by
  obtain ⟨x,hx⟩:=iq.1 hy;have hxl:=(bD.1 hx).1;rw [hgl] at hxl;rw [hgg x hxl] at hx;exact ⟨x,hxl,(eS hx).symm⟩
 have hfg:zD g:=by
  refine ⟨by omega,by omega,fun y hy=> ?_⟩;obtain ⟨x,hx,rfl⟩:=hmem y hy;refine ⟨jE 0,fun a ha=> ?_,(haw x hx).nd⟩;have:=(haw x hx).ok a ha;rw [hgl];exact ⟨this.1.1,this.2.1,this.2.2⟩
 have hs:∀y∈g.az,y.cO.length≤1000000:=fun y hy=>by
  obtain ⟨x,hx,rfl⟩:=hmem y hy;have:=(haw x hx).len;show (zs.getD x []).length≤_;omega
 rcases c421 hs with ⟨_,e⟩|⟨hno,_⟩
 ·have hsc:∀x,x<ys.length→Gx g x=(G0 (zs.getD x [])).map fun a=>(a.aY,a.To.toNat):=fun x hx=>by unfold Gx;rw [hgg x hx]
  have hty:∀x,x<ys.length→sg g x=0:=fun x hx=>by unfold sg;rw [hgg x hx]
  have hgo:GO 1 F (Fq g) ys.length:=by
   refine ⟨fun x hx p hp=> ?_,fun x hx=> ?_,fun x hx p hp=> ?_,fun x hx=> ?_⟩
   ·have hp:p∈Gx g x:=hp
    rw [hsc x hx] at hp;obtain ⟨a,ha,rfl⟩:=aB.1 hp;have:=((haw x hx).G0.ok a ha).2;show a.To.toNat<_;omega
   ·show AU (Gx g x)
    rw [hsc x hx];unfold AU;rw [iJ];exact (haw x hx).G0.Bo
   ·have hp:p∈Gx g x:=hp
    rw [hsc x hx] at hp;obtain ⟨a,ha,rfl⟩:=aB.1 hp;exact ((haw x hx).G0.ok a ha).1
   ·show 0≤sg g x∧sg g x<_
    rw [hty x hx];omega
  have h0:0<ys.length:=by omega
  have hpth:∀{π:List Int} {x y:Nat},x<ys.length→WZ zs x π y→Bv (Fq g) x π=some y:=by
   intro π
   induction π with
   |nil=>intro x y _ h;cases h;rfl
   |cons f π ih=>
    intro x y hx h;obtain ⟨w,hw,h⟩:=h;have hm:(f,w)∈(Fq g).sc x:=by
     show _∈Gx g x;rw [hsc x hx];exact aB.2 ⟨_,(sY _).2.2 _|>.2 hw,by simp⟩
    have hwl:w<ys.length:=hgo.bd x hx _ hm;show (match Bj ((Fq g).sc x) f with|some k=>Bv (Fq g) k π|none=>none)=_;rw [(uK (hgo.Bo x hx)).2 hm];exact ih hwl h
  have hPA:=hpth h0 (I.pa.mono hmono);have hPB:Bv (Fq g) 0 B=some A.length:=by
   have hb:B.take i++[B[i]]=B:=by
    have:=jm (by omega:B.length≤i+1);rw [c8,aH hib] at this;exact this
   have:=hpth h0 ((I.pb.mono hmono).snoc (f:=B[i]) (z:=A.length) (by rw [og,au rfl];simp))
   rwa [hb] at this
  have hc:Can 1 F (mI (Fq g) ys.length 0):=SP hgo h0;have hh:=VA (sb:=Se) hgo h0 to0.refl;have hasc:∀i,sN (Fq g).sc 0 i→AU ((Fq g).sc i):=fun i hi=>hgo.Bo i (hi.lt hgo.bd h0)
  have qA:=(MU hh hasc hc.Lp A 0 _ .root hPA).2;have qB:=(MU hh hasc hc.Lp B 0 _ .root hPB).2;have q0:(j4 (Fq g) ys.length 0).idxOf 0=0:=hh.1;simp only [q0] at qA qB;refine ⟨_,e,?_⟩;rw [hgl];refine ⟨hc,⟨_,qA,qB⟩,fun C T' sb hT hC hk=> ?_⟩;obtain ⟨k,k1,k2⟩:=hk;obtain ⟨m,m0,m1,m2,m3⟩:=I.eH C T' k hC k1 k2;refine le_zero hT hc hC ?_;have hl:(replicate C.az.length (0:Int)).length=C.az.length:=by simp
  have esc:(nY (LV C (replicate C.az.length 0))).sc=(nY C).sc:=NU hl;have ety:∀y,(nY (LV C (replicate C.az.length 0))).ty y=0:=fun y=>by
   show sg _ y=0;by_cases hy:y<C.az.length
   ·rw [Uy hl hy,aQ,jD,au hy];rfl
   ·unfold sg;rw [fc (by rw [Eg hl];omega)]
  have hm:EF Se (Fq g) 0 (nY (LV C (replicate C.az.length 0))) 0 m:=by
   refine ⟨m0,fun x hx=>⟨⟨hty x (hx.lt hgo.bd h0),ety _⟩,fun p hp=> ?_⟩⟩;have hxl:=hx.lt hgo.bd h0;have hp:p∈Gx g x:=hp;rw [hsc x hxl] at hp;obtain ⟨a,ha,rfl⟩:=aB.1 hp;have ha:=(sY _).2.2 a|>.1 ha
   rw [esc];rw [og] at ha;by_cases e2:n=x
   ·subst e2
    rw [au rfl] at ha;rcases bC.1 ha with ha|ha
    ·exact m3 n hxl a ha
    ·simp at ha;subst ha
     show (B[i],m ((A.length:Nat):Int).toNat)∈kX C (m n);rw [aR,m1,m2];have:=uU hC.Lp k2 hib;have e3:O9 (nY C) B (i+1)=k:=by rw [hi];exact CQ k2
     rw [e3] at this;exact this
   ·rw [ak e2] at ha;exact m3 x hxl a ha
  exact ⟨_,EF.comp (s1:=Se) (s2:=Se) (s3:=Se) (fun a b=>to0.trans a b) (Va hgo h0 to0.refl) hm⟩
 ·exact absurd hfg hno
include hA hB Tp hnp hAl YN hF in
theorem h439_10 {o4:FSt}:∀(k i n:Nat) (ys:List (List cF)),B.length=i+1+k→SI F A B n i ys→∃f,rZ A B (n:Int) (i:Int) o4 (replicate ys.length ⟨0,[]⟩) (ys.map some)=some f∧YL F A B f:=by
 intro k
 induction k with
 |zero=>
  intro i n ys hi I;have hnl:=I.nlt;have hIle:=I.le;have hib:i<B.length:=by omega
  have hlen:=(I.aw n hnl).len;obtain ⟨f,g1,g2⟩:=I.fin hA hB hAl YN hF Tp hnp (by omega) rfl;refine ⟨f,QD ?_,g2⟩;have wC:wrap .i64 ((B.length:Int)-1)=(i:Int):=by rw [kJ (by omega) (by omega)];omega
  rw [bG (by omega),cond_neg (by rw [bA];omega),DB (by simpa using hnl),aR,LN hnl,wC,cn hib,cz _ (by omega) (by simp) (by omega),bp ⟨by omega,by simpa using hnl⟩,bp (by simpa using hnl),List.set_set];rw [vS];have em:(ys.map some).set n (some (ys.getD n []++[⟨B[i],(A.length:Nat)⟩]))=(ys.set n (ys.getD n []++[⟨B[i],(A.length:Nat)⟩])).map some:=by rw [jB]
  rw [em];show W5 updA _ _ _=_;rw [W6 (by simp),g1,aA]
 |succ k ih=>
  intro i n ys hi I;have hnl:=I.nlt;have hIle:=I.le;have hib:i<B.length:=by omega
  have hlen:=(I.aw n hnl).len
  have pre:∀r,(bif (decide (((match fa (ys.getD n []) B[i] with|some a=>a.To|none=> -1):Int)<0)) then (
    check (0≤(n:Int)∧toNat (n:Int)<length (replicate ys.length (⟨0,[]⟩:Node))) (
    Ul (ys.map some) (toNat (n:Int)) fun Jf QM=>
    bw B (i:Int) fun KG=>
    check ((length Jf+length [(cF.mk KG ((length (replicate ys.length (⟨0,[]⟩:Node)):Int)))]) *16≤140737488355328∧length Jf+length [(cF.mk KG ((length (replicate ys.length (⟨0,[]⟩:Node)):Int)))]≤4611686018427387904) (
    check (0≤(n:Int)∧toNat (n:Int)<length (replicate ys.length (⟨0,[]⟩:Node))) (
    check ((toNat (n:Int))<length QM) (zz (List.set QM (toNat (n:Int)) (some (Jf++[(cF.mk KG ((length (replicate ys.length (⟨0,[]⟩:Node)):Int)))]))) fun m212=>
    check ((length (replicate ys.length (⟨0,[]⟩:Node))+length [(Node.mk 0 ([]:List cF))]) *32≤140737488355328∧length (replicate ys.length (⟨0,[]⟩:Node))+length [(Node.mk 0 ([]:List cF))]≤4611686018427387904) (
    zz (m212++[some []]) fun X5=>
    rZ A B ((length (replicate ys.length (⟨0,[]⟩:Node)):Int)) ((i+1:Nat):Int) o4 ((replicate ys.length (⟨0,[]⟩:Node))++[(Node.mk 0 ([]:List cF))]) X5))))))
    else rZ A B (match fa (ys.getD n []) B[i] with|some a=>a.To|none=> -1) ((i+1:Nat):Int) o4 (replicate ys.length ⟨0,[]⟩) (ys.map some))=some r→rZ A B (n:Int) (i:Int) o4 (replicate ys.length ⟨0,[]⟩) (ys.map some)=some r:=fun r hr=>by
   refine QD ?_;rw [bG (by omega),cond_pos (by rw [bB];omega),DB (by simpa using hnl),bp (by simpa using hnl),cn hib,aR,ab7 hnl,c468 (by omega),aA];rw [aR] at hr;exact hr
  cases e:fa (ys.getD n []) B[i] with
  |some a=>
   obtain ⟨h1,h2⟩:=I.go hB hib e;obtain ⟨f,g1,g2⟩:=ih (i+1) a.To.toNat ys (by omega) h2;refine ⟨f,pre f ?_,g2⟩;rw [e];simp only [];rw [cond_neg (by rw [bA];omega)];have:((a.To.toNat:Nat):Int)=a.To:=by omega
   rw [this] at g1;exact g1
  |none=>
   have I2:=I.new hB hib e;obtain ⟨f,g1,g2⟩:=ih (i+1) ys.length _ (by omega) I2;refine ⟨f,pre f ?_,g2⟩;rw [e];simp only [];rw [cond_pos (by rfl),DB (by simpa using hnl),aR,LN hnl,cn hib,cz _ (by omega) (by simp) (by omega),bp ⟨by omega,by simpa using hnl⟩,bp (by simpa using hnl),List.set_set];rw [vS,cz _ (by simp;omega) (by simp) (by omega),vS,kg];have em:(ys.map some).set n (some (ys.getD n []++[(⟨B[i],(ys.length:Nat)⟩:cF)]))++[some []]=(ys.set n (ys.getD n []++[(⟨B[i],(ys.length:Nat)⟩:cF)])++[[]]).map some:=by rw [bT,jB];rfl
   rw [em,←pE];have IY:(ys.set n (ys.getD n []++[(⟨B[i],(ys.length:Nat)⟩:cF)])++[[]]).length=ys.length+1:=by simp
   rw [IY] at g1;exact g1
include hA hB Tp hnp hAl YN hF in
theorem c439:∃f,f439 A B=some f∧YL F A B f:=by
 have hbp:0<B.length:=List.length_pos_iff.2 Tp;obtain ⟨f,g1,g2⟩:=h439_10 hA hB hAl YN hF Tp hnp (o4:=⟨[]⟩) (B.length-1) 0 0 (EG A) (by omega) (SI.init hA);refine ⟨f,e439 ?_,g2⟩;rw [cz _ (by simp) (by simp) (by omega)];unfold zz;have hl:(EG A).length=A.length+1:=by simp [EG]
 rw [hl] at g1;have key:∀(k i:Nat),A.length=i+k→Bl A B (i:Int) ⟨[]⟩ (replicate (i+1) ⟨0,[]⟩) ((((EG A).take i)++[[]]).map some)=some f:=by
  intro k
  induction k with
  |zero=>
   intro i hi;have e:i=A.length:=by omega
   subst e;refine VU ?_;rw [cond_neg (by rw [bA];omega)];have:(EG A).take A.length++[[]]=EG A:=by
    have h2:(EG A).drop A.length=[[]]:=by
     apply kE;intro j;rw [s5];cases j with
     |zero=>simp [EG]
     |succ j=>rw [fc (by rw [hl];omega)];simp
    rw [←h2,kj]
   rw [this];exact g1
  |succ k ih=>
   intro i hi;have hil:i<A.length:=by omega
   refine VU ?_;rw [cond_pos (by rw [bB];omega),cn hil,DB (by simp),bp (by simp [hl];omega),aR];rw [vS,cz _ (by simp;omega) (by simp) (by omega),bG (by omega),←pE];have:=ih (i+1) (by omega);have em:((((EG A).take i)++[[]]).map some).set i (some [⟨A[i],((i+1:Nat):Int)⟩])++[some []]=(((EG A).take (i+1))++[[]]).map some:=by
    have hti:((EG A).take i).length=i:=by rw [gD,hl];omega
    have hgi:(EG A)[i]? =some [⟨A[i],((i+1:Nat):Int)⟩]:=by
     have:=yy hil;rw [aQ,aH (by omega:i<(EG A).length)] at this;rw [aH (by omega:i<(EG A).length)];exact aI some this
    rw [bT,qY _ _ (by simp;omega),c8,hgi];have:i-(((EG A).take i).map some).length=0:=by rw [aW,hti];omega
    rw [this];simp
   rw [em,vS];exact this
 have:=key A.length 0 (by omega);simpa using this
end
end Go.Proofs.YthppjmoncapdfaaGreatDoor.cl.pf
