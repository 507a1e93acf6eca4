/- Layer 5. -/
import Derived.Test.YthppjmoncapdfaaGreatDoorClSa
set_option linter.all false
namespace Go.Proofs.YthppjmoncapdfaaGreatDoor.cl
open Go Go.AM
def r5 (d:List aq) (F:cG):List cG:=(d.filter fun t=>(val t F).isSome).map (·.Name)
theorem Fb {d:List aq} {F x:cG}:x∈r5 d F↔∃t∈d,(val t F).isSome=true∧t.Name=x:=by
 unfold r5;rw [aB];constructor
 ·rintro ⟨t,ht,e⟩
  rw [cL] at ht;exact ⟨t,ht.1,ht.2,e⟩
 ·rintro ⟨t,ht,h,e⟩
  exact ⟨t,cL.2 ⟨ht,h⟩,e⟩
theorem FD {d:List aq} {F x:cG} (h:x∈r5 d F):x∈jQ d:=by
 obtain ⟨t,ht,_,rfl⟩:=Fb.1 h;exact Jn ht
def one:List cG→Option cG
 |[x]=>some x
 |_=>none
theorem ach {l:List cG} {x:cG} (h:one l=some x):l=[x]:=by
 cases l with
 |nil=>cases h
 |cons y l=>
  cases l with
  |nil=>unfold one at h;injection h with h;rw [h]
  |cons z l=>cases h
theorem eq_one {l:List cG} {u:cG} (hn:l.Nodup) (h1:∀x∈l,x=u) (h2:u∈l):l=[u]:=by
 cases l with
 |nil=>cases h2
 |cons y l=>
  have hy:=h1 y (by simp);subst hy;cases l with
  |nil=>rfl
  |cons z l=>
   have hz:=h1 z (by simp);subst hz;simp at hn
noncomputable def Ac (d:List aq) (F:cG):Option cG:=one (vh d (mD (r5 d F)))
theorem Qx {d:List aq} (A:Acc d) {F u:cG}:Ac d F=some u↔u∈r5 d F∧∀v∈r5 d F,Le d u v:=by
 have hl:∀x,x∈mD ((mD (r5 d F)).filter fun s=>decide (s∈jQ d))↔x∈r5 d F:=by
  intro x;rw [gB,cL,gB];exact ⟨fun h=>h.1,fun h=>⟨h,by simpa using FD h⟩⟩
 have hS:=lZ ((mD (r5 d F)).filter fun s=>decide (s∈jQ d));unfold Ac vh;generalize mD ((mD (r5 d F)).filter fun s=>decide (s∈jQ d))=l at hl hS;constructor
 ·intro h
  have e:=ach h;refine ⟨?_,fun v hv=> ?_⟩
  ·have:u∈l.filter (rI d l):=by rw [e];simp
   exact (hl u).1 (cL.1 this).1
  ·obtain ⟨m,hm,hle⟩:=Fa A v ((hl v).2 hv)
   rw [e] at hm;simp only [bP] at hm;rw [←hm];exact hle
 ·rintro ⟨h1,h2⟩
  have e:l.filter (rI d l)=[u]:=by
   refine eq_one (hS.nodup.filter _) (fun x hx=> ?_) ?_
   ·rw [cL] at hx
    exact (A7.1 hx.2 u ((hl u).2 h1) (h2 x ((hl x).1 hx.1))).symm
   ·rw [cL]
    refine ⟨(hl u).2 h1,A7.2 fun y hy hle=> ?_⟩;exact le_antisymm A hle (h2 y ((hl y).1 hy))
  rw [e];rfl
theorem Qy {d:List aq} (A:Acc d) {F u:cG} (h:Ac d F=some u):u∈jQ d:=FD ((Qx A).1 h).1
theorem h357 {d:List aq} (O:Ok d) (hf:Fz d) (F:cG):∀(xs:List aq) (i:Nat) (o:List cG),d.drop i=xs→o.length≤i→i≤d.length→
  Ke d F o i=some (match one (vh d ((r5 xs F).foldl (fun o s=>qH s o) o)) with|some x=>(x,true)|none=>([],false)):=by
 have hlen:=O.len;intro xs
 induction xs with
 |nil=>
  intro i o h ho hid;refine aa4 ?_;rw [bI h,aj,c104 O.z O.acc o (by omega),aA];show _=some (match one (vh d o) with|some x=>(x,true)|none=>([],false));generalize vh d o=l;cases l with
  |nil=>rfl
  |cons x l=>
   cases l with
   |nil=>
    rw [cond_neg (by rfl)];exact cn (l:=[x]) (i:=0) (by simp) _
   |cons y l=>rw [cond_pos (by rw [iI];simp only [bg];omega)];rfl
 |cons t xs ih=>
  intro i o h ho hid;refine aa4 ?_;have hi:=eo h;have ht:=hf t (aT (b9 h));rw [bH h,ai,aX h,c373 _ _ ht,aA,bJ h (by omega)];cases hv:val t F with
  |none=>
   rw [cond_neg (by rfl),ih (i+1) o (aN h) (by omega) (by omega)];have:r5 (t::xs) F=r5 xs F:=by simp [r5,fH,hv]
   rw [this]
  |some v=>
   have hp:=nj t.Name o;rw [cond_pos (by rfl),aX h,c98 _ _ (by omega),aA,ih (i+1) _ (aN h) (by omega) (by omega)];have:r5 (t::xs) F=t.Name::r5 xs F:=by simp [r5,fH,hv]
   rw [this,fR]
theorem c357 {d:List aq} (O:Ok d) (hf:Fz d) (F:cG):f357 d F=some (match Ac d F with|some x=>(x,true)|none=>([],false)):=
 e357 (h357 O hf F d 0 [] rfl (by simp) (by omega))
theorem h358 {l:List dR} (hl:l.length≤1048576) (x:cG):∀(xs:List dR) (i:Nat),l.drop i=xs→Oo l x i=some (gP (fun c=>c.Name==x) xs i):=by
 intro xs
 induction xs with
 |nil=>intro i h;refine aa5 ?_;rw [bI h];rfl
 |cons y xs ih=>
  intro i h;refine aa5 ?_;rw [bH h,ai,aX h,bJ h (by omega),ih (i+1) (aN h),gP];cases y.Name==x<;>rfl
theorem o358 {d:List aq} (O:Ok d) {x:cG} (hx:x∈jQ d):f358 (zY d) x=some (nu d x:Int):=by
 have hl:=O.cD;rw [←nJ] at hl;refine e358 ((h358 (l:=zY d) (by omega) x (zY d) 0 rfl).trans ?_);rw [(O.yN hx).1]
theorem Ok.code_nu {d:List aq} (O:Ok d) {x:cG} (hx:x∈jQ d) (hn:nu d x<(zY d).length):(zY d)[nu d x].Code=e1 (cwd d x):=by
 rw [O.cd.code,(O.yN hx).2.2.1]
theorem Ok.nu_lt {d:List aq} (O:Ok d) {x:cG} (hx:x∈jQ d):nu d x<(zY d).length:=by rw [nJ];exact (O.yN hx).2.1
def comb (o:Option Nat) (c:Nat):Nat:=match o with
 |some a=>a&&&c
 |none=>c
noncomputable def Bj (d:List aq) (w:Nat) (F:cG) (o:Option Nat) (t:aq):Option Nat:=match val t F with
 |some v=>if sub w (cwd d t.Name)=true then some (comb o (cwd d v)) else o
 |none=>o
noncomputable def inh (d:List aq) (w:Nat) (F:cG):Option Nat:=d.foldl (Bj d w F) none
def Vd (d:List aq):Prop:=∀t∈d,∀x∈t.de,x.Value∈jQ d
theorem Vd.val {d:List aq} (h:Vd d) {t:aq} (ht:t∈d) {F v:cG} (hv:val t F=some v):v∈jQ d:=by
 obtain ⟨x,hx,_,rfl⟩:=acL hv;exact h t ht x hx
theorem stp_in {d:List aq} (O:Ok d) (hV:Vd d) {w:Nat} {F:cG}:∀(xs:List aq) (o:Option Nat),(∀t∈xs,t∈d)→(∀c,o=some c→c=0∨c∈tys d)→∀c,xs.foldl (Bj d w F) o=some c→c=0∨c∈tys d:=by
 intro xs
 induction xs with
 |nil=>intro o _ ho c hc;exact ho c hc
 |cons t xs ih=>
  intro o hx ho c hc;rw [fR] at hc;refine ih (Bj d w F o t) (fun u hu=>hx u (by simp [hu])) (fun c' uB=> ?_) c hc;unfold Bj at uB;cases hv:val t F with
  |none=>rw [hv] at uB;exact ho c' uB
  |some v=>
   rw [hv] at uB;have hm:=O.cwmem (hV.val (hx t (by simp)) hv);simp only at uB;split at uB
   ·injection uB with uB
    cases o with
    |none=>simp only [comb] at uB;rw [←uB];exact .inr hm
    |some a=>
     simp only [comb] at uB;rcases ho a rfl with h0|h0
     ·left;rw [←uB,h0];simp
     ·by_cases hz:a&&&cwd d v=0
      ·left;rw [←uB,hz]
      ·right;rw [←uB];exact O.Tr.cl a h0 _ hm hz
   ·exact ho c' uB
theorem inh_in {d:List aq} (O:Ok d) (hV:Vd d) {w:Nat} {F:cG} {c:Nat} (h:inh d w F=some c):c=0∨c∈tys d:=
 stp_in O hV d none (fun t h=>h) (fun c h=>by cases h) c h
theorem Ok.ltmem {d:List aq} (O:Ok d) {c:Nat} (h:c∈tys d):c<18446744073709551616:=O.cd.lt c h
theorem h370 {d:List aq} (O:Ok d) (hf:Fz d) (hV:Vd d) {T:Nat} (hT:T<(tys d).length) (F:cG):∀(xs:List aq) (i:Nat) (o:Option Nat),d.drop i=xs→(∀c,o=some c→c<18446744073709551616)→
  Fv d (zY d) T F o.isSome (e1 (o.getD ((tys d).getD 0 0))) i=some (e1 ((xs.foldl (Bj d ((tys d).getD T 0) F) o).getD ((tys d).getD 0 0)),(xs.foldl (Bj d ((tys d).getD T 0) F) o).isSome):=by
 have hlen:=O.len;intro xs
 induction xs with
 |nil=>intro i o h ho;refine abb ?_;rw [bI h];rfl
 |cons t xs ih=>
  intro i o h ho;refine abb ?_;have htd:t∈d:=aT (b9 h);have ht:=hf t htd;rw [bH h,ai,aX h,c373 _ _ ht,aA,bJ h (by omega),fR];cases hv:val t F with
  |none=>
   have e:Bj d ((tys d).getD T 0) F o t=o:=by unfold Bj;rw [hv]
   rw [cond_pos (by rfl),ih (i+1) o (aN h) ho,e]
  |some v=>
   have hvn:=hV.val htd hv;have Sc:=Jn htd;have hs:=O.yN Sc;have hs2:=O.yN hvn;rw [cond_neg (by rfl),aX h,o358 O Sc,aA,o25 O.cd hs.2.1 hT,aA,hs.2.2.1];unfold Bj;rw [hv];simp only;cases hsub:sub ((tys d).getD T 0) (cwd d t.Name) with
   |false=>
    rw [pg,ai,ak (by simp)];exact ih (i+1) o (aN h) ho
   |true=>
    rw [ic,aj,au rfl,o358 O hvn,aA,cn (O.nu_lt hvn),O.code_nu hvn (O.nu_lt hvn)];have hc:(o.getD ((tys d).getD 0 0))<18446744073709551616:=by
     cases o with
     |none=>exact O.lt O.Tr.pos
     |some a=>exact ho a rfl
    rw [o61 hc (O.cwlt v),aA];have e:o.getD ((tys d).getD 0 0)&&&cwd d v=comb o (cwd d v):=by
     cases o with
     |some a=>rfl
     |none=>
      show (tys d).getD 0 0&&&cwd d v=cwd d v;rw [Nat.and_comm];exact WA.1 (O.Tr.top _ (O.cwmem hvn))
    rw [e];refine ih (i+1) (some (comb o (cwd d v))) (aN h) (fun c uB=> ?_);injection uB with uB
    rw [←uB,←e];exact jw ki hc
theorem c370 {d:List aq} (O:Ok d) (hf:Fz d) (hV:Vd d) {T:Nat} (hT:T<(tys d).length) (F:cG):f370 d (zY d) T F=some (e1 ((inh d ((tys d).getD T 0) F).getD ((tys d).getD 0 0)),(inh d ((tys d).getD T 0) F).isSome):=by
 have hp:0<(zY d).length:=by rw [nJ];exact O.Tr.pos
 refine e370 ?_;rw [show (0:Int)=((0:Nat):Int) from rfl,cn hp,O.cd.code];exact h370 O hf hV hT F d 0 none rfl (fun c h=>by cases h)
noncomputable def Bc (d:List aq) (l:List cG):Bool:=l.any fun F=>(Ac d F).isNone
noncomputable def B1 (d:List aq) (l:List Nat):Bool:=l.any fun w=>(qe d).any fun F=>inh d w F==some 0
noncomputable def yz (d:List aq):Int:=
 if ID d≠0 then ID d else if (zA (oA d)).length>256 then 7 else if (qe d).length>64 then 7 else if qP (jQ d) d≠0 then qP (jQ d) d
 else if Bc d (qe d)=true then 10 else if B1 d (tys d)=true then 11 else 0
theorem h318c {d:List aq} (O:Ok d) (hf:Fz d) (hV:Vd d) {T:Nat} (hT:T<(tys d).length) {r:Int} (hfl:(qe d).length≤1000) (hr:Ep d (zY d) (qe d) (T+1:Nat)=some r):∀(xs:List cG) (i:Nat),(qe d).drop i=xs→
  Er d (zY d) (qe d) T i=some (if (xs.any fun F=>inh d ((tys d).getD T 0) F==some 0)=true then 11 else r):=by
 have hl:=O.cD;intro xs
 induction xs with
 |nil=>
  intro i h;refine VM ?_;rw [bI h,aj,bG (by omega),hr];rfl
 |cons F xs ih=>
  intro i h;refine VM ?_;rw [bH h,ai,aX h,c370 O hf hV hT,aA,bJ h (by omega),ih (i+1) (aN h),oD];cases hi:inh d ((tys d).getD T 0) F with
  |none=>rfl
  |some c=>
   simp only [Dd,q8,ai];by_cases h0:c=0
   ·subst h0;rfl
   ·have:(some c==some 0)=false:=by simpa using h0
    rw [this,iY,cond_neg (by
     rw [gv];intro e
     exact h0 (AZ (by omega)))]
theorem h318b {d:List aq} (O:Ok d) (hf:Fz d) (hV:Vd d) (hfl:(qe d).length≤1000):∀(xs:List Nat) (T:Nat),(tys d).drop T=xs→
  Ep d (zY d) (qe d) T=some (if B1 d xs=true then 11 else 0):=by
 have hl:=O.cD;intro xs
 induction xs with
 |nil=>
  intro T h;refine VL ?_;rw [nJ,bI h];rfl
 |cons w xs ih=>
  intro T h;refine VL ?_;have hT:=eo h;have hw:(tys d).getD T 0=w:=by rw [aQ,b9 h];rfl
  rw [nJ,bH h,ai];refine (h318c O hf hV hT hfl (ih (T+1) (aN h)) (qe d) 0 rfl).trans ?_;rw [hw];unfold B1;rw [oD];cases (qe d).any fun F=>inh d w F==some 0 with
  |false=>rfl
  |true=>rfl
theorem h318a {d:List aq} (O:Ok d) (hf:Fz d) (hV:Vd d) (hfl:(qe d).length≤1000):∀(xs:List cG) (i:Nat),(qe d).drop i=xs→
  HA d (zY d) (qe d) i=some (if Bc d xs=true then 10 else if B1 d (tys d)=true then 11 else 0):=by
 intro xs
 induction xs with
 |nil=>
  intro i h;refine VK ?_;rw [bI h,aj];exact h318b O hf hV hfl (tys d) 0 rfl
 |cons F xs ih=>
  intro i h;refine VK ?_;rw [bH h,ai,aX h,c357 O hf,aA,bJ h (by omega),ih (i+1) (aN h)];unfold Bc;rw [oD];cases Ac d F<;>rfl
theorem ok_of {d:List aq} (z:Sz d) (h64:d.length≤64) (h0:ID d=0) (h1:¬(zA (oA d)).length>256):Ok d:=⟨z,HZ h0,h64,by omega⟩
theorem R1 {d:List aq} (h:qP (jQ d) d=0):Vd d:=fun t ht x hx=>(((Te _ d).1 h t ht).1 x hx).2
theorem c318 {d:List aq} (z:Sz d) (h64:d.length≤64) (hf:Fz d):f318 d=some (yz d):=by
 refine e318 ?_;unfold yz;rw [c15 z h64,aA];by_cases h0:ID d=0
 ·have hn0:¬(ID d≠0):=fun h=>h h0
  rw [ak hn0,ak hn0];by_cases h1:(zA (oA d)).length>256
  ·rw [au h1,au h1];rfl
  ·rw [ak h1,ak h1,cond_neg (by simp),c345 (by omega) hf,aA]
   have O:=ok_of z h64 h0 h1;by_cases h2:(qe d).length>64
   ·rw [au h2,cond_pos (by rw [bB];omega)]
   ·rw [ak h2,cond_neg (by rw [bA];omega),c346 (by omega) hf,aA]
    by_cases h3:qP (jQ d) d=0
    ·rw [h3,cond_neg (by simp),ak (by simp)]
     exact h318a O hf (R1 h3) (by omega) (qe d) 0 rfl
    ·rw [au h3,cond_pos (by simpa using h3)]
 ·rw [au h0,au h0,cond_pos (by simpa using h0)]
structure Y3 (d:List aq):Prop where
 ok:Ok d
 fz:Fz d
 f64:(qe d).length≤64
 fd:qP (jQ d) d=0
 intro:∀F∈qe d,∃u,Ac d F=some u
 vals:∀w∈tys d,∀F∈qe d,inh d w F≠some 0
theorem Jy {d:List aq} (z:Sz d) (h64:d.length≤64) (hf:Fz d) (h:yz d=0):Y3 d∧ID d=0∧¬(zA (oA d)).length>256:=by
 unfold yz at h;by_cases h0:ID d=0
 ·rw [ak (show¬(ID d≠0) from fun h=>h h0)] at h
  by_cases h1:(zA (oA d)).length>256
  ·rw [au h1] at h;cases h
  ·rw [ak h1] at h
   by_cases h2:(qe d).length>64
   ·rw [au h2] at h;cases h
   ·rw [ak h2] at h
    by_cases h3:qP (jQ d) d=0
    ·rw [ak (show¬(qP (jQ d) d≠0) from fun h=>h h3)] at h
     by_cases h4:Bc d (qe d)=true
     ·rw [au h4] at h;cases h
     ·rw [ak h4] at h
      by_cases h5:B1 d (tys d)=true
      ·rw [au h5] at h;cases h
      ·refine ⟨⟨ok_of z h64 h0 h1,hf,by omega,h3,fun F hF=> ?_,fun w hw F hF e=> ?_⟩,h0,h1⟩
       ·cases hi:Ac d F with
        |some u=>exact ⟨u,rfl⟩
        |none=>exact absurd (j9.2 ⟨F,hF,by rw [hi];rfl⟩) h4
       ·exact h5 (j9.2 ⟨w,hw,j9.2 ⟨F,hF,by rw [e];simp⟩⟩)
    ·rw [au h3] at h;exact absurd h h3
 ·rw [au h0] at h;exact absurd h h0
noncomputable def Z0 (d:List aq) (F:cG):dH:=⟨F,(nu d ((Ac d F).getD []):Int)⟩
noncomputable def yE (d:List aq):List dH:=(qe d).map (Z0 d)
theorem h320 {d:List aq} (O:Y3 d):∀(xs:List cG) (i:Nat) (o:List dH),(qe d).drop i=xs→o.length≤i→Oe d (zY d) (qe d) i o=some (o++xs.map (Z0 d),0):=by
 have hfl:=O.f64;intro xs
 induction xs with
 |nil=>intro i o h ho;refine aaR ?_;rw [bI h,aj,dV,eU]
 |cons F xs ih=>
  intro i o h ho;refine aaR ?_;have hi:=eo h;obtain ⟨u,hu⟩:=O.intro F (aT (b9 h))
  rw [bH h,ai,aX h,c357 O.ok O.fz,aA,hu,aX h,o358 O.ok (Qy O.ok.acc hu),aA,cz _ (by omega) (by simp) (by omega),bJ h (by omega),
   ih (i+1) _ (aN h) (by rw [cQ];simp;omega),fe]
  have:Z0 d F=⟨F,(nu d u:Int)⟩:=by unfold Z0;rw [hu];rfl
  rw [aP,this];rfl
theorem c320 {d:List aq} (z:Sz d) (h64:d.length≤64) (hf:Fz d):f320 d=some (if yz d=0 then (yE d,0) else ([],yz d)):=by
 refine e320 ?_;rw [c318 z h64 hf,aA];by_cases h:yz d=0
 ·obtain ⟨O,h0,h1⟩:=Jy z h64 hf h
  rw [au h,cond_neg (by simpa using h),c15 z h64,ak (show¬(ID d≠0) from fun h=>h h0),ak h1,aA,c345 (by omega) hf,aA];exact h320 O (qe d) 0 [] rfl (by simp)
 ·rw [ak h,cond_pos (by simpa using h)]
noncomputable def yU (d:List aq) (w:Nat):List cG→Nat→List dg
 |[],_=>[]
 |F::l,k=>match inh d w F with
  |some c=>⟨(k:Int),GL (tys d) c⟩::yU d w l (k+1)
  |none=>yU d w l (k+1)
noncomputable def KA (d:List aq):List (List dg):=(tys d).map fun w=>yU d w (qe d) 0
theorem Gs {d:List aq} {w:Nat}:∀(l:List cG) (k:Nat),(yU d w l k).length≤l.length:=by
 intro l
 induction l with
 |nil=>intro k;simp [yU]
 |cons F l ih=>
  intro k;have:=ih (k+1);unfold yU;cases inh d w F<;>simp<;>omega
theorem h323b {d:List aq} (O:Y3 d) {T:Nat} (hT:T<(tys d).length) {o:List (List dg)} (ho:o.length≤T) {r:List (List dg)×Int}:∀(xs:List cG) (i:Nat) (row:List dg),(qe d).drop i=xs→row.length≤i→
  J8 d (zY d) (qe d) (T+1:Nat) (o++[row++yU d ((tys d).getD T 0) xs i])=some r→Es d (zY d) (qe d) T i o row=some r:=by
 have hfl:=O.f64;have hl:=O.ok.cD;intro xs
 induction xs with
 |nil=>
  intro i row h hrow hr;refine VN ?_;rw [bI h,aj,cz _ (by omega) (by simp) (by omega),bG (by omega)]
  rwa [yU,eU] at hr
 |cons F xs ih=>
  intro i row h hrow hr;refine VN ?_;have hi:=eo h;rw [bH h,ai,aX h,c370 O.ok O.fz (R1 O.fd) hT,aA,bJ h (by omega)];unfold yU at hr;cases hin:inh d ((tys d).getD T 0) F with
  |none=>
   rw [hin] at hr;simp only [Option.isSome_none,aj];exact ih (i+1) row (aN h) (by omega) hr
  |some c=>
   rw [hin] at hr;simp only [Dd,q8,ai];rw [LL O.ok.cd,aA,cz _ (by omega) (by simp) (by omega)];refine ih (i+1) _ (aN h) (by rw [cQ];simp;omega) ?_;rw [fe];exact hr
theorem h323 {d:List aq} (O:Y3 d):∀(xs:List Nat) (T:Nat) (o:List (List dg)),(tys d).drop T=xs→o.length≤T→
  J8 d (zY d) (qe d) T o=some (o++xs.map (fun w=>yU d w (qe d) 0),0):=by
 intro xs
 induction xs with
 |nil=>intro T o h ho;refine aaS ?_;rw [nJ,bI h,aj,dV,eU]
 |cons w xs ih=>
  intro T o h ho;refine aaS ?_;have hw:(tys d).getD T 0=w:=by rw [aQ,b9 h];rfl
  rw [nJ,bH h,ai];refine h323b O (eo h) ho (qe d) 0 [] rfl (by simp) ?_;rw [ih (T+1) _ (aN h) (by rw [cQ];simp;omega),hw,fe];rfl
theorem c323 {d:List aq} (z:Sz d) (h64:d.length≤64) (hf:Fz d):f323 d=some (if yz d=0 then (KA d,0) else ([],yz d)):=by
 refine e323 ?_;rw [c318 z h64 hf,aA];by_cases h:yz d=0
 ·obtain ⟨O,h0,h1⟩:=Jy z h64 hf h
  rw [au h,cond_neg (by simpa using h),c15 z h64,ak (show¬(ID d≠0) from fun h=>h h0),ak h1,aA,c345 (by omega) hf,aA];exact h323 O (tys d) 0 [] rfl (by simp)
 ·rw [ak h,cond_pos (by simpa using h)]
end Go.Proofs.YthppjmoncapdfaaGreatDoor.cl
namespace Go.AM
end Go.AM
namespace Go.Proofs.YthppjmoncapdfaaGreatDoor.cl
open Go Go.AM
theorem Zd {α:Type} (p:α→Bool):∀(xs:List α) (i:Nat),decide (gP p xs i≥0)=xs.any p:=by
 intro xs
 induction xs with
 |nil=>intro i;rfl
 |cons x xs ih=>
  intro i;rw [gP,oD];cases h:p x with
  |true=>simp
  |false=>rw [←ih (i+1)];simp
theorem h384 {s:List bQ} (hs:s.length≤1048576) (x:bQ):∀(xs:List bQ) (i:Nat),s.drop i=xs→Oy s s.length i x=some (gP (fun y=>y.aY==x.aY) xs i):=by
 intro xs
 induction xs with
 |nil=>intro i h;refine abg ?_;rw [bI h];rfl
 |cons y xs ih=>
  intro i h;refine abg ?_;have h388:f388 y x=some (y.aY==x.aY):=e388 rfl;rw [bH h,ai,aX h,h388,aA,bJ h (by omega),ih (i+1) (aN h),gP];cases y.aY==x.aY<;>rfl
theorem h384a {s:List bQ} (hs:s.length≤1048576) (F:cG):∀(xs:List bQ) (i:Nat),s.drop i=xs→HG s F s.length i=some (gP (fun y=>y.aY==F) xs i):=by
 intro xs
 induction xs with
 |nil=>intro i h;refine VS ?_;rw [bI h];rfl
 |cons y xs ih=>
  intro i h;refine VS ?_;have h389:f389 y F=some (y.aY==F):=e389 rfl;rw [bH h,ai,aX h,h389,aA,bJ h (by omega),ih (i+1) (aN h),gP];cases y.aY==F<;>rfl
end Go.Proofs.YthppjmoncapdfaaGreatDoor.cl
namespace Go.Proofs.YthppjmoncapdfaaGreatDoor.cl
open Go Go.AM
theorem IQ {d:List aq}:(yE d).length=(qe d).length:=by simp [yE]
theorem YD {d:List aq}:(KA d).length=(tys d).length:=by simp [KA]
end Go.Proofs.YthppjmoncapdfaaGreatDoor.cl
namespace Go.Proofs.YthppjmoncapdfaaGreatDoor.cl
open Go Go.AM
theorem Ls {d:List aq} {w:Nat} {F:cG}:∀(xs:List aq) (o:Option Nat),
  ((xs.foldl (Bj d w F) o).isSome=true↔o.isSome=true∨∃t∈xs,(val t F).isSome=true∧sub w (cwd d t.Name)=true)∧
  ∀c,xs.foldl (Bj d w F) o=some c→∀i,c.testBit i=true↔(∀a,o=some a→a.testBit i=true)∧∀t∈xs,∀v,val t F=some v→sub w (cwd d t.Name)=true→(cwd d v).testBit i=true:=by
 intro xs
 induction xs with
 |nil=>
  intro o;refine ⟨by simp,fun c hc i=> ?_⟩;rw [List.foldl_nil] at hc;subst hc;simp
 |cons t xs ih=>
  intro o;obtain ⟨h1,h2⟩:=ih (Bj d w F o t);rw [fR];cases hv:val t F with
  |none=>
   have e:Bj d w F o t=o:=by unfold Bj;rw [hv]
   rw [e] at h1 h2⊢;constructor
   ·rw [h1]
    constructor
    ·rintro (h|⟨u,hu,h⟩)
     ·exact .inl h
     ·exact .inr ⟨u,by simp [hu],h⟩
    ·rintro (h|⟨u,hu,h⟩)
     ·exact .inl h
     ·rcases aD.1 hu with rfl|hu
      ·rw [hv] at h;simp at h
      ·exact .inr ⟨u,hu,h⟩
   ·intro c hc i
    rw [h2 c hc i];constructor
    ·rintro ⟨a,b⟩
     refine ⟨a,fun u hu v Qq hs=> ?_⟩;rcases aD.1 hu with rfl|hu
     ·rw [hv] at Qq;cases Qq
     ·exact b u hu v Qq hs
    ·rintro ⟨a,b⟩
     exact ⟨a,fun u hu v Qq hs=>b u (by simp [hu]) v Qq hs⟩
  |some v=>
   cases hs:sub w (cwd d t.Name) with
   |false=>
    have e:Bj d w F o t=o:=by unfold Bj;rw [hv,hs];simp
    rw [e] at h1 h2⊢;constructor
    ·rw [h1]
     constructor
     ·rintro (h|⟨u,hu,h⟩)
      ·exact .inl h
      ·exact .inr ⟨u,by simp [hu],h⟩
     ·rintro (h|⟨u,hu,h⟩)
      ·exact .inl h
      ·rcases aD.1 hu with rfl|hu
       ·rw [hs] at h;simp at h
       ·exact .inr ⟨u,hu,h⟩
    ·intro c hc i
     rw [h2 c hc i];constructor
     ·rintro ⟨a,b⟩
      refine ⟨a,fun u hu v Qq hsu=> ?_⟩;rcases aD.1 hu with rfl|hu
      ·rw [hs] at hsu;cases hsu
      ·exact b u hu v Qq hsu
     ·rintro ⟨a,b⟩
      exact ⟨a,fun u hu v Qq hsu=>b u (by simp [hu]) v Qq hsu⟩
   |true=>
    have e:Bj d w F o t=some (comb o (cwd d v)):=by unfold Bj;rw [hv,hs];cases o<;>rfl
    rw [e] at h1 h2⊢;have hbit:∀i,(comb o (cwd d v)).testBit i=true↔(∀a,o=some a→a.testBit i=true)∧(cwd d v).testBit i=true:=by
     intro i;cases o with
     |none=>simp [comb]
     |some a=>simp [comb,ja]
    constructor
    ·rw [h1]
     constructor
     ·intro _;exact .inr ⟨t,by simp,by rw [hv];rfl,hs⟩
     ·intro _;exact .inl rfl
    ·intro c hc i
     rw [h2 c hc i];constructor
     ·rintro ⟨a,b⟩
      have ha:=(hbit i).1 (a _ rfl);refine ⟨ha.1,fun u hu v' Qq hsu=> ?_⟩;rcases aD.1 hu with rfl|hu
      ·rw [hv] at Qq
       injection Qq with Qq
       rw [←Qq];exact ha.2
      ·exact b u hu v' Qq hsu
     ·rintro ⟨a,b⟩
      refine ⟨fun x hx=> ?_,fun u hu v' Qq hsu=>b u (by simp [hu]) v' Qq hsu⟩;injection hx with hx
      rw [←hx];exact (hbit i).2 ⟨a,b t (by simp) v hv hs⟩
theorem Qu {d:List aq} {w:Nat} {F:cG}:(inh d w F).isSome=true↔∃t∈d,(val t F).isSome=true∧sub w (cwd d t.Name)=true:=by
 have:=(Ls (d:=d) (w:=w) (F:=F) d none).1;unfold inh;rw [this];simp
theorem VE {d:List aq} {w:Nat} {F:cG} {c:Nat} (h:inh d w F=some c) (i:Nat):c.testBit i=true↔∀t∈d,∀v,val t F=some v→sub w (cwd d t.Name)=true→(cwd d v).testBit i=true:=by
 rw [(Ls (d:=d) (w:=w) (F:=F) d none).2 c h i];exact ⟨fun h=>h.2,fun h=>⟨fun a ha=>(by cases ha),h⟩⟩
theorem aas {d:List aq} {w v:Nat} {F:cG} {a b:Nat} (hs:sub v w=true) (ha:inh d w F=some a) (hb:inh d v F=some b):sub b a=true:=by
 rw [jY];intro i hi;rw [VE ha];intro t ht x hx hw;exact (VE hb i).1 hi t ht x hx (xD hs hw)
theorem inh_up {d:List aq} {w v:Nat} {F:cG} (hs:sub v w=true) (h:(inh d w F).isSome=true):(inh d v F).isSome=true:=by
 rw [Qu] at h⊢;obtain ⟨t,ht,h1,h2⟩:=h;exact ⟨t,ht,h1,xD hs h2⟩
theorem XV {d:List aq} (A:Acc d) {w:Nat} {F u:cG} (h:Ac d F=some u):(inh d w F).isSome=sub w (cwd d u):=by
 obtain ⟨h1,h2⟩:=(Qx A).1 h;rw [iH,Qu];constructor
 ·rintro ⟨t,ht,hv,hs⟩
  have hu:t.Name∈r5 d F:=Fb.2 ⟨t,ht,hv,rfl⟩;exact xD hs ((Mr (FD hu)).2 (h2 _ hu))
 ·intro hs
  obtain ⟨t,ht,hv,rfl⟩:=Fb.1 h1;exact ⟨t,ht,hv,hs⟩
theorem Y3.num {d:List aq} (O:Y3 d) {w:Nat} (hw:w∈tys d) {F:cG} (hF:F∈qe d) {c:Nat} (h:inh d w F=some c):∃q:Nat,GL (tys d) c=(q:Int)∧q<(tys d).length∧(tys d).getD q 0=c:=by
 rcases inh_in O.ok (R1 O.fd) h with h0|h0
 ·rw [h0] at h;exact absurd h (O.vals w hw F hF)
 ·obtain ⟨q,h1,h2,h3⟩:=ME h0
  exact ⟨q,h3,h1,h2⟩
theorem rowF_ge {d:List aq} {w:Nat}:∀(l:List cG) (k:Nat),∀x∈yU d w l k,(k:Int)≤x.aY:=by
 intro l
 induction l with
 |nil=>intro k x hx;cases hx
 |cons F l ih=>
  intro k x hx;unfold yU at hx;cases h:inh d w F with
  |none=>
   rw [h] at hx;have:=ih (k+1) x hx;omega
  |some c=>
   rw [h] at hx;rcases aD.1 hx with rfl|hx
   ·simp
   ·have:=ih (k+1) x hx
    omega
theorem Yt {d:List aq} {w:Nat}:∀(l:List cG) (k j:Nat) (F:cG),l[j]? =some F→(yU d w l k).find? (fun x=>x.aY==((k+j:Nat):Int))=(inh d w F).map fun c=>(⟨((k+j:Nat):Int),GL (tys d) c⟩:dg):=by
 intro l
 induction l with
 |nil=>intro k j F h;simp at h
 |cons G l ih=>
  intro k j F h;unfold yU;cases j with
  |zero=>
   have:G=F:=by simpa using h
   subst this;cases hG:inh d w G with
   |none=>
    simp only [zK];rw [uj];intro x hx;have:=rowF_ge l (k+1) x hx;simp only [fu];omega
   |some c=>
    simp only [pq,oC,beq_self_eq_true,cS]
  |succ j=>
   have h':l[j]? =some F:=by simpa using h
   have hr:=ih (k+1) j F h';have e:k+1+j=k+(j+1):=by omega
   rw [e] at hr;cases hG:inh d w G with
   |none=>exact hr
   |some c=>
    simp only [pq];rw [show ((k:Int)==((k+(j+1):Nat):Int))=false by rw [gv];omega];exact hr
theorem acM {d:List aq} {T:Nat} (hT:T<(tys d).length):∃h:T<(KA d).length,(KA d)[T]=yU d ((tys d).getD T 0) (qe d) 0:=by
 refine ⟨by rw [YD];exact hT,?_⟩;unfold KA;rw [pe]
 congr 1
 rw [aQ,aH hT];rfl
theorem XA {d:List aq} {j:Nat} {F:cG} (h:(qe d)[j]? =some F):∃hj:j<(yE d).length,(yE d)[j]=Z0 d F:=by
 obtain ⟨hj,e⟩:=bD.1 h;refine ⟨by rw [IQ];exact hj,?_⟩;unfold yE;rw [pe,e]
end Go.Proofs.YthppjmoncapdfaaGreatDoor.cl
namespace Go.Proofs.YthppjmoncapdfaaGreatDoor.cl
open Go Go.AM
noncomputable def nmAt (d:List aq) (i:Nat):cG:=((cN d).getD i ([],0)).1
noncomputable def YB (d:List aq) (i:Nat):iy:=⟨nmAt d i,e1 ((tys d).getD i 0),cast (sups (tys d) i),yU d ((tys d).getD i 0) (qe d) 0⟩
noncomputable def u9 (d:List aq):bZ:=⟨(List.range (tys d).length).map (YB d),yE d⟩
theorem cds_at {d:List aq} {i:Nat} (h:i<(zY d).length):(zY d)[i]=⟨nmAt d i,e1 ((tys d).getD i 0)⟩:=by
 have hi:i<(cN d).length:=by simpa [zY] using h
 have e:(zY d)[i]? =some ⟨nmAt d i,e1 ((tys d).getD i 0)⟩:=by
  unfold zY nmAt tys;rw [cZ,aH hi,aQ,aH hi,aQ,cZ,aH hi];rfl
 rw [aH h] at e;exact eS e
theorem Us {α:Type} (g:Nat→α) (i:Nat):(List.range i).map g++[g i]=(List.range (i+1)).map g:=by rw [jC,bT];rfl
section
variable {d:List aq} (O:Y3 d)
include O
theorem h332 (h5:f320 d=some (yE d,0)) {o2:bZ} {b:List dH}:∀(n i:Nat),(tys d).length-i=n→i≤(tys d).length→
  Og d (KA d) (zY d) i o2 ((List.range i).map (YB d)) b=some (u9 d,0):=by
 have hl:=O.ok.cD;have GR:=nJ (d:=d);intro n
 induction n with
 |zero=>
  intro i hi hle;refine aaU ?_;have:i=(tys d).length:=by omega
  subst this;rw [cond_neg (by rw [bA];omega),h5];rfl
 |succ n ih=>
  intro i hi hle;refine aaU ?_;have hlt:i<(tys d).length:=by omega
  have hic:i<(zY d).length:=by omega
  obtain ⟨g1,g2⟩:=acM hlt;rw [cond_pos (by rw [bB];omega),cn hic,cn hic,o28 O.ok.cd hlt,aA,cn g1,g2,cds_at hic,cz _ (by rw [aW,ye];omega) (by simp) (by omega),bG (by omega)];have:=Us (YB d) i;unfold YB at this⊢;rw [this];exact ih (i+1) (by omega) (by omega)
end
theorem c332 {d:List aq} (z:Sz d) (h64:d.length≤64) (hf:Fz d):f332 d=some (if yz d=0 then (u9 d,0) else (⟨[],[]⟩,yz d)):=by
 refine e332 ?_;rw [c323 z h64 hf,aA,c15 z h64,aA];by_cases h:yz d=0
 ·obtain ⟨O,h0,h1⟩:=Jy z h64 hf h
  have h5:=c320 z h64 hf;rw [au h] at h5;rw [au h,au h,ak (by simpa using h0),ak h1,cond_neg (by simp)];exact h332 O h5 _ 0 rfl (by omega)
 ·rw [ak h,cond_pos (by simpa using h),ak h]
def BO:List cG→List bQ
 |a::b::l=>⟨a,b⟩::BO l
 |_=>[]
theorem R6 {i:Nat} (h:i<4611686018427387904):IntKind.wrap .i64 ((i:Int)+2)=((i+2:Nat):Int):=by
 rw [kJ (by omega) (by omega)];omega
theorem Wl {l:List cG} (hl:l.length≤1000) {name:cG} {o6:aq} {sup a c:List cG} {b:List bQ}:∀(n:Nat) (xs:List cG),xs.length≤n→∀(i:Nat) (acc:List bQ),l.drop i=xs→acc.length≤i→i≤2000→
  Oi l i o6 name sup a b c acc=some ⟨name,sup,acc++BO xs⟩∧HC l i o6 name a b c acc=some ⟨name,c,acc++BO xs⟩:=by
 intro n
 induction n with
 |zero=>
  intro xs hx i acc h hacc hi;have:xs=[]:=nC.1 (by omega);subst this;have:=jU h;constructor
  ·refine M3 ?_
   rw [bG (by omega),cond_neg (by rw [bA];omega)];simp [BO]
  ·refine Hp ?_
   rw [bG (by omega),cond_neg (by rw [bA];omega)];simp [BO]
 |succ n ih=>
  intro xs hx i acc h hacc hi
  match xs,h,hx with
  |[],h,_=>
   have:=jU h;constructor
   ·refine M3 ?_
    rw [bG (by omega),cond_neg (by rw [bA];omega)];simp [BO]
   ·refine Hp ?_
    rw [bG (by omega),cond_neg (by rw [bA];omega)];simp [BO]
  |[x],h,_=>
   have:=jU (aN h);constructor
   ·refine M3 ?_
    rw [bG (by omega),cond_neg (by rw [bA];omega)];simp [BO]
   ·refine Hp ?_
    rw [bG (by omega),cond_neg (by rw [bA];omega)];simp [BO]
  |x::y::r,h,hx=>
   have h2:=aN h;have:=eo h2;have h3:=aN h2;simp only [bg] at hx;obtain ⟨p,q⟩:=ih r (by omega) (i+2) (acc++[⟨x,y⟩]) h3 (by rw [cQ];simp;omega) (by omega);rw [fe] at p q;constructor
   ·refine M3 ?_
    rw [bG (by omega),cond_pos (by rw [bB];omega),aX h,aX h2,cz _ (by omega) (by simp) (by omega),R6 (by omega)];exact p
   ·refine Hp ?_
    rw [bG (by omega),cond_pos (by rw [bB];omega),aX h,aX h2,cz _ (by omega) (by simp) (by omega),R6 (by omega)];exact q
theorem ET (name super:cG) (l:List cG) (hl:l.length≤1000):f351 name super l=some ⟨name,if super=[] then [] else [super],BO l⟩:=by
 refine e351 ?_;by_cases h:super=[]
 ·subst h
  have:=(Wl hl (name:=name) (o6:=⟨[],[],[]⟩) (sup:=[]) (a:=[]) (c:=[]) (b:=[]) _ l (aS _) 0 [] rfl (by simp) (by omega)).2;have hb:(!(([]:List UInt8)==([]:List UInt8)))=false:=rfl;rw [dU] at this;rw [cond_neg hb,au rfl];exact this
 ·have:=(Wl hl (name:=name) (o6:=⟨[],[],[]⟩) (sup:=[super]) (a:=[]) (c:=[]) (b:=[]) _ l (aS _) 0 [] rfl (by simp) (by omega)).1
  have hb:(!(super==([]:List UInt8)))=true:=by simpa using h
  rw [dU] at this;rw [cond_pos hb,ak h];exact this
def NB:List aq:=[
 ⟨[116,111,112],[],[]⟩,
 ⟨[108,105,115,116],[[116,111,112]],[]⟩,
 ⟨[99,111,110,115],[[108,105,115,116]],[⟨[70,73,82,83,84],[116,111,112]⟩,⟨[82,69,83,84],[108,105,115,116]⟩]⟩,
 ⟨[110,117,108,108],[[108,105,115,116]],[]⟩,
 ⟨[100,108,105,115,116],[[116,111,112]],[⟨[76,73,83,84],[108,105,115,116]⟩,⟨[76,65,83,84],[108,105,115,116]⟩]⟩,
 ⟨[105,110,100,101,120],[[116,111,112]],[]⟩,
 ⟨[104,97,110,100,108,101],[[105,110,100,101,120]],[]⟩,
 ⟨[101,118,101,110,116],[[105,110,100,101,120]],[]⟩,
 ⟨[101,110,116,105,116,121],[[105,110,100,101,120]],[]⟩,
 ⟨[114,101,108],[[116,111,112]],[⟨[76,65,66,69,76],[104,97,110,100,108,101]⟩]⟩,
 ⟨[113,101,113],[[116,111,112]],[⟨[72,73,71,72],[104,97,110,100,108,101]⟩,⟨[76,79,87],[104,97,110,100,108,101]⟩]⟩,
 ⟨[115,101,109],[[116,111,112]],[⟨[84,79,80],[104,97,110,100,108,101]⟩,⟨[73,78,68,69,88],[105,110,100,101,120]⟩,⟨[82,69,76,83],[100,108,105,115,116]⟩,⟨[67,79,78,83],[100,108,105,115,116]⟩]⟩,
 ⟨[115,105,103,110],[[116,111,112]],[⟨[83,69,77],[115,101,109]⟩,⟨[65,82,71,83],[108,105,115,116]⟩]⟩]
theorem c327:f327=some NB:=by
 refine e327 ?_;rw [ET _ _ _ (by decide),ET _ _ _ (by decide),ET _ _ _ (by decide),ET _ _ _ (by decide),ET _ _ _ (by decide),ET _ _ _ (by decide),ET _ _ _ (by decide),ET _ _ _ (by decide),ET _ _ _ (by decide),ET _ _ _ (by decide),ET _ _ _ (by decide),ET _ _ _ (by decide),ET _ _ _ (by decide)];simp only [aA];rfl
end Go.Proofs.YthppjmoncapdfaaGreatDoor.cl
namespace Go.Proofs.YthppjmoncapdfaaGreatDoor.cl
open Go Go.AM
structure Hd (h:bZ) (cs:List Nat):Prop where
 eq:h.Types.map (·.Code)=cs.map e1
 lt:∀c∈cs,c<18446744073709551616
 len:cs.length≤1000
theorem Hd.length {h:bZ} {cs:List Nat} (H:Hd h cs):h.Types.length=cs.length:=by
 have:=aI List.length H.eq;simpa using this
theorem Hd.code {h:bZ} {cs:List Nat} (H:Hd h cs) {i:Nat} (hi:i<h.Types.length):h.Types[i].Code=e1 (cs.getD i 0):=by
 have hi':i<cs.length:=by rw [←H.length];exact hi
 have:=aI (fun l=>l[i]?) H.eq;simp only [cZ,aH hi,aH hi',cS,aG] at this;rw [this,aQ,aH hi'];rfl
theorem Hd.get {h:bZ} {cs:List Nat} (H:Hd h cs) {i:Nat} (hi:i<cs.length):cs.getD i 0<18446744073709551616:=H.lt _ (kG hi)
theorem hty {d:List aq} {i:Nat} (hi:i<(tys d).length):∃h:i<(u9 d).Types.length,(u9 d).Types[i]=YB d i:=by
 refine ⟨by simpa [u9] using hi,?_⟩;simp [u9]
theorem hd5 {d:List aq} (O:Y3 d):Hd (u9 d) (tys d):=by
 refine ⟨?_,fun c hc=>O.ok.ltmem hc,by have:=O.ok.cD;omega⟩;apply oS
 ·simp [u9]
 ·intro i h1 h2
  have hi:i<(tys d).length:=by simpa using h2
  simp only [u9,pe,CY,YB];rw [aQ,aH hi];rfl
def BH (cs:List Nat) (w:Nat):Int×Bool:=if GL cs w<0 then (0,false) else (GL cs w,true)
def fnI (xs:List Nat) (w i:Nat):Int:=match xs.findIdx? (· ==w) with
 |some j=>((i+j:Nat):Int)
 |none=> -1
theorem Qa (cs:List Nat) (w:Nat):fnI cs w 0=GL cs w:=by
 unfold fnI GL;cases cs.findIdx? (· ==w)<;>simp
theorem P9 (c:Nat) (xs:List Nat) (w i:Nat):fnI (c::xs) w i=if c=w then (i:Int) else fnI xs w (i+1):=by
 unfold fnI;rw [ug];by_cases e:c=w
 ·subst e;simp
 ·have h2:(c==w)=false:=by simpa using e
  rw [h2,ak e];cases xs.findIdx? (· ==w) with
  |none=>rfl
  |some j=>
   show ((i+(j+1):Nat):Int)=((i+1+j:Nat):Int)
   omega
theorem Vv {h:bZ} {cs:List Nat} (H:Hd h cs) {i c:Nat} {xs:List Nat} (hd:cs.drop i=c::xs):∃hi:i<h.Types.length,h.Types[i].Code=e1 c∧c<18446744073709551616:=by
 have hi:=eo hd;have hl:=H.length;refine ⟨by omega,?_,?_⟩
 ·rw [H.code,aQ,b9 hd];rfl
 ·exact H.lt c (aT (b9 hd))
section
variable {h:bZ} {cs:List Nat} (H:Hd h cs)
include H
theorem h353 {w:Nat} (hw:w<18446744073709551616):∀(xs:List Nat) (i:Nat),cs.drop i=xs→Oj h.Types (e1 w) h.Types.length i=some (fnI xs w i):=by
 have hl:=H.len;intro xs
 induction xs with
 |nil=>intro i hd;refine aa0 ?_;rw [H.length,bI hd];rfl
 |cons c xs ih=>
  intro i hd;refine aa0 ?_;obtain ⟨hi,hc,hclt⟩:=Vv H hd;have h371:f371 h.Types[i] (e1 w)=some (decide (c=w)):=by
   refine e371 ?_;rw [hc,o31 hclt hw];rfl
  have hlen:=H.length;rw [cond_pos (by rw [bB];omega),cn hi,h371,aA,bG (by omega),ih (i+1) (aN hd),P9];by_cases e:c=w
  ·rw [au e,cond_pos (by simpa using e)]
  ·rw [ak e,cond_neg (by simpa using e)]
theorem o353 {w:Nat} (hw:w<18446744073709551616):f353 h.Types (e1 w)=some (GL cs w):=by
 refine e353 ?_;rw [←Qa];exact h353 H hw cs 0 rfl
theorem h354 {w:Nat} (hw:w<18446744073709551616):∀(xs:List Nat) (i:Nat),cs.drop i=xs→Ol (e1 w) i h=some (if fnI xs w i<0 then (0,false) else (fnI xs w i,true)):=by
 have hl:=H.len;intro xs
 induction xs with
 |nil=>intro i hd;refine aa1 ?_;rw [H.length,bI hd];rfl
 |cons c xs ih=>
  intro i hd;refine aa1 ?_;obtain ⟨hi,hc,hclt⟩:=Vv H hd;have hlen:=H.length;rw [cond_pos (by rw [bB];omega),cn hi,hc,o57 hclt hw,aA,bG (by omega),ih (i+1) (aN hd),P9];by_cases e:c=w
  ·rw [au e,cond_pos (by simpa using e),ak (by omega)]
  ·rw [ak e,cond_neg (by simpa using e)]
theorem o354 {w:Nat} (hw:w<18446744073709551616):f354 h (e1 w)=some (BH cs w):=by
 refine e354 ?_;unfold BH;rw [←Qa];exact h354 H hw cs 0 rfl
variable (K:YZ cs) {i j:Nat} (hi:i<cs.length) (hj:j<cs.length)
include hi
theorem o339 {j:Nat} (hj:j<cs.length):f339 h i j=some (sub (cs.getD j 0) (cs.getD i 0)):=by
 refine e339 ?_;have hl:=H.length;rw [cn (by omega),cn (by omega),H.code,H.code,o63 (H.get hj) (H.get hi)];rfl
theorem o340 {j:Nat} (hj:j<cs.length):f340 h i j=some (sub (cs.getD j 0) (cs.getD i 0)):=by
 refine e340 ?_;have hl:=H.length;rw [cn (by omega),cn (by omega),H.code,H.code,o65 (H.get hj) (H.get hi)];rfl
include K hj
theorem o335:f335 h i j=some (BH cs (cs.getD i 0&&&cs.getD j 0)):=by
 refine e335 ?_;have hl:=H.length;have hw:cs.getD i 0&&&cs.getD j 0<18446744073709551616:=jw ki (H.get hi);rw [cn (by omega),cn (by omega),H.code,H.code,o29 (H.get hi) (H.get hj),aA];by_cases h0:cs.getD i 0&&&cs.getD j 0=0
 ·rw [h0,cond_pos (by rfl)]
  unfold BH;rw [Vq (fun hm=>K.nz 0 hm rfl)];rfl
 ·rw [cond_neg (by rw [gv];intro e;exact h0 (AZ (by omega))),o353 H hw,aA]
  unfold BH;by_cases hn:GL cs (cs.getD i 0&&&cs.getD j 0)<0
  ·rw [cond_pos (by simpa using hn),au hn]
  ·rw [cond_neg (by simpa using hn),ak hn]
theorem o336:f336 h i j=some (BH cs (cs.getD i 0&&&cs.getD j 0)):=by
 refine e336 ?_;have hl:=H.length;have hw:cs.getD i 0&&&cs.getD j 0<18446744073709551616:=jw ki (H.get hi);rw [cn (by omega),cn (by omega),H.code,H.code,o61 (H.get hi) (H.get hj),aA,o354 H hw];rfl
end
theorem h355 {h:bZ} {l:List dg} (hl:l.length≤1000) (f:Int):∀(xs:List dg) (i:Nat),l.drop i=xs→Om f l l.length i h=some (match xs.find? fun x=>x.aY==f with|some x=>(x.Value,true)|none=>(0,false)):=by
 intro xs
 induction xs with
 |nil=>intro i hd;refine aa2 ?_;rw [bI hd];rfl
 |cons x xs ih=>
  intro i hd;refine aa2 ?_;rw [bH hd,ai,aX hd,bJ hd (by omega),ih (i+1) (aN hd),pq];cases hb:x.aY==f<;>simp
theorem h356 {l:List dg} (hl:l.length≤1000) (f:Int):∀(xs:List dg) (i:Nat),l.drop i=xs→On f l i=some (match xs.find? fun x=>x.aY==f with|some x=>(x.Value,true)|none=>(0,false)):=by
 intro xs
 induction xs with
 |nil=>intro i hd;refine aa3 ?_;rw [bI hd];rfl
 |cons x xs ih=>
  intro i hd;refine aa3 ?_;rw [bH hd,ai,aX hd,aX hd,bJ hd (by omega),ih (i+1) (aN hd),pq];cases hb:x.aY==f<;>rfl
theorem RH {d:List aq} {w j:Nat} {F:cG} (h:(qe d)[j]? =some F):(match (yU d w (qe d) 0).find? (fun x=>x.aY==(j:Int)) with|some x=>(x.Value,true)|none=>(0,false))=(match inh d w F with|some c=>(GL (tys d) c,true)|none=>(0,false)):=by
 have:=Yt (d:=d) (w:=w) (qe d) 0 j F h;rw [gE] at this;rw [this];cases inh d w F<;>rfl
section
variable {d:List aq} (O:Y3 d) {T:Nat} (hT:T<(tys d).length) {j:Nat} {F:cG} (hj:(qe d)[j]? =some F)
include O hT hj
theorem o355:f355 (u9 d) T j=some (match inh d ((tys d).getD T 0) F with|some c=>(GL (tys d) c,true)|none=>(0,false)):=by
 obtain ⟨g1,g2⟩:=hty hT;have h3:=Gs (d:=d) (w:=(tys d).getD T 0) (qe d) 0;have h64:=O.f64;refine e355 ?_;rw [cn g1,g2,←RH hj];exact h355 (by show (yU _ _ _ _).length≤1000;omega) j _ 0 rfl
theorem o356:f356 (u9 d) T j=some (match inh d ((tys d).getD T 0) F with|some c=>(GL (tys d) c,true)|none=>(0,false)):=by
 obtain ⟨g1,g2⟩:=hty hT;have h3:=Gs (d:=d) (w:=(tys d).getD T 0) (qe d) 0;have h64:=O.f64;refine e356 ?_;rw [cn g1,g2,←RH hj];exact h356 (by show (yU _ _ _ _).length≤1000;omega) j _ 0 rfl
end
end Go.Proofs.YthppjmoncapdfaaGreatDoor.cl
