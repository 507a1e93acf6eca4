/- Layer 5. -/
import Derived.Test.YtmidjldjkbljjaaGreatDoorClSa
set_option linter.unusedVariables false
set_option linter.unusedSimpArgs false
set_option linter.unusedSectionVars false
namespace Go.Proofs.YtmidjldjkbljjaaGreatDoor.cl
open Go Go.AM
def dG (d:List af) (F:aT):List aT:=(d.filter fun t=>(val t F).isSome).map (·.Name)
theorem qu {d:List af} {F x:aT}:x∈dG d F↔∃t∈d,(val t F).isSome=true∧t.Name=x:=by
 unfold dG;rw [List.mem_map];constructor
 ·rintro ⟨t,ht,e⟩
  rw [List.mem_filter] at ht;exact ⟨t,ht.1,ht.2,e⟩
 ·rintro ⟨t,ht,h,e⟩
  exact ⟨t,List.mem_filter.2 ⟨ht,h⟩,e⟩
theorem lF {d:List af} {F x:aT} (h:x∈dG d F):x∈cO d:=by
 obtain ⟨t,ht,_,rfl⟩:=qu.1 h;exact nV ht
def one:List aT→Option aT
 |[x]=>some x
 |_=>none
theorem To {l:List aT} {x:aT} (h:one l=some x):l=[x]:=by
 cases l with
 |nil=>cases h
 |cons y l=>
  cases l with
  |nil=>unfold one at h;injection h with h;rw [h]
  |cons z l=>cases h
theorem W7 {l:List aT} {u:aT} (hn:l.Nodup) (h1:∀x∈l,x=u) (h2:u∈l):l=[u]:=by
 cases l with
 |nil=>cases h2
 |cons y l=>
  have hy:=h1 y (by simp);subst hy;cases l with
  |nil=>rfl
  |cons z l=>
   have hz:=h1 z (by simp);subst hz;simp at hn
noncomputable def nP (d:List af) (F:aT):Option aT:=one (kN d (fo (dG d F)))
theorem qo {d:List af} (A:Acc d) {F u:aT}:nP d F=some u↔u∈dG d F∧∀v∈dG d F,Le d u v:=by
 have hl:∀x,x∈fo ((fo (dG d F)).filter fun s=>decide (s∈cO d))↔x∈dG d F:=by
  intro x;rw [cL,List.mem_filter,cL];exact ⟨fun h=>h.1,fun h=>⟨h,by simpa using lF h⟩⟩
 have hS:=cT ((fo (dG d F)).filter fun s=>decide (s∈cO d));unfold nP kN;generalize fo ((fo (dG d F)).filter fun s=>decide (s∈cO d))=l at hl hS;constructor
 ·intro h
  have e:=To h;refine ⟨?_,fun v hv=> ?_⟩
  ·have:u∈l.filter (gQ d l):=by rw [e];simp
   exact (hl u).1 (List.mem_filter.1 this).1
  ·obtain ⟨m,hm,hle⟩:=yq A v ((hl v).2 hv)
   rw [e] at hm;simp only [List.mem_singleton] at hm;rw [←hm];exact hle
 ·rintro ⟨h1,h2⟩
  have e:l.filter (gQ d l)=[u]:=by
   refine W7 (hS.nodup.filter _) (fun x hx=> ?_) ?_
   ·rw [List.mem_filter] at hx
    exact (nq.1 hx.2 u ((hl u).2 h1) (h2 x ((hl x).1 hx.1))).symm
   ·rw [List.mem_filter]
    refine ⟨(hl u).2 h1,nq.2 fun y hy hle=> ?_⟩;exact le_antisymm A hle (h2 y ((hl y).1 hy))
  rw [e];rfl
theorem Iw {d:List af} (A:Acc d) {F u:aT} (h:nP d F=some u):u∈cO d:=lF ((qo A).1 h).1
theorem h357 {d:List af} (O:Ok d) (hf:Fz d) (F:aT):∀(xs:List af) (i:Nat) (o:List aT),d.drop i=xs→o.length≤i→i≤d.length→
  CH d F o i=some (match one (kN d ((dG xs F).foldl (fun o s=>jV s o) o)) with|some x=>(x,true)|none=>([],false)):=by
 have hlen:=O.len;intro xs
 induction xs with
 |nil=>
  intro i o h ho hid;refine Su _ _ _ _ ?_;rw [aP h,cond_false,Y8 O.z O.acc o (by omega),ah];show _=some (match one (kN d o) with|some x=>(x,true)|none=>([],false));generalize kN d o=l;cases l with
  |nil=>rfl
  |cons x l=>
   cases l with
   |nil=>
    rw [cond_neg (by rfl)];exact bG (l:=[x]) (i:=0) (by simp) _
   |cons y l=>rw [cond_pos (by rw [bne_iff_ne];simp only [List.length_cons];omega)];rfl
 |cons t xs ih=>
  intro i o h ho hid;refine Su _ _ _ _ ?_;have hi:=bL h;have ht:=hf t (List.mem_of_getElem? (aW h));rw [aU h,cond_true,aL h,Zf _ _ ht,ah,aM h (by omega)];cases hv:val t F with
  |none=>
   rw [cond_neg (by rfl),ih (i+1) o (az h) (by omega) (by omega)];have:dG (t::xs) F=dG xs F:=by simp [dG,List.filter_cons,hv]
   rw [this]
  |some v=>
   have hp:=gH t.Name o;rw [cond_pos (by rfl),aL h,YH _ _ (by omega),ah,ih (i+1) _ (az h) (by omega) (by omega)];have:dG (t::xs) F=t.Name::dG xs F:=by simp [dG,List.filter_cons,hv]
   rw [this,List.foldl_cons]
theorem Zd {d:List af} (O:Ok d) (hf:Fz d) (F:aT):f357 d F=some (match nP d F with|some x=>(x,true)|none=>([],false)):=
 e357 _ _ (h357 O hf F d 0 [] rfl (by simp) (by omega))
theorem h358 {l:List aq} (hl:l.length≤1048576) (x:aT):∀(xs:List aq) (i:Nat),l.drop i=xs→GM l x i=some (bI (fun c=>c.Name==x) xs i):=by
 intro xs
 induction xs with
 |nil=>intro i h;refine Sv _ _ _ ?_;rw [aP h];rfl
 |cons y xs ih=>
  intro i h;refine Sv _ _ _ ?_;rw [aU h,cond_true,aL h,aM h (by omega),ih (i+1) (az h),bI];cases y.Name==x<;>rfl
theorem Yj {d:List af} (O:Ok d) {x:aT} (hx:x∈cO d):f358 (fN d) x=some (nu d x:Int):=by
 have hl:=O.bU;rw [←dL] at hl;refine e358 _ _ ((h358 (l:=fN d) (by omega) x (fN d) 0 rfl).trans ?_);rw [(O.mV hx).1]
theorem Ok.MA {d:List af} (O:Ok d) {x:aT} (hx:x∈cO d) (hn:nu d x<(fN d).length):(fN d)[nu d x].Code=e1 (cwd d x):=by
 rw [O.cd.code,(O.mV hx).2.2.1]
theorem Ok.NA {d:List af} (O:Ok d) {x:aT} (hx:x∈cO d):nu d x<(fN d).length:=by rw [dL];exact (O.mV hx).2.1
def comb (o:Option Nat) (c:Nat):Nat:=match o with
 |some a=>a&&&c
 |none=>c
noncomputable def tA (d:List af) (w:Nat) (F:aT) (o:Option Nat) (t:af):Option Nat:=match val t F with
 |some v=>if sub w (cwd d t.Name)=true then some (comb o (cwd d v)) else o
 |none=>o
noncomputable def inh (d:List af) (w:Nat) (F:aT):Option Nat:=d.foldl (tA d w F) none
def Vd (d:List af):Prop:=∀t∈d,∀x∈t.aR,x.Value∈cO d
theorem Vd.val {d:List af} (h:Vd d) {t:af} (ht:t∈d) {F v:aT} (hv:val t F=some v):v∈cO d:=by
 obtain ⟨x,hx,_,rfl⟩:=tJ hv;exact h t ht x hx
theorem Yu {d:List af} (O:Ok d) (hV:Vd d) {w:Nat} {F:aT}:∀(xs:List af) (o:Option Nat),(∀t∈xs,t∈d)→(∀c,o=some c→c=0∨c∈tys d)→∀c,xs.foldl (tA d w F) o=some c→c=0∨c∈tys d:=by
 intro xs
 induction xs with
 |nil=>intro o _ ho c hc;exact ho c hc
 |cons t xs ih=>
  intro o hx ho c hc;rw [List.foldl_cons] at hc;refine ih (tA d w F o t) (fun u hu=>hx u (by simp [hu])) (fun c' rV=> ?_) c hc;unfold tA at rV;cases hv:val t F with
  |none=>rw [hv] at rV;exact ho c' rV
  |some v=>
   rw [hv] at rV;have hm:=O.Vl (hV.val (hx t (by simp)) hv);simp only at rV;split at rV
   ·injection rV with rV
    cases o with
    |none=>simp only [comb] at rV;rw [←rV];exact .inr hm
    |some a=>
     simp only [comb] at rV;rcases ho a rfl with h0|h0
     ·left;rw [←rV,h0];simp
     ·by_cases hz:a&&&cwd d v=0
      ·left;rw [←rV,hz]
      ·right;rw [←rV];exact O.wh.cl a h0 _ hm hz
   ·exact ho c' rV
theorem KO {d:List af} (O:Ok d) (hV:Vd d) {w:Nat} {F:aT} {c:Nat} (h:inh d w F=some c):c=0∨c∈tys d:=
 Yu O hV d none (fun t h=>h) (fun c h=>by cases h) c h
theorem Ok.Wt {d:List af} (O:Ok d) {c:Nat} (h:c∈tys d):c<18446744073709551616:=O.cd.lt c h
theorem XO {d:List af} (O:Ok d) (hV:Vd d) {w:Nat} {F:aT} {c:Nat} (h:inh d w F=some c):c<18446744073709551616:=by
 rcases KO O hV h with h|h
 ·omega
 ·exact O.Wt h
theorem h370 {d:List af} (O:Ok d) (hf:Fz d) (hV:Vd d) {T:Nat} (hT:T<(tys d).length) (F:aT):∀(xs:List af) (i:Nat) (o:Option Nat),d.drop i=xs→(∀c,o=some c→c<18446744073709551616)→
  zb d (fN d) T F o.isSome (e1 (o.getD ((tys d).getD 0 0))) i=some (e1 ((xs.foldl (tA d ((tys d).getD T 0) F) o).getD ((tys d).getD 0 0)),(xs.foldl (tA d ((tys d).getD T 0) F) o).isSome):=by
 have hlen:=O.len;intro xs
 induction xs with
 |nil=>intro i o h ho;refine SF _ _ _ _ _ _ _ ?_;rw [aP h];rfl
 |cons t xs ih=>
  intro i o h ho;refine SF _ _ _ _ _ _ _ ?_;have MU:t∈d:=List.mem_of_getElem? (aW h);have ht:=hf t MU;rw [aU h,cond_true,aL h,Zf _ _ ht,ah,aM h (by omega),List.foldl_cons];cases hv:val t F with
  |none=>
   have e:tA d ((tys d).getD T 0) F o t=o:=by unfold tA;rw [hv]
   rw [cond_pos (by rfl),ih (i+1) o (az h) ho,e]
  |some v=>
   have YS:=hV.val MU hv;have htn:=nV MU;have hs:=O.mV htn;have hs2:=O.mV YS;rw [cond_neg (by rfl),aL h,Yj O htn,ah,o25 O.cd hs.2.1 hT,ah,hs.2.2.1];unfold tA;rw [hv];simp only;cases hsub:sub ((tys d).getD T 0) (cwd d t.Name) with
   |false=>
    rw [Bool.not_false,cond_true,if_neg (by simp)];exact ih (i+1) o (az h) ho
   |true=>
    rw [Bool.not_true,cond_false,if_pos rfl,Yj O YS,ah,bG (O.NA YS),O.MA YS (O.NA YS)];have hc:(o.getD ((tys d).getD 0 0))<18446744073709551616:=by
     cases o with
     |none=>exact O.lt O.wh.pos
     |some a=>exact ho a rfl
    rw [o61 hc (O.Ol v),ah];have e:o.getD ((tys d).getD 0 0)&&&cwd d v=comb o (cwd d v):=by
     cases o with
     |some a=>rfl
     |none=>
      show (tys d).getD 0 0&&&cwd d v=cwd d v;rw [Nat.and_comm];exact Gy.1 (O.wh.top _ (O.Vl YS))
    rw [e];refine ih (i+1) (some (comb o (cwd d v))) (az h) (fun c rV=> ?_);injection rV with rV
    rw [←rV,←e];exact Nat.lt_of_le_of_lt Nat.and_le_left hc
theorem Ze {d:List af} (O:Ok d) (hf:Fz d) (hV:Vd d) {T:Nat} (hT:T<(tys d).length) (F:aT):f370 d (fN d) T F=some (e1 ((inh d ((tys d).getD T 0) F).getD ((tys d).getD 0 0)),(inh d ((tys d).getD T 0) F).isSome):=by
 have hp:0<(fN d).length:=by rw [dL];exact O.wh.pos
 refine e370 _ _ _ _ ?_;rw [show (0:Int)=((0:Nat):Int) from rfl,bG hp,O.cd.code];exact h370 O hf hV hT F d 0 none rfl (fun c h=>by cases h)
noncomputable def gl (d:List af) (l:List aT):Bool:=l.any fun F=>(nP d F).isNone
noncomputable def iF (d:List af) (l:List Nat):Bool:=l.any fun w=>(eR d).any fun F=>inh d w F==some 0
noncomputable def gJ (d:List af):Int:=
 if tP d≠0 then tP d else if (qi (fI d)).length>256 then 7 else if (eR d).length>64 then 7 else if fZ (cO d) d≠0 then fZ (cO d) d
 else if gl d (eR d)=true then 10 else if iF d (tys d)=true then 11 else 0
theorem ZH {d:List af} (O:Ok d) (hf:Fz d) (hV:Vd d) {T:Nat} (hT:T<(tys d).length) {r:Int} (hfl:(eR d).length≤1000) (hr:xz d (fN d) (eR d) (T+1:Nat)=some r):∀(xs:List aT) (i:Nat),(eR d).drop i=xs→
  xA d (fN d) (eR d) T i=some (if (xs.any fun F=>inh d ((tys d).getD T 0) F==some 0)=true then 11 else r):=by
 have hl:=O.bU;intro xs
 induction xs with
 |nil=>
  intro i h;refine Nb _ _ _ _ _ ?_;rw [aP h,cond_false,bh (by omega),hr];rfl
 |cons F xs ih=>
  intro i h;refine Nb _ _ _ _ _ ?_;rw [aU h,cond_true,aL h,Ze O hf hV hT,ah,aM h (by omega),ih (i+1) (az h),List.any_cons];cases hi:inh d ((tys d).getD T 0) F with
  |none=>rfl
  |some c=>
   simp only [Option.isSome_some,Option.getD_some,cond_true];by_cases h0:c=0
   ·subst h0;rfl
   ·have:(some c==some 0)=false:=by simpa using h0
    rw [this,Bool.false_or,cond_neg (by
     rw [beq_eq_false_iff_ne];intro e
     exact h0 (lP (by omega)))]
theorem ZG {d:List af} (O:Ok d) (hf:Fz d) (hV:Vd d) (hfl:(eR d).length≤1000):∀(xs:List Nat) (T:Nat),(tys d).drop T=xs→
  xz d (fN d) (eR d) T=some (if iF d xs=true then 11 else 0):=by
 have hl:=O.bU;intro xs
 induction xs with
 |nil=>
  intro T h;refine Na _ _ _ _ ?_;rw [dL,aP h];rfl
 |cons w xs ih=>
  intro T h;refine Na _ _ _ _ ?_;have hT:=bL h;have hw:(tys d).getD T 0=w:=by rw [List.getD_eq_getElem?_getD,aW h];rfl
  rw [dL,aU h,cond_true];refine (ZH O hf hV hT hfl (ih (T+1) (az h)) (eR d) 0 rfl).trans ?_;rw [hw];unfold iF;rw [List.any_cons];cases (eR d).any fun F=>inh d w F==some 0 with
  |false=>rfl
  |true=>rfl
theorem ZF {d:List af} (O:Ok d) (hf:Fz d) (hV:Vd d) (hfl:(eR d).length≤1000):∀(xs:List aT) (i:Nat),(eR d).drop i=xs→
  AJ d (fN d) (eR d) i=some (if gl d xs=true then 10 else if iF d (tys d)=true then 11 else 0):=by
 intro xs
 induction xs with
 |nil=>
  intro i h;refine M9 _ _ _ _ ?_;rw [aP h,cond_false];exact ZG O hf hV hfl (tys d) 0 rfl
 |cons F xs ih=>
  intro i h;refine M9 _ _ _ _ ?_;rw [aU h,cond_true,aL h,Zd O hf,ah,aM h (by omega),ih (i+1) (az h)];unfold gl;rw [List.any_cons];cases nP d F<;>rfl
theorem Tn {d:List af} (z:Sz d) (h64:d.length≤64) (h0:tP d=0) (h1:¬(qi (fI d)).length>256):Ok d:=⟨z,qM h0,h64,by omega⟩
theorem xM {d:List af} (h:fZ (cO d) d=0):Vd d:=fun t ht x hx=>(((nN _ d).1 h t ht).1 x hx).2
theorem Zc {d:List af} (z:Sz d) (h64:d.length≤64) (hf:Fz d):f318 d=some (gJ d):=by
 refine e318 _ ?_;unfold gJ;rw [Vh z h64,ah];by_cases h0:tP d=0
 ·have hn0:¬(tP d≠0):=fun h=>h h0
  rw [if_neg hn0,if_neg hn0];by_cases h1:(qi (fI d)).length>256
  ·rw [if_pos h1,if_pos h1];rfl
  ·rw [if_neg h1,if_neg h1,cond_neg (by simp),WU (by omega) hf,ah]
   have O:=Tn z h64 h0 h1;by_cases h2:(eR d).length>64
   ·rw [if_pos h2,cond_pos (by rw [decide_eq_true_iff];omega)]
   ·rw [if_neg h2,cond_neg (by rw [decide_eq_false_iff_not];omega),c346 (by omega) hf,ah]
    by_cases h3:fZ (cO d) d=0
    ·rw [h3,cond_neg (by simp),if_neg (by simp)]
     exact ZF O hf (xM h3) (by omega) (eR d) 0 rfl
    ·rw [if_pos h3,cond_pos (by simpa using h3)]
 ·rw [if_pos h0,if_pos h0,cond_pos (by simpa using h0)]
structure CZ (d:List af):Prop where
 ok:Ok d
 fz:Fz d
 f64:(eR d).length≤64
 fd:fZ (cO d) d=0
 intro:∀F∈eR d,∃u,nP d F=some u
 vals:∀w∈tys d,∀F∈eR d,inh d w F≠some 0
theorem p9 {d:List af} (z:Sz d) (h64:d.length≤64) (hf:Fz d) (h:gJ d=0):CZ d∧tP d=0∧¬(qi (fI d)).length>256:=by
 unfold gJ at h;by_cases h0:tP d=0
 ·rw [if_neg (show¬(tP d≠0) from fun h=>h h0)] at h
  by_cases h1:(qi (fI d)).length>256
  ·rw [if_pos h1] at h;cases h
  ·rw [if_neg h1] at h
   by_cases h2:(eR d).length>64
   ·rw [if_pos h2] at h;cases h
   ·rw [if_neg h2] at h
    by_cases h3:fZ (cO d) d=0
    ·rw [if_neg (show¬(fZ (cO d) d≠0) from fun h=>h h3)] at h
     by_cases h4:gl d (eR d)=true
     ·rw [if_pos h4] at h;cases h
     ·rw [if_neg h4] at h
      by_cases h5:iF d (tys d)=true
      ·rw [if_pos h5] at h;cases h
      ·refine ⟨⟨Tn z h64 h0 h1,hf,by omega,h3,fun F hF=> ?_,fun w hw F hF e=> ?_⟩,h0,h1⟩
       ·cases hi:nP d F with
        |some u=>exact ⟨u,rfl⟩
        |none=>exact absurd (List.any_eq_true.2 ⟨F,hF,by rw [hi];rfl⟩) h4
       ·exact h5 (List.any_eq_true.2 ⟨w,hw,List.any_eq_true.2 ⟨F,hF,by rw [e];simp⟩⟩)
    ·rw [if_pos h3] at h;exact absurd h h3
 ·rw [if_pos h0] at h;exact absurd h h0
noncomputable def Fu (d:List af) (F:aT):aJ:=⟨F,(nu d ((nP d F).getD []):Int)⟩
noncomputable def eP (d:List af):List aJ:=(eR d).map (Fu d)
theorem h320 {d:List af} (O:CZ d):∀(xs:List aT) (i:Nat) (o:List aJ),(eR d).drop i=xs→o.length≤i→Cw d (fN d) (eR d) i o=some (o++xs.map (Fu d),0):=by
 have hfl:=O.f64;intro xs
 induction xs with
 |nil=>intro i o h ho;refine R5 _ _ _ _ _ ?_;rw [aP h,cond_false,List.map_nil,List.append_nil]
 |cons F xs ih=>
  intro i o h ho;refine R5 _ _ _ _ _ ?_;have hi:=bL h;obtain ⟨u,hu⟩:=O.intro F (List.mem_of_getElem? (aW h))
  rw [aU h,cond_true,aL h,Zd O.ok O.fz,ah,hu,aL h,Yj O.ok (Iw O.ok.acc hu),ah,cg _ (by omega) (by simp) (by omega),aM h (by omega),
   ih (i+1) _ (az h) (by rw [List.length_append];simp;omega),List.append_assoc]
  have:Fu d F=⟨F,(nu d u:Int)⟩:=by unfold Fu;rw [hu];rfl
  rw [List.map_cons,this];rfl
theorem c320 {d:List af} (z:Sz d) (h64:d.length≤64) (hf:Fz d):f320 d=some (if gJ d=0 then (eP d,0) else ([],gJ d)):=by
 refine e320 _ ?_;rw [Zc z h64 hf,ah];by_cases h:gJ d=0
 ·obtain ⟨O,h0,h1⟩:=p9 z h64 hf h
  rw [if_pos h,cond_neg (by simpa using h),Vh z h64,if_neg (show¬(tP d≠0) from fun h=>h h0),if_neg h1,ah,WU (by omega) hf,ah];exact h320 O (eR d) 0 [] rfl (by simp)
 ·rw [if_neg h,cond_pos (by simpa using h)]
noncomputable def kG (d:List af) (w:Nat):List aT→Nat→List au
 |[],_=>[]
 |F::l,k=>match inh d w F with
  |some c=>⟨(k:Int),tU (tys d) c⟩::kG d w l (k+1)
  |none=>kG d w l (k+1)
noncomputable def uS (d:List af):List (List au):=(tys d).map fun w=>kG d w (eR d) 0
theorem tg {d:List af} {w:Nat}:∀(l:List aT) (k:Nat),(kG d w l k).length≤l.length:=by
 intro l
 induction l with
 |nil=>intro k;simp [kG]
 |cons F l ih=>
  intro k;have:=ih (k+1);unfold kG;cases inh d w F<;>simp<;>omega
theorem ZI {d:List af} (O:CZ d) {T:Nat} (hT:T<(tys d).length) {o:List (List au)} (ho:o.length≤T) {r:List (List au)×Int}:∀(xs:List aT) (i:Nat) (row:List au),(eR d).drop i=xs→row.length≤i→
  y6 d (fN d) (eR d) (T+1:Nat) (o++[row++kG d ((tys d).getD T 0) xs i])=some r→uf d (fN d) (eR d) T i o row=some r:=by
 have hfl:=O.f64;have hl:=O.ok.bU;intro xs
 induction xs with
 |nil=>
  intro i row h hrow hr;refine Nc _ _ _ _ _ _ _ ?_;rw [aP h,cond_false,cg _ (by omega) (by simp) (by omega),bh (by omega)]
  rwa [kG,List.append_nil] at hr
 |cons F xs ih=>
  intro i row h hrow hr;refine Nc _ _ _ _ _ _ _ ?_;have hi:=bL h;rw [aU h,cond_true,aL h,Ze O.ok O.fz (xM O.fd) hT,ah,aM h (by omega)];unfold kG at hr;cases hin:inh d ((tys d).getD T 0) F with
  |none=>
   rw [hin] at hr;simp only [Option.isSome_none,cond_false];exact ih (i+1) row (az h) (by omega) hr
  |some c=>
   rw [hin] at hr;simp only [Option.isSome_some,Option.getD_some,cond_true];rw [o19 O.ok.cd,ah,cg _ (by omega) (by simp) (by omega)];refine ih (i+1) _ (az h) (by rw [List.length_append];simp;omega) ?_;rw [List.append_assoc];exact hr
theorem h323 {d:List af} (O:CZ d):∀(xs:List Nat) (T:Nat) (o:List (List au)),(tys d).drop T=xs→o.length≤T→
  y6 d (fN d) (eR d) T o=some (o++xs.map (fun w=>kG d w (eR d) 0),0):=by
 intro xs
 induction xs with
 |nil=>intro T o h ho;refine R7 _ _ _ _ _ ?_;rw [dL,aP h,cond_false,List.map_nil,List.append_nil]
 |cons w xs ih=>
  intro T o h ho;refine R7 _ _ _ _ _ ?_;have hw:(tys d).getD T 0=w:=by rw [List.getD_eq_getElem?_getD,aW h];rfl
  rw [dL,aU h,cond_true];refine ZI O (bL h) ho (eR d) 0 [] rfl (by simp) ?_;rw [ih (T+1) _ (az h) (by rw [List.length_append];simp;omega),hw,List.append_assoc];rfl
theorem c323 {d:List af} (z:Sz d) (h64:d.length≤64) (hf:Fz d):f323 d=some (if gJ d=0 then (uS d,0) else ([],gJ d)):=by
 refine e323 _ ?_;rw [Zc z h64 hf,ah];by_cases h:gJ d=0
 ·obtain ⟨O,h0,h1⟩:=p9 z h64 hf h
  rw [if_pos h,cond_neg (by simpa using h),Vh z h64,if_neg (show¬(tP d≠0) from fun h=>h h0),if_neg h1,ah,WU (by omega) hf,ah];exact h323 O (tys d) 0 [] rfl (by simp)
 ·rw [if_neg h,cond_pos (by simpa using h)]
end Go.Proofs.YtmidjldjkbljjaaGreatDoor.cl
