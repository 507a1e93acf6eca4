/- Layer 5. -/
import Derived.Test.YtmidjldjkbljjaaGreatDoorClSa
set_option linter.unusedVariables false
set_option linter.unusedSimpArgs false
set_option linter.unusedSectionVars false
namespace Go.Proofs.YtmidjldjkbljjaaGreatDoor.cl
open Go Go.AM
def dB (d:List af) (F:aS):List aS:=(d.filter fun t=>(val t F).isSome).map (·.Name)
theorem pW {d:List af} {F x:aS}:x∈dB d F↔∃t∈d,(val t F).isSome=true∧t.Name=x:=by
 unfold dB;rw [List.mem_map];constructor
 ·rintro ⟨t,ht,e⟩
  rw [List.mem_filter] at ht;exact ⟨t,ht.1,ht.2,e⟩
 ·rintro ⟨t,ht,h,e⟩
  exact ⟨t,List.mem_filter.2 ⟨ht,h⟩,e⟩
theorem lp {d:List af} {F x:aS} (h:x∈dB d F):x∈cK d:=by
 obtain ⟨t,ht,_,rfl⟩:=pW.1 h;exact jt ht
def one:List aS→Option aS
 |[x]=>some x
 |_=>none
theorem Rw {l:List aS} {x:aS} (h:one l=some x):l=[x]:=by
 cases l with
 |nil=>cases h
 |cons y l=>
  cases l with
  |nil=>unfold one at h;injection h with h;rw [h]
  |cons z l=>cases h
theorem Va {l:List aS} {u:aS} (hn:l.Nodup) (h1:∀x∈l,x=u) (h2:u∈l):l=[u]:=by
 cases l with
 |nil=>cases h2
 |cons y l=>
  have hy:=h1 y (by simp);subst hy;cases l with
  |nil=>rfl
  |cons z l=>
   have hz:=h1 z (by simp);subst hz;simp at hn
noncomputable def nA (d:List af) (F:aS):Option aS:=one (mw d (eU (dB d F)))
theorem pM {d:List af} (A:Acc d) {F u:aS}:nA d F=some u↔u∈dB d F∧∀v∈dB d F,Le d u v:=by
 have hl:∀x,x∈eU ((eU (dB d F)).filter fun s=>decide (s∈cK d))↔x∈dB d F:=by
  intro x;rw [cO,List.mem_filter,cO];exact ⟨fun h=>h.1,fun h=>⟨h,by simpa using lp h⟩⟩
 have hS:=cU ((eU (dB d F)).filter fun s=>decide (s∈cK d));unfold nA mw;generalize eU ((eU (dB d F)).filter fun s=>decide (s∈cK d))=l at hl hS;constructor
 ·intro h
  have e:=Rw h;refine ⟨?_,fun v hv=> ?_⟩
  ·have:u∈l.filter (iL d l):=by rw [e];simp
   exact (hl u).1 (List.mem_filter.1 this).1
  ·obtain ⟨m,hm,hle⟩:=xm A v ((hl v).2 hv)
   rw [e] at hm;simp only [List.mem_singleton] at hm;rw [←hm];exact hle
 ·rintro ⟨h1,h2⟩
  have e:l.filter (iL d l)=[u]:=by
   refine Va (hS.nodup.filter _) (fun x hx=> ?_) ?_
   ·rw [List.mem_filter] at hx
    exact (sW.1 hx.2 u ((hl u).2 h1) (h2 x ((hl x).1 hx.1))).symm
   ·rw [List.mem_filter]
    refine ⟨(hl u).2 h1,sW.2 fun y hy hle=> ?_⟩;exact le_antisymm A hle (h2 y ((hl y).1 hy))
  rw [e];rfl
theorem As {d:List af} (A:Acc d) {F u:aS} (h:nA d F=some u):u∈cK d:=lp ((pM A).1 h).1
theorem h357 {d:List af} (O:Ok d) (hf:Fz d) (F:aS):∀(xs:List af) (i:Nat) (o:List aS),d.drop i=xs→o.length≤i→i≤d.length→
  BG d F o i=some (match one (mw d ((dB xs F).foldl (fun o s=>jP s o) o)) with|some x=>(x,true)|none=>([],false)):=by
 have hlen:=O.len;intro xs
 induction xs with
 |nil=>
  intro i o h ho hid;refine Qw _ _ _ _ ?_;rw [aQ h,cond_false,Xf O.z O.acc o (by omega),ah];show _=some (match one (mw d o) with|some x=>(x,true)|none=>([],false));generalize mw d o=l;cases l with
  |nil=>rfl
  |cons x l=>
   cases l with
   |nil=>
    rw [cond_neg (by rfl)];exact cu (l:=[x]) (i:=0) (by simp) _
   |cons y l=>rw [cond_pos (by rw [bne_iff_ne];simp only [List.length_cons];omega)];rfl
 |cons t xs ih=>
  intro i o h ho hid;refine Qw _ _ _ _ ?_;have hi:=bN h;have ht:=hf t (List.mem_of_getElem? (aZ h));rw [aT h,cond_true,aM h,Xp _ _ ht,ah,aN h (by omega)];cases hv:val t F with
  |none=>
   rw [cond_neg (by rfl),ih (i+1) o (az h) (by omega) (by omega)];have:dB (t::xs) F=dB xs F:=by simp [dB,List.filter_cons,hv]
   rw [this]
  |some v=>
   have hp:=gF t.Name o;rw [cond_pos (by rfl),aM h,WK _ _ (by omega),ah,ih (i+1) _ (az h) (by omega) (by omega)];have:dB (t::xs) F=t.Name::dB xs F:=by simp [dB,List.filter_cons,hv]
   rw [this,List.foldl_cons]
theorem Xn {d:List af} (O:Ok d) (hf:Fz d) (F:aS):f357 d F=some (match nA d F with|some x=>(x,true)|none=>([],false)):=
 e357 _ _ (h357 O hf F d 0 [] rfl (by simp) (by omega))
theorem h358 {l:List ak} (hl:l.length≤1048576) (x:aS):∀(xs:List ak) (i:Nat),l.drop i=xs→FF l x i=some (bJ (fun c=>c.Name==x) xs i):=by
 intro xs
 induction xs with
 |nil=>intro i h;refine Qx _ _ _ ?_;rw [aQ h];rfl
 |cons y xs ih=>
  intro i h;refine Qx _ _ _ ?_;rw [aT h,cond_true,aM h,aN h (by omega),ih (i+1) (az h),bJ];cases y.Name==x<;>rfl
theorem Wn {d:List af} (O:Ok d) {x:aS} (hx:x∈cK d):f358 (ff d) x=some (nu d x:Int):=by
 have hl:=O.bQ;rw [←cS] at hl;refine e358 _ _ ((h358 (l:=ff d) (by omega) x (ff d) 0 rfl).trans ?_);rw [(O.iz hx).1]
theorem Ok.Lj {d:List af} (O:Ok d) {x:aS} (hx:x∈cK d) (hn:nu d x<(ff d).length):(ff d)[nu d x].Code=e1 (cwd d x):=by
 rw [O.cd.code,(O.iz hx).2.2.1]
theorem Ok.Mb {d:List af} (O:Ok d) {x:aS} (hx:x∈cK d):nu d x<(ff d).length:=by rw [cS];exact (O.iz hx).2.1
def comb (o:Option Nat) (c:Nat):Nat:=match o with
 |some a=>a&&&c
 |none=>c
noncomputable def sC (d:List af) (w:Nat) (F:aS) (o:Option Nat) (t:af):Option Nat:=match val t F with
 |some v=>if sub w (cwd d t.Name)=true then some (comb o (cwd d v)) else o
 |none=>o
noncomputable def inh (d:List af) (w:Nat) (F:aS):Option Nat:=d.foldl (sC d w F) none
def Vd (d:List af):Prop:=∀t∈d,∀x∈t.bz,x.Value∈cK d
theorem Vd.val {d:List af} (h:Vd d) {t:af} (ht:t∈d) {F v:aS} (hv:val t F=some v):v∈cK d:=by
 obtain ⟨x,hx,_,rfl⟩:=BX hv;exact h t ht x hx
theorem WA {d:List af} (O:Ok d) (hV:Vd d) {w:Nat} {F:aS}:∀(xs:List af) (o:Option Nat),(∀t∈xs,t∈d)→(∀c,o=some c→c=0∨c∈tys d)→∀c,xs.foldl (sC d w F) o=some c→c=0∨c∈tys d:=by
 intro xs
 induction xs with
 |nil=>intro o _ ho c hc;exact ho c hc
 |cons t xs ih=>
  intro o hx ho c hc;rw [List.foldl_cons] at hc;refine ih (sC d w F o t) (fun u hu=>hx u (by simp [hu])) (fun c' rA=> ?_) c hc;unfold sC at rA;cases hv:val t F with
  |none=>rw [hv] at rA;exact ho c' rA
  |some v=>
   rw [hv] at rA;have hm:=O.ON (hV.val (hx t (by simp)) hv);simp only at rA;split at rA
   ·injection rA with rA
    cases o with
    |none=>simp only [comb] at rA;rw [←rA];exact .inr hm
    |some a=>
     simp only [comb] at rA;rcases ho a rfl with h0|h0
     ·left;rw [←rA,h0];simp
     ·by_cases hz:a&&&cwd d v=0
      ·left;rw [←rA,hz]
      ·right;rw [←rA];exact O.GM.cl a h0 _ hm hz
   ·exact ho c' rA
theorem JJ {d:List af} (O:Ok d) (hV:Vd d) {w:Nat} {F:aS} {c:Nat} (h:inh d w F=some c):c=0∨c∈tys d:=
 WA O hV d none (fun t h=>h) (fun c h=>by cases h) c h
theorem Ok.YQ {d:List af} (O:Ok d) {c:Nat} (h:c∈tys d):c<18446744073709551616:=O.cd.lt c h
theorem VS {d:List af} (O:Ok d) (hV:Vd d) {w:Nat} {F:aS} {c:Nat} (h:inh d w F=some c):c<18446744073709551616:=by
 rcases JJ O hV h with h|h
 ·omega
 ·exact O.YQ h
theorem h370 {d:List af} (O:Ok d) (hf:Fz d) (hV:Vd d) {T:Nat} (hT:T<(tys d).length) (F:aS):∀(xs:List af) (i:Nat) (o:Option Nat),d.drop i=xs→(∀c,o=some c→c<18446744073709551616)→
  yb d (ff d) T F o.isSome (e1 (o.getD ((tys d).getD 0 0))) i=some (e1 ((xs.foldl (sC d ((tys d).getD T 0) F) o).getD ((tys d).getD 0 0)),(xs.foldl (sC d ((tys d).getD T 0) F) o).isSome):=by
 have hlen:=O.len;intro xs
 induction xs with
 |nil=>intro i o h ho;refine QE _ _ _ _ _ _ _ ?_;rw [aQ h];rfl
 |cons t xs ih=>
  intro i o h ho;refine QE _ _ _ _ _ _ _ ?_;have LA:t∈d:=List.mem_of_getElem? (aZ h);have ht:=hf t LA;rw [aT h,cond_true,aM h,Xp _ _ ht,ah,aN h (by omega),List.foldl_cons];cases hv:val t F with
  |none=>
   have e:sC d ((tys d).getD T 0) F o t=o:=by unfold sC;rw [hv]
   rw [cond_pos (by rfl),ih (i+1) o (az h) ho,e]
  |some v=>
   have WX:=hV.val LA hv;have WU:=jt LA;have hs:=O.iz WU;have hs2:=O.iz WX;rw [cond_neg (by rfl),aM h,Wn O WU,ah,o25 O.cd hs.2.1 hT,ah,hs.2.2.1];unfold sC;rw [hv];simp only;cases hsub:sub ((tys d).getD T 0) (cwd d t.Name) with
   |false=>
    rw [Bool.not_false,cond_true,if_neg (by simp)];exact ih (i+1) o (az h) ho
   |true=>
    rw [Bool.not_true,cond_false,if_pos rfl,Wn O WX,ah,cu (O.Mb WX),O.Lj WX (O.Mb WX)];have hc:(o.getD ((tys d).getD 0 0))<18446744073709551616:=by
     cases o with
     |none=>exact O.lt O.GM.pos
     |some a=>exact ho a rfl
    rw [o61 hc (O.MV v),ah];have e:o.getD ((tys d).getD 0 0)&&&cwd d v=comb o (cwd d v):=by
     cases o with
     |some a=>rfl
     |none=>
      show (tys d).getD 0 0&&&cwd d v=cwd d v;rw [Nat.and_comm];exact Mj.1 (O.GM.top _ (O.ON WX))
    rw [e];refine ih (i+1) (some (comb o (cwd d v))) (az h) (fun c rA=> ?_);injection rA with rA
    rw [←rA,←e];exact Nat.lt_of_le_of_lt Nat.and_le_left hc
theorem Xo {d:List af} (O:Ok d) (hf:Fz d) (hV:Vd d) {T:Nat} (hT:T<(tys d).length) (F:aS):f370 d (ff d) T F=some (e1 ((inh d ((tys d).getD T 0) F).getD ((tys d).getD 0 0)),(inh d ((tys d).getD T 0) F).isSome):=by
 have hp:0<(ff d).length:=by rw [cS];exact O.GM.pos
 refine e370 _ _ _ _ ?_;rw [show (0:Int)=((0:Nat):Int) from rfl,cu hp,O.cd.code];exact h370 O hf hV hT F d 0 none rfl (fun c h=>by cases h)
noncomputable def fZ (d:List af) (l:List aS):Bool:=l.any fun F=>(nA d F).isNone
noncomputable def iG (d:List af) (l:List Nat):Bool:=l.any fun w=>(dM d).any fun F=>inh d w F==some 0
noncomputable def gZ (d:List af):Int:=
 if ql d≠0 then ql d else if (nY (fq d)).length>256 then 7 else if (dM d).length>64 then 7 else if fG (cK d) d≠0 then fG (cK d) d
 else if fZ d (dM d)=true then 10 else if iG d (tys d)=true then 11 else 0
theorem XR {d:List af} (O:Ok d) (hf:Fz d) (hV:Vd d) {T:Nat} (hT:T<(tys d).length) {r:Int} (hfl:(dM d).length≤1000) (hr:wm d (ff d) (dM d) (T+1:Nat)=some r):∀(xs:List aS) (i:Nat),(dM d).drop i=xs→
  wq d (ff d) (dM d) T i=some (if (xs.any fun F=>inh d ((tys d).getD T 0) F==some 0)=true then 11 else r):=by
 have hl:=O.bQ;intro xs
 induction xs with
 |nil=>
  intro i h;refine LR _ _ _ _ _ ?_;rw [aQ h,cond_false,bl (by omega),hr];rfl
 |cons F xs ih=>
  intro i h;refine LR _ _ _ _ _ ?_;rw [aT h,cond_true,aM h,Xo O hf hV hT,ah,aN h (by omega),ih (i+1) (az h),List.any_cons];cases hi:inh d ((tys d).getD T 0) F with
  |none=>rfl
  |some c=>
   simp only [Option.isSome_some,Option.getD_some,cond_true];by_cases h0:c=0
   ·subst h0;rfl
   ·have:(some c==some 0)=false:=by simpa using h0
    rw [this,Bool.false_or,cond_neg (by
     rw [beq_eq_false_iff_ne];intro e
     exact h0 (u5 (by omega)))]
theorem XQ {d:List af} (O:Ok d) (hf:Fz d) (hV:Vd d) (hfl:(dM d).length≤1000):∀(xs:List Nat) (T:Nat),(tys d).drop T=xs→
  wm d (ff d) (dM d) T=some (if iG d xs=true then 11 else 0):=by
 have hl:=O.bQ;intro xs
 induction xs with
 |nil=>
  intro T h;refine LQ _ _ _ _ ?_;rw [cS,aQ h];rfl
 |cons w xs ih=>
  intro T h;refine LQ _ _ _ _ ?_;have hT:=bN h;have hw:(tys d).getD T 0=w:=by rw [List.getD_eq_getElem?_getD,aZ h];rfl
  rw [cS,aT h,cond_true];refine (XR O hf hV hT hfl (ih (T+1) (az h)) (dM d) 0 rfl).trans ?_;rw [hw];unfold iG;rw [List.any_cons];cases (dM d).any fun F=>inh d w F==some 0 with
  |false=>rfl
  |true=>rfl
theorem XP {d:List af} (O:Ok d) (hf:Fz d) (hV:Vd d) (hfl:(dM d).length≤1000):∀(xs:List aS) (i:Nat),(dM d).drop i=xs→
  zL d (ff d) (dM d) i=some (if fZ d xs=true then 10 else if iG d (tys d)=true then 11 else 0):=by
 intro xs
 induction xs with
 |nil=>
  intro i h;refine LP _ _ _ _ ?_;rw [aQ h,cond_false];exact XQ O hf hV hfl (tys d) 0 rfl
 |cons F xs ih=>
  intro i h;refine LP _ _ _ _ ?_;rw [aT h,cond_true,aM h,Xn O hf,ah,aN h (by omega),ih (i+1) (az h)];unfold fZ;rw [List.any_cons];cases nA d F<;>rfl
theorem Mg {d:List af} (z:Sz d) (h64:d.length≤64) (h0:ql d=0) (h1:¬(nY (fq d)).length>256):Ok d:=⟨z,tX h0,h64,by omega⟩
theorem wH {d:List af} (h:fG (cK d) d=0):Vd d:=fun t ht x hx=>(((nw _ d).1 h t ht).1 x hx).2
theorem Lr {d:List af} (h64:d.length≤64) (hf:Fz d):(dM d).length≤64000:=by
 have h1:=gK (Ah d);have h2:=Sv hf;unfold dM;omega
theorem OE {d:List af} (z:Sz d) (h64:d.length≤64) (hf:Fz d):f318 d=some (gZ d):=by
 refine e318 _ ?_;unfold gZ;rw [UR z h64,ah];by_cases h0:ql d=0
 ·have hn0:¬(ql d≠0):=fun h=>h h0
  rw [if_neg hn0,if_neg hn0];by_cases h1:(nY (fq d)).length>256
  ·rw [if_pos h1,if_pos h1];rfl
  ·rw [if_neg h1,if_neg h1,cond_neg (by simp),UT (by omega) hf,ah]
   have O:=Mg z h64 h0 h1;by_cases h2:(dM d).length>64
   ·rw [if_pos h2,cond_pos (by rw [decide_eq_true_iff];omega)]
   ·rw [if_neg h2,cond_neg (by rw [decide_eq_false_iff_not];omega),c346 (by omega) hf,ah]
    by_cases h3:fG (cK d) d=0
    ·rw [h3,cond_neg (by simp),if_neg (by simp)]
     exact XP O hf (wH h3) (by omega) (dM d) 0 rfl
    ·rw [if_pos h3,cond_pos (by simpa using h3)]
 ·rw [if_pos h0,if_pos h0,cond_pos (by simpa using h0)]
structure ME (d:List af):Prop where
 ok:Ok d
 fz:Fz d
 f64:(dM d).length≤64
 fd:fG (cK d) d=0
 intro:∀F∈dM d,∃u,nA d F=some u
 vals:∀w∈tys d,∀F∈dM d,inh d w F≠some 0
theorem r5 {d:List af} (z:Sz d) (h64:d.length≤64) (hf:Fz d) (h:gZ d=0):ME d∧ql d=0∧¬(nY (fq d)).length>256:=by
 unfold gZ at h;by_cases h0:ql d=0
 ·rw [if_neg (show¬(ql d≠0) from fun h=>h h0)] at h
  by_cases h1:(nY (fq d)).length>256
  ·rw [if_pos h1] at h;cases h
  ·rw [if_neg h1] at h
   by_cases h2:(dM d).length>64
   ·rw [if_pos h2] at h;cases h
   ·rw [if_neg h2] at h
    by_cases h3:fG (cK d) d=0
    ·rw [if_neg (show¬(fG (cK d) d≠0) from fun h=>h h3)] at h
     by_cases h4:fZ d (dM d)=true
     ·rw [if_pos h4] at h;cases h
     ·rw [if_neg h4] at h
      by_cases h5:iG d (tys d)=true
      ·rw [if_pos h5] at h;cases h
      ·refine ⟨⟨Mg z h64 h0 h1,hf,by omega,h3,fun F hF=> ?_,fun w hw F hF e=> ?_⟩,h0,h1⟩
       ·cases hi:nA d F with
        |some u=>exact ⟨u,rfl⟩
        |none=>exact absurd (List.any_eq_true.2 ⟨F,hF,by rw [hi];rfl⟩) h4
       ·exact h5 (List.any_eq_true.2 ⟨w,hw,List.any_eq_true.2 ⟨F,hF,by rw [e];simp⟩⟩)
    ·rw [if_pos h3] at h;exact absurd h h3
 ·rw [if_pos h0] at h;exact absurd h h0
noncomputable def Aj (d:List af) (F:aS):aF:=⟨F,(nu d ((nA d F).getD []):Int)⟩
noncomputable def eX (d:List af):List aF:=(dM d).map (Aj d)
theorem h320 {d:List af} (O:ME d):∀(xs:List aS) (i:Nat) (o:List aF),(dM d).drop i=xs→o.length≤i→Bz d (ff d) (dM d) i o=some (o++xs.map (Aj d),0):=by
 have hfl:=O.f64;intro xs
 induction xs with
 |nil=>intro i o h ho;refine Qk _ _ _ _ _ ?_;rw [aQ h,cond_false,List.map_nil,List.append_nil]
 |cons F xs ih=>
  intro i o h ho;refine Qk _ _ _ _ _ ?_;have hi:=bN h;obtain ⟨u,hu⟩:=O.intro F (List.mem_of_getElem? (aZ h))
  rw [aT h,cond_true,aM h,Xn O.ok O.fz,ah,hu,aM h,Wn O.ok (As O.ok.acc hu),ah,cF _ (by omega) (by simp) (by omega),aN h (by omega),
   ih (i+1) _ (az h) (by rw [List.length_append];simp;omega),List.append_assoc]
  have:Aj d F=⟨F,(nu d u:Int)⟩:=by unfold Aj;rw [hu];rfl
  rw [List.map_cons,this];rfl
theorem c320 {d:List af} (z:Sz d) (h64:d.length≤64) (hf:Fz d):f320 d=some (if gZ d=0 then (eX d,0) else ([],gZ d)):=by
 refine e320 _ ?_;rw [OE z h64 hf,ah];by_cases h:gZ d=0
 ·obtain ⟨O,h0,h1⟩:=r5 z h64 hf h
  rw [if_pos h,cond_neg (by simpa using h),UR z h64,if_neg (show¬(ql d≠0) from fun h=>h h0),if_neg h1,ah,UT (by omega) hf,ah];exact h320 O (dM d) 0 [] rfl (by simp)
 ·rw [if_neg h,cond_pos (by simpa using h)]
noncomputable def me (d:List af) (w:Nat):List aS→Nat→List ai
 |[],_=>[]
 |F::l,k=>match inh d w F with
  |some c=>⟨(k:Int),FM (tys d) c⟩::me d w l (k+1)
  |none=>me d w l (k+1)
noncomputable def gU (d:List af):List (List ai):=(tys d).map fun w=>me d w (dM d) 0
theorem y7 {d:List af} {w:Nat}:∀(l:List aS) (k:Nat),(me d w l k).length≤l.length:=by
 intro l
 induction l with
 |nil=>intro k;simp [me]
 |cons F l ih=>
  intro k;have:=ih (k+1);unfold me;cases inh d w F<;>simp<;>omega
theorem XS {d:List af} (O:ME d) {T:Nat} (hT:T<(tys d).length) {o:List (List ai)} (ho:o.length≤T) {r:List (List ai)×Int}:∀(xs:List aS) (i:Nat) (row:List ai),(dM d).drop i=xs→row.length≤i→
  x7 d (ff d) (dM d) (T+1:Nat) (o++[row++me d ((tys d).getD T 0) xs i])=some r→tg d (ff d) (dM d) T i o row=some r:=by
 have hfl:=O.f64;have hl:=O.ok.bQ;intro xs
 induction xs with
 |nil=>
  intro i row h hrow hr;refine LS _ _ _ _ _ _ _ ?_;rw [aQ h,cond_false,cF _ (by omega) (by simp) (by omega),bl (by omega)]
  rwa [me,List.append_nil] at hr
 |cons F xs ih=>
  intro i row h hrow hr;refine LS _ _ _ _ _ _ _ ?_;have hi:=bN h;rw [aT h,cond_true,aM h,Xo O.ok O.fz (wH O.fd) hT,ah,aN h (by omega)];unfold me at hr;cases hin:inh d ((tys d).getD T 0) F with
  |none=>
   rw [hin] at hr;simp only [Option.isSome_none,cond_false];exact ih (i+1) row (az h) (by omega) hr
  |some c=>
   rw [hin] at hr;simp only [Option.isSome_some,Option.getD_some,cond_true];rw [o19 O.ok.cd,ah,cF _ (by omega) (by simp) (by omega)];refine ih (i+1) _ (az h) (by rw [List.length_append];simp;omega) ?_;rw [List.append_assoc];exact hr
theorem h323 {d:List af} (O:ME d):∀(xs:List Nat) (T:Nat) (o:List (List ai)),(tys d).drop T=xs→o.length≤T→
  x7 d (ff d) (dM d) T o=some (o++xs.map (fun w=>me d w (dM d) 0),0):=by
 intro xs
 induction xs with
 |nil=>intro T o h ho;refine Qm _ _ _ _ _ ?_;rw [cS,aQ h,cond_false,List.map_nil,List.append_nil]
 |cons w xs ih=>
  intro T o h ho;refine Qm _ _ _ _ _ ?_;have hw:(tys d).getD T 0=w:=by rw [List.getD_eq_getElem?_getD,aZ h];rfl
  rw [cS,aT h,cond_true];refine XS O (bN h) ho (dM d) 0 [] rfl (by simp) ?_;rw [ih (T+1) _ (az h) (by rw [List.length_append];simp;omega),hw,List.append_assoc];rfl
theorem c323 {d:List af} (z:Sz d) (h64:d.length≤64) (hf:Fz d):f323 d=some (if gZ d=0 then (gU d,0) else ([],gZ d)):=by
 refine e323 _ ?_;rw [OE z h64 hf,ah];by_cases h:gZ d=0
 ·obtain ⟨O,h0,h1⟩:=r5 z h64 hf h
  rw [if_pos h,cond_neg (by simpa using h),UR z h64,if_neg (show¬(ql d≠0) from fun h=>h h0),if_neg h1,ah,UT (by omega) hf,ah];exact h323 O (tys d) 0 [] rfl (by simp)
 ·rw [if_neg h,cond_pos (by simpa using h)]
end Go.Proofs.YtmidjldjkbljjaaGreatDoor.cl
