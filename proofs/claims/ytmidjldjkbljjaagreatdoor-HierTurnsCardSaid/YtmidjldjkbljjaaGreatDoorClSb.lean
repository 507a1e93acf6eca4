/- Layer 5. -/
import Derived.Test.YtmidjldjkbljjaaGreatDoorClSa
set_option linter.unusedVariables false
set_option linter.unusedSimpArgs false
set_option linter.unusedSectionVars false
namespace Go.Proofs.YtmidjldjkbljjaaGreatDoor.cl
open Go Go.AM
def dG (d:List af) (F:aT):List aT:=(d.filter fun t=>(val t F).isSome).map (·.Name)
theorem qu {d:List af} {F x:aT}:x∈dG d F↔∃t∈d,(val t F).isSome=true∧t.Name=x:=by
 unfold dG;rw [List.mem_map];constructor
 ·rintro ⟨t,ht,e⟩
  rw [List.mem_filter] at ht;exact ⟨t,ht.1,ht.2,e⟩
 ·rintro ⟨t,ht,h,e⟩
  exact ⟨t,List.mem_filter.2 ⟨ht,h⟩,e⟩
theorem lF {d:List af} {F x:aT} (h:x∈dG d F):x∈cO d:=by
 obtain ⟨t,ht,_,rfl⟩:=qu.1 h;exact nV ht
def one:List aT→Option aT
 |[x]=>some x
 |_=>none
theorem To {l:List aT} {x:aT} (h:one l=some x):l=[x]:=by
 cases l with
 |nil=>cases h
 |cons y l=>
  cases l with
  |nil=>unfold one at h;injection h with h;rw [h]
  |cons z l=>cases h
theorem W7 {l:List aT} {u:aT} (hn:l.Nodup) (h1:∀x∈l,x=u) (h2:u∈l):l=[u]:=by
 cases l with
 |nil=>cases h2
 |cons y l=>
  have hy:=h1 y (by simp);subst hy;cases l with
  |nil=>rfl
  |cons z l=>
   have hz:=h1 z (by simp);subst hz;simp at hn
noncomputable def nP (d:List af) (F:aT):Option aT:=one (kN d (fo (dG d F)))
theorem qo {d:List af} (A:Acc d) {F u:aT}:nP d F=some u↔u∈dG d F∧∀v∈dG d F,Le d u v:=by
 have hl:∀x,x∈fo ((fo (dG d F)).filter fun s=>decide (s∈cO d))↔x∈dG d F:=by
  intro x;rw [cL,List.mem_filter,cL];exact ⟨fun h=>h.1,fun h=>⟨h,by simpa using lF h⟩⟩
 have hS:=cT ((fo (dG d F)).filter fun s=>decide (s∈cO d));unfold nP kN;generalize fo ((fo (dG d F)).filter fun s=>decide (s∈cO d))=l at hl hS;constructor
 ·intro h
  have e:=To h;refine ⟨?_,fun v hv=> ?_⟩
  ·have:u∈l.filter (gQ d l):=by rw [e];simp
   exact (hl u).1 (List.mem_filter.1 this).1
  ·obtain ⟨m,hm,hle⟩:=yq A v ((hl v).2 hv)
   rw [e] at hm;simp only [List.mem_singleton] at hm;rw [←hm];exact hle
 ·rintro ⟨h1,h2⟩
  have e:l.filter (gQ d l)=[u]:=by
   refine W7 (hS.nodup.filter _) (fun x hx=> ?_) ?_
   ·rw [List.mem_filter] at hx
    exact (nq.1 hx.2 u ((hl u).2 h1) (h2 x ((hl x).1 hx.1))).symm
   ·rw [List.mem_filter]
    refine ⟨(hl u).2 h1,nq.2 fun y hy hle=> ?_⟩;exact le_antisymm A hle (h2 y ((hl y).1 hy))
  rw [e];rfl
theorem Ok.MA {d:List af} (O:Ok d) {x:aT} (hx:x∈cO d) (hn:nu d x<(fN d).length):(fN d)[nu d x].Code=e1 (cwd d x):=by
 rw [O.cd.code,(O.mV hx).2.2.1]
theorem Ok.NA {d:List af} (O:Ok d) {x:aT} (hx:x∈cO d):nu d x<(fN d).length:=by rw [dL];exact (O.mV hx).2.1
def comb (o:Option Nat) (c:Nat):Nat:=match o with
 |some a=>a&&&c
 |none=>c
noncomputable def tA (d:List af) (w:Nat) (F:aT) (o:Option Nat) (t:af):Option Nat:=match val t F with
 |some v=>if sub w (cwd d t.Name)=true then some (comb o (cwd d v)) else o
 |none=>o
noncomputable def inh (d:List af) (w:Nat) (F:aT):Option Nat:=d.foldl (tA d w F) none
def Vd (d:List af):Prop:=∀t∈d,∀x∈t.aR,x.Value∈cO d
theorem Vd.val {d:List af} (h:Vd d) {t:af} (ht:t∈d) {F v:aT} (hv:val t F=some v):v∈cO d:=by
 obtain ⟨x,hx,_,rfl⟩:=tJ hv;exact h t ht x hx
theorem Yu {d:List af} (O:Ok d) (hV:Vd d) {w:Nat} {F:aT}:∀(xs:List af) (o:Option Nat),(∀t∈xs,t∈d)→(∀c,o=some c→c=0∨c∈tys d)→∀c,xs.foldl (tA d w F) o=some c→c=0∨c∈tys d:=by
 intro xs
 induction xs with
 |nil=>intro o _ ho c hc;exact ho c hc
 |cons t xs ih=>
  intro o hx ho c hc;rw [List.foldl_cons] at hc;refine ih (tA d w F o t) (fun u hu=>hx u (by simp [hu])) (fun c' rV=> ?_) c hc;unfold tA at rV;cases hv:val t F with
  |none=>rw [hv] at rV;exact ho c' rV
  |some v=>
   rw [hv] at rV;have hm:=O.Vl (hV.val (hx t (by simp)) hv);simp only at rV;split at rV
   ·injection rV with rV
    cases o with
    |none=>simp only [comb] at rV;rw [←rV];exact .inr hm
    |some a=>
     simp only [comb] at rV;rcases ho a rfl with h0|h0
     ·left;rw [←rV,h0];simp
     ·by_cases hz:a&&&cwd d v=0
      ·left;rw [←rV,hz]
      ·right;rw [←rV];exact O.wh.cl a h0 _ hm hz
   ·exact ho c' rV
theorem KO {d:List af} (O:Ok d) (hV:Vd d) {w:Nat} {F:aT} {c:Nat} (h:inh d w F=some c):c=0∨c∈tys d:=
 Yu O hV d none (fun t h=>h) (fun c h=>by cases h) c h
theorem Ok.Wt {d:List af} (O:Ok d) {c:Nat} (h:c∈tys d):c<18446744073709551616:=O.cd.lt c h
theorem XO {d:List af} (O:Ok d) (hV:Vd d) {w:Nat} {F:aT} {c:Nat} (h:inh d w F=some c):c<18446744073709551616:=by
 rcases KO O hV h with h|h
 ·omega
 ·exact O.Wt h
noncomputable def gl (d:List af) (l:List aT):Bool:=l.any fun F=>(nP d F).isNone
noncomputable def iF (d:List af) (l:List Nat):Bool:=l.any fun w=>(eR d).any fun F=>inh d w F==some 0
noncomputable def gJ (d:List af):Int:=
 if tP d≠0 then tP d else if (qi (fI d)).length>256 then 7 else if (eR d).length>64 then 7 else if fZ (cO d) d≠0 then fZ (cO d) d
 else if gl d (eR d)=true then 10 else if iF d (tys d)=true then 11 else 0
theorem Tn {d:List af} (z:Sz d) (h64:d.length≤64) (h0:tP d=0) (h1:¬(qi (fI d)).length>256):Ok d:=⟨z,qM h0,h64,by omega⟩
theorem xM {d:List af} (h:fZ (cO d) d=0):Vd d:=fun t ht x hx=>(((nN _ d).1 h t ht).1 x hx).2
structure CZ (d:List af):Prop where
 ok:Ok d
 fz:Fz d
 f64:(eR d).length≤64
 fd:fZ (cO d) d=0
 intro:∀F∈eR d,∃u,nP d F=some u
 vals:∀w∈tys d,∀F∈eR d,inh d w F≠some 0
theorem p9 {d:List af} (z:Sz d) (h64:d.length≤64) (hf:Fz d) (h:gJ d=0):CZ d∧tP d=0∧¬(qi (fI d)).length>256:=by
 unfold gJ at h;by_cases h0:tP d=0
 ·rw [if_neg (show¬(tP d≠0) from fun h=>h h0)] at h
  by_cases h1:(qi (fI d)).length>256
  ·rw [if_pos h1] at h;cases h
  ·rw [if_neg h1] at h
   by_cases h2:(eR d).length>64
   ·rw [if_pos h2] at h;cases h
   ·rw [if_neg h2] at h
    by_cases h3:fZ (cO d) d=0
    ·rw [if_neg (show¬(fZ (cO d) d≠0) from fun h=>h h3)] at h
     by_cases h4:gl d (eR d)=true
     ·rw [if_pos h4] at h;cases h
     ·rw [if_neg h4] at h
      by_cases h5:iF d (tys d)=true
      ·rw [if_pos h5] at h;cases h
      ·refine ⟨⟨Tn z h64 h0 h1,hf,by omega,h3,fun F hF=> ?_,fun w hw F hF e=> ?_⟩,h0,h1⟩
       ·cases hi:nP d F with
        |some u=>exact ⟨u,rfl⟩
        |none=>exact absurd (List.any_eq_true.2 ⟨F,hF,by rw [hi];rfl⟩) h4
       ·exact h5 (List.any_eq_true.2 ⟨w,hw,List.any_eq_true.2 ⟨F,hF,by rw [e];simp⟩⟩)
    ·rw [if_pos h3] at h;exact absurd h h3
 ·rw [if_pos h0] at h;exact absurd h h0
theorem Ue {d:List af} (O:CZ d) (h0:tP d=0):gJ d=0:=by
 have h1:=O.ok.le;have h2:=O.f64;unfold gJ;have hn4:¬(gl d (eR d)=true):=by
  intro h;obtain ⟨F,hF,h⟩:=List.any_eq_true.1 h;obtain ⟨u,hu⟩:=O.intro F hF;rw [hu] at h;cases h
 have hn5:¬(iF d (tys d)=true):=by
  intro h;obtain ⟨w,hw,h⟩:=List.any_eq_true.1 h;obtain ⟨F,hF,h⟩:=List.any_eq_true.1 h;exact O.vals w hw F hF (by simpa using h)
 have hfd:=O.fd;rw [if_neg (fun h=>h h0),if_neg (by omega),if_neg (by omega),if_neg (fun h=>h hfd),if_neg hn4,if_neg hn5]
noncomputable def Fu (d:List af) (F:aT):aJ:=⟨F,(nu d ((nP d F).getD []):Int)⟩
noncomputable def eP (d:List af):List aJ:=(eR d).map (Fu d)
noncomputable def kG (d:List af) (w:Nat):List aT→Nat→List au
 |[],_=>[]
 |F::l,k=>match inh d w F with
  |some c=>⟨(k:Int),tU (tys d) c⟩::kG d w l (k+1)
  |none=>kG d w l (k+1)
noncomputable def uS (d:List af):List (List au):=(tys d).map fun w=>kG d w (eR d) 0
theorem tg {d:List af} {w:Nat}:∀(l:List aT) (k:Nat),(kG d w l k).length≤l.length:=by
 intro l
 induction l with
 |nil=>intro k;simp [kG]
 |cons F l ih=>
  intro k;have:=ih (k+1);unfold kG;cases inh d w F<;>simp<;>omega
end Go.Proofs.YtmidjldjkbljjaaGreatDoor.cl
