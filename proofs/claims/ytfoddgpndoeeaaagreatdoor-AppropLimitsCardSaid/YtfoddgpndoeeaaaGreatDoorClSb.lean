/- Layer 5. -/
import Derived.Test.YtfoddgpndoeeaaaGreatDoorClSa
set_option linter.unusedVariables false
set_option linter.unusedSimpArgs false
set_option linter.unusedSectionVars false
namespace Go.Proofs.YtfoddgpndoeeaaaGreatDoor.cl
open Go Go.AM
def dV (d:List af) (F:aR):List aR:=(d.filter fun t=>(val t F).isSome).map (·.Name)
theorem Lw {d:List af} {F x:aR}:x∈dV d F↔∃t∈d,(val t F).isSome=true∧t.Name=x:=by
 unfold dV;rw [List.mem_map];constructor
 ·rintro ⟨t,ht,e⟩
  rw [List.mem_filter] at ht;exact ⟨t,ht.1,ht.2,e⟩
 ·rintro ⟨t,ht,h,e⟩
  exact ⟨t,List.mem_filter.2 ⟨ht,h⟩,e⟩
theorem oz {d:List af} {F x:aR} (h:x∈dV d F):x∈cU d:=by
 obtain ⟨t,ht,_,rfl⟩:=Lw.1 h;exact oc ht
def one:List aR→Option aR
 |[x]=>some x
 |_=>none
theorem OS {l:List aR} {x:aR} (h:one l=some x):l=[x]:=by
 cases l with
 |nil=>cases h
 |cons y l=>
  cases l with
  |nil=>unfold one at h;injection h with h;rw [h]
  |cons z l=>cases h
theorem SA {l:List aR} {u:aR} (hn:l.Nodup) (h1:∀x∈l,x=u) (h2:u∈l):l=[u]:=by
 cases l with
 |nil=>cases h2
 |cons y l=>
  have hy:=h1 y (by simp);subst hy;cases l with
  |nil=>rfl
  |cons z l=>
   have hz:=h1 z (by simp);subst hz;simp at hn
noncomputable def tr (d:List af) (F:aR):Option aR:=one (nB d (gw (dV d F)))
theorem FI {d:List af} (A:Acc d) {F u:aR}:tr d F=some u↔u∈dV d F∧∀v∈dV d F,Le d u v:=by
 have hl:∀x,x∈gw ((gw (dV d F)).filter fun s=>decide (s∈cU d))↔x∈dV d F:=by
  intro x;rw [dr,List.mem_filter,dr];exact ⟨fun h=>h.1,fun h=>⟨h,by simpa using oz h⟩⟩
 have hS:=eH ((gw (dV d F)).filter fun s=>decide (s∈cU d));unfold tr nB;generalize gw ((gw (dV d F)).filter fun s=>decide (s∈cU d))=l at hl hS;constructor
 ·intro h
  have e:=OS h;refine ⟨?_,fun v hv=> ?_⟩
  ·have:u∈l.filter (mz d l):=by rw [e];simp
   exact (hl u).1 (List.mem_filter.1 this).1
  ·obtain ⟨m,hm,hle⟩:=vQ A v ((hl v).2 hv)
   rw [e] at hm;simp only [List.mem_singleton] at hm;rw [←hm];exact hle
 ·rintro ⟨h1,h2⟩
  have e:l.filter (mz d l)=[u]:=by
   refine SA (hS.nodup.filter _) (fun x hx=> ?_) ?_
   ·rw [List.mem_filter] at hx
    exact (rW.1 hx.2 u ((hl u).2 h1) (h2 x ((hl x).1 hx.1))).symm
   ·rw [List.mem_filter]
    refine ⟨(hl u).2 h1,rW.2 fun y hy hle=> ?_⟩;exact le_antisymm A hle (h2 y ((hl y).1 hy))
  rw [e];rfl
theorem Ok.PW {d:List af} (O:Ok d) {x:aR} (hx:x∈cU d) (hn:nu d x<(jK d).length):(jK d)[nu d x].Code=e1 (cwd d x):=by
 rw [O.cd.code,(O.uK hx).2.2.1]
theorem Ok.R1 {d:List af} (O:Ok d) {x:aR} (hx:x∈cU d):nu d x<(jK d).length:=by rw [gF];exact (O.uK hx).2.1
def comb (o:Option Nat) (c:Nat):Nat:=match o with
 |some a=>a&&&c
 |none=>c
noncomputable def Bc (d:List af) (w:Nat) (F:aR) (o:Option Nat) (t:af):Option Nat:=match val t F with
 |some v=>if sub w (cwd d t.Name)=true then some (comb o (cwd d v)) else o
 |none=>o
noncomputable def inh (d:List af) (w:Nat) (F:aR):Option Nat:=d.foldl (Bc d w F) none
def Vd (d:List af):Prop:=∀t∈d,∀x∈t.bT,x.Value∈cU d
theorem Vd.val {d:List af} (h:Vd d) {t:af} (ht:t∈d) {F v:aR} (hv:val t F=some v):v∈cU d:=by
 obtain ⟨x,hx,_,rfl⟩:=GR hv;exact h t ht x hx
theorem TV {d:List af} (O:Ok d) (hV:Vd d) {w:Nat} {F:aR}:∀(xs:List af) (o:Option Nat),(∀t∈xs,t∈d)→(∀c,o=some c→c=0∨c∈tys d)→∀c,xs.foldl (Bc d w F) o=some c→c=0∨c∈tys d:=by
 intro xs
 induction xs with
 |nil=>intro o _ ho c hc;exact ho c hc
 |cons t xs ih=>
  intro o hx ho c hc;rw [List.foldl_cons] at hc;refine ih (Bc d w F o t) (fun u hu=>hx u (by simp [hu])) (fun c' sJ=> ?_) c hc;unfold Bc at sJ;cases hv:val t F with
  |none=>rw [hv] at sJ;exact ho c' sJ
  |some v=>
   rw [hv] at sJ;have hm:=O.UD (hV.val (hx t (by simp)) hv);simp only at sJ;split at sJ
   ·injection sJ with sJ
    cases o with
    |none=>simp only [comb] at sJ;rw [←sJ];exact .inr hm
    |some a=>
     simp only [comb] at sJ;rcases ho a rfl with h0|h0
     ·left;rw [←sJ,h0];simp
     ·by_cases hz:a&&&cwd d v=0
      ·left;rw [←sJ,hz]
      ·right;rw [←sJ];exact O.Qj.cl a h0 _ hm hz
   ·exact ho c' sJ
theorem NK {d:List af} (O:Ok d) (hV:Vd d) {w:Nat} {F:aR} {c:Nat} (h:inh d w F=some c):c=0∨c∈tys d:=
 TV O hV d none (fun t h=>h) (fun c h=>by cases h) c h
theorem Ok.VW {d:List af} (O:Ok d) {c:Nat} (h:c∈tys d):c<18446744073709551616:=O.cd.lt c h
theorem Tm {d:List af} (O:Ok d) (hV:Vd d) {w:Nat} {F:aR} {c:Nat} (h:inh d w F=some c):c<18446744073709551616:=by
 rcases NK O hV h with h|h
 ·omega
 ·exact O.VW h
noncomputable def iG (d:List af) (l:List aR):Bool:=l.any fun F=>(tr d F).isNone
noncomputable def kz (d:List af) (l:List Nat):Bool:=l.any fun w=>(iZ d).any fun F=>inh d w F==some 0
noncomputable def kB (d:List af):Int:=
 if AI d≠0 then AI d else if (qA (jr d)).length>256 then 7 else if (iZ d).length>64 then 7 else if iO (cU d) d≠0 then iO (cU d) d
 else if iG d (iZ d)=true then 10 else if kz d (tys d)=true then 11 else 0
theorem R2 {d:List af} (z:Sz d) (h64:d.length≤64) (h0:AI d=0) (h1:¬(qA (jr d)).length>256):Ok d:=⟨z,yH h0,h64,by omega⟩
theorem GX {d:List af} (h:iO (cU d) d=0):Vd d:=fun t ht x hx=>(((y5 _ d).1 h t ht).1 x hx).2
structure Ok5 (d:List af):Prop where
 ok:Ok d
 fz:Fz d
 f64:(iZ d).length≤64
 fd:iO (cU d) d=0
 intro:∀F∈iZ d,∃u,tr d F=some u
 vals:∀w∈tys d,∀F∈iZ d,inh d w F≠some 0
theorem OR {d:List af} (z:Sz d) (h64:d.length≤64) (hf:Fz d) (h:kB d=0):Ok5 d∧AI d=0∧¬(qA (jr d)).length>256:=by
 unfold kB at h;by_cases h0:AI d=0
 ·rw [if_neg (show¬(AI d≠0) from fun h=>h h0)] at h
  by_cases h1:(qA (jr d)).length>256
  ·rw [if_pos h1] at h;cases h
  ·rw [if_neg h1] at h
   by_cases h2:(iZ d).length>64
   ·rw [if_pos h2] at h;cases h
   ·rw [if_neg h2] at h
    by_cases h3:iO (cU d) d=0
    ·rw [if_neg (show¬(iO (cU d) d≠0) from fun h=>h h3)] at h
     by_cases h4:iG d (iZ d)=true
     ·rw [if_pos h4] at h;cases h
     ·rw [if_neg h4] at h
      by_cases h5:kz d (tys d)=true
      ·rw [if_pos h5] at h;cases h
      ·refine ⟨⟨R2 z h64 h0 h1,hf,by omega,h3,fun F hF=> ?_,fun w hw F hF e=> ?_⟩,h0,h1⟩
       ·cases hi:tr d F with
        |some u=>exact ⟨u,rfl⟩
        |none=>exact absurd (List.any_eq_true.2 ⟨F,hF,by rw [hi];rfl⟩) h4
       ·exact h5 (List.any_eq_true.2 ⟨w,hw,List.any_eq_true.2 ⟨F,hF,by rw [e];simp⟩⟩)
    ·rw [if_pos h3] at h;exact absurd h h3
 ·rw [if_pos h0] at h;exact absurd h h0
noncomputable def SG (d:List af) (F:aR):bC:=⟨F,(nu d ((tr d F).getD []):Int)⟩
noncomputable def tf (d:List af):List bC:=(iZ d).map (SG d)
noncomputable def Aa (d:List af) (w:Nat):List aR→Nat→List ai
 |[],_=>[]
 |F::l,k=>match inh d w F with
  |some c=>⟨(k:Int),Ni (tys d) c⟩::Aa d w l (k+1)
  |none=>Aa d w l (k+1)
noncomputable def GU (d:List af):List (List ai):=(tys d).map fun w=>Aa d w (iZ d) 0
end Go.Proofs.YtfoddgpndoeeaaaGreatDoor.cl
