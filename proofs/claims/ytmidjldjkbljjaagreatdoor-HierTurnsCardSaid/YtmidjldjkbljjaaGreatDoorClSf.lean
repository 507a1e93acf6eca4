/- Layer 5. -/
import Derived.Test.YtmidjldjkbljjaaGreatDoorClSd
set_option linter.unusedVariables false
set_option linter.unusedSimpArgs false
set_option linter.unusedSectionVars false
namespace Go.AM
end Go.AM
namespace Go.Proofs.YtmidjldjkbljjaaGreatDoor.cl
open Go Go.AM
inductive Wf (v:List (List au)):Nat→Prop
 |mk (i:Nat):(∀x∈v.getD i [],Wf v x.Value.toNat)→Wf v i
structure Vz (v:List (List au)):Prop where
 len:v.length≤1000
 row:∀r∈v,r.length≤20
 val:∀r∈v,∀x∈r,0≤x.Value∧x.Value<(v.length:Int)
structure Lf (n:Nat) (o:List (Int×Bool)) (S:Nat→Bool):Prop where
 nd:(o.map Prod.fst).Nodup
 at_:∀i:Nat,getM o (i:Int)=if i<n∧S i=true then some true else none
 neg:∀k:Int,k<0→getM o k=none
section
variable {v:List (List au)} (Z:Vz v)
include Z
end
end Go.Proofs.YtmidjldjkbljjaaGreatDoor.cl
set_option linter.unusedVariables false
set_option linter.unusedSimpArgs false
set_option linter.unusedSectionVars false
namespace Go.Proofs.YtmidjldjkbljjaaGreatDoor.cl
open Go Go.AM
theorem D4 {d:List af} {w:Nat} {F:aT}:∀(xs:List af) (o:Option Nat),
  ((xs.foldl (tA d w F) o).isSome=true↔o.isSome=true∨∃t∈xs,(val t F).isSome=true∧sub w (cwd d t.Name)=true)∧
  ∀c,xs.foldl (tA d w F) o=some c→∀i,c.testBit i=true↔(∀a,o=some a→a.testBit i=true)∧∀t∈xs,∀v,val t F=some v→sub w (cwd d t.Name)=true→(cwd d v).testBit i=true:=by
 intro xs
 induction xs with
 |nil=>
  intro o;refine ⟨by simp,fun c hc i=> ?_⟩;rw [List.foldl_nil] at hc;subst hc;simp
 |cons t xs ih=>
  intro o;obtain ⟨h1,h2⟩:=ih (tA d w F o t);rw [List.foldl_cons];cases hv:val t F with
  |none=>
   have e:tA d w F o t=o:=by unfold tA;rw [hv]
   rw [e] at h1 h2⊢;constructor
   ·rw [h1]
    constructor
    ·rintro (h|⟨u,hu,h⟩)
     ·exact .inl h
     ·exact .inr ⟨u,by simp [hu],h⟩
    ·rintro (h|⟨u,hu,h⟩)
     ·exact .inl h
     ·rcases List.mem_cons.1 hu with rfl|hu
      ·rw [hv] at h;simp at h
      ·exact .inr ⟨u,hu,h⟩
   ·intro c hc i
    rw [h2 c hc i];constructor
    ·rintro ⟨a,b⟩
     refine ⟨a,fun u hu v Ip hs=> ?_⟩;rcases List.mem_cons.1 hu with rfl|hu
     ·rw [hv] at Ip;cases Ip
     ·exact b u hu v Ip hs
    ·rintro ⟨a,b⟩
     exact ⟨a,fun u hu v Ip hs=>b u (by simp [hu]) v Ip hs⟩
  |some v=>
   cases hs:sub w (cwd d t.Name) with
   |false=>
    have e:tA d w F o t=o:=by unfold tA;rw [hv,hs];simp
    rw [e] at h1 h2⊢;constructor
    ·rw [h1]
     constructor
     ·rintro (h|⟨u,hu,h⟩)
      ·exact .inl h
      ·exact .inr ⟨u,by simp [hu],h⟩
     ·rintro (h|⟨u,hu,h⟩)
      ·exact .inl h
      ·rcases List.mem_cons.1 hu with rfl|hu
       ·rw [hs] at h;simp at h
       ·exact .inr ⟨u,hu,h⟩
    ·intro c hc i
     rw [h2 c hc i];constructor
     ·rintro ⟨a,b⟩
      refine ⟨a,fun u hu v Ip hsu=> ?_⟩;rcases List.mem_cons.1 hu with rfl|hu
      ·rw [hs] at hsu;cases hsu
      ·exact b u hu v Ip hsu
     ·rintro ⟨a,b⟩
      exact ⟨a,fun u hu v Ip hsu=>b u (by simp [hu]) v Ip hsu⟩
   |true=>
    have e:tA d w F o t=some (comb o (cwd d v)):=by unfold tA;rw [hv,hs];cases o<;>rfl
    rw [e] at h1 h2⊢;have Z4:∀i,(comb o (cwd d v)).testBit i=true↔(∀a,o=some a→a.testBit i=true)∧(cwd d v).testBit i=true:=by
     intro i;cases o with
     |none=>simp [comb]
     |some a=>simp [comb,Nat.testBit_and]
    constructor
    ·rw [h1]
     constructor
     ·intro _;exact .inr ⟨t,by simp,by rw [hv];rfl,hs⟩
     ·intro _;exact .inl rfl
    ·intro c hc i
     rw [h2 c hc i];constructor
     ·rintro ⟨a,b⟩
      have ha:=(Z4 i).1 (a _ rfl);refine ⟨ha.1,fun u hu v' Ip hsu=> ?_⟩;rcases List.mem_cons.1 hu with rfl|hu
      ·rw [hv] at Ip
       injection Ip with Ip
       rw [←Ip];exact ha.2
      ·exact b u hu v' Ip hsu
     ·rintro ⟨a,b⟩
      refine ⟨fun x hx=> ?_,fun u hu v' Ip hsu=>b u (by simp [hu]) v' Ip hsu⟩;injection hx with hx
      rw [←hx];exact (Z4 i).2 ⟨a,b t (by simp) v hv hs⟩
theorem wq {d:List af} {w:Nat} {F:aT}:(inh d w F).isSome=true↔∃t∈d,(val t F).isSome=true∧sub w (cwd d t.Name)=true:=by
 have:=(D4 (d:=d) (w:=w) (F:=F) d none).1;unfold inh;rw [this];simp
theorem Ay {d:List af} {w:Nat} {F:aT} {c:Nat} (h:inh d w F=some c) (i:Nat):c.testBit i=true↔∀t∈d,∀v,val t F=some v→sub w (cwd d t.Name)=true→(cwd d v).testBit i=true:=by
 rw [(D4 (d:=d) (w:=w) (F:=F) d none).2 c h i];exact ⟨fun h=>h.2,fun h=>⟨fun a ha=>(by cases ha),h⟩⟩
theorem RB {d:List af} {w v:Nat} {F:aT} {a b:Nat} (hs:sub v w=true) (ha:inh d w F=some a) (hb:inh d v F=some b):sub b a=true:=by
 rw [eX];intro i hi;rw [Ay ha];intro t ht x hx hw;exact (Ay hb i).1 hi t ht x hx (nA hs hw)
theorem XP {d:List af} {w v:Nat} {F:aT} (hs:sub v w=true) (h:(inh d w F).isSome=true):(inh d v F).isSome=true:=by
 rw [wq] at h⊢;obtain ⟨t,ht,h1,h2⟩:=h;exact ⟨t,ht,h1,nA hs h2⟩
theorem CZ.num {d:List af} (O:CZ d) {w:Nat} (hw:w∈tys d) {F:aT} (hF:F∈eR d) {c:Nat} (h:inh d w F=some c):∃q:Nat,tU (tys d) c=(q:Int)∧q<(tys d).length∧(tys d).getD q 0=c:=by
 rcases KO O.ok (xM O.fd) h with h0|h0
 ·rw [h0] at h;exact absurd h (O.vals w hw F hF)
 ·obtain ⟨q,h1,h2,h3⟩:=qR h0
  exact ⟨q,h3,h1,h2⟩
theorem UW {d:List af} {w:Nat}:∀(l:List aT) (k:Nat),∀x∈kG d w l k,(k:Int)≤x.cF:=by
 intro l
 induction l with
 |nil=>intro k x hx;cases hx
 |cons F l ih=>
  intro k x hx;unfold kG at hx;cases h:inh d w F with
  |none=>
   rw [h] at hx;have:=ih (k+1) x hx;omega
  |some c=>
   rw [h] at hx;rcases List.mem_cons.1 hx with rfl|hx
   ·simp
   ·have:=ih (k+1) x hx
    omega
theorem Pg {d:List af} {w:Nat}:∀(l:List aT) (k j:Nat) (F:aT),l[j]? =some F→(kG d w l k).find? (fun x=>x.cF==((k+j:Nat):Int))=(inh d w F).map fun c=>(⟨((k+j:Nat):Int),tU (tys d) c⟩:au):=by
 intro l
 induction l with
 |nil=>intro k j F h;simp at h
 |cons G l ih=>
  intro k j F h;unfold kG;cases j with
  |zero=>
   have:G=F:=by simpa using h
   subst this;cases hG:inh d w G with
   |none=>
    simp only [Option.map_none];rw [List.find?_eq_none];intro x hx;have:=UW l (k+1) x hx;simp only [beq_iff_eq];omega
   |some c=>
    simp only [List.find?_cons,Nat.add_zero,beq_self_eq_true,Option.map_some]
  |succ j=>
   have h':l[j]? =some F:=by simpa using h
   have hr:=ih (k+1) j F h';have e:k+1+j=k+(j+1):=by omega
   rw [e] at hr;cases hG:inh d w G with
   |none=>exact hr
   |some c=>
    simp only [List.find?_cons];rw [show ((k:Int)==((k+(j+1):Nat):Int))=false by rw [beq_eq_false_iff_ne];omega];exact hr
theorem JN {d:List af} {T:Nat} (hT:T<(tys d).length):∃h:T<(uS d).length,(uS d)[T]=kG d ((tys d).getD T 0) (eR d) 0:=by
 refine ⟨by rw [Pv];exact hT,?_⟩;unfold uS;rw [List.getElem_map]
 congr 1
 rw [List.getD_eq_getElem?_getD,List.getElem?_eq_getElem hT];rfl
end Go.Proofs.YtmidjldjkbljjaaGreatDoor.cl
