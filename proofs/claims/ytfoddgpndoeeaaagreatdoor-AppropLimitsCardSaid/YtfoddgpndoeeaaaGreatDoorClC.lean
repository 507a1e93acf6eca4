/- The Closure laws. -/
import Derived.Test.YtfoddgpndoeeaaaGreatDoorClB
import Derived.Test.YtfoddgpndoeeaaaGreatDoorClG
set_option linter.unusedVariables false
set_option linter.unusedSimpArgs false
set_option linter.unusedSectionVars false
namespace Go.Proofs.YtfoddgpndoeeaaaGreatDoor.cl
open Go Go.AM
abbrev cU (d:List af):List aR:=d.map (·.Name)
theorem C4 {α:Type} (p:α→Bool):∀(xs:List α) (i:Nat),bX p xs i<0↔∀x∈xs,p x=false:=by
 intro xs
 induction xs with
 |nil=>intro i;simp [bX]
 |cons x xs ih=>
  intro i;rw [bX];cases h:p x with
  |true=>simp [h]
  |false=>simp [h,ih (i+1)]
theorem C6 {α:Type} (p:α→Bool):∀(xs:List α) (i:Nat),(∃x∈xs,p x=true)→∃j,∃h:j<xs.length,bX p xs i=((i+j:Nat):Int)∧p xs[j]=true∧∀k (hk:k<j),p (xs[k]'(by omega))=false:=by
 intro xs
 induction xs with
 |nil=>intro i h;obtain ⟨x,hx,_⟩:=h;cases hx
 |cons x xs ih=>
  intro i h;rw [bX];cases hp:p x with
  |true=>exact ⟨0,by simp,by simp,by simpa using hp,fun k hk=>by omega⟩
  |false=>
   obtain ⟨j,hj,e,h1,h2⟩:=ih (i+1) (by
    obtain ⟨y,hy,hpy⟩:=h;rcases List.mem_cons.1 hy with rfl|hy
    ·rw [hp] at hpy;cases hpy
    ·exact ⟨y,hy,hpy⟩)
   refine ⟨j+1,by simp;omega,?_,by simpa using h1,?_⟩
   ·simp only [Bool.false_eq_true,if_false,e];congr 1;omega
   ·intro k hk
    cases k with
    |zero=>simpa using hp
    |succ k=>simpa using h2 k (by omega)
def EJ (d:List af):Bool:=decide (d.length>256)||d.any fun t=>decide (t.aA.length>256)||decide (t.bT.length>256)
def eZ (c:UInt8):Bool:=decide (48≤c.toNat)&&decide (c.toNat≤57)
def lowerB (c:UInt8):Bool:=decide (97≤c.toNat)&&decide (c.toNat≤122)
def isName (s:aR):Bool:=decide (1≤s.length)&&decide (s.length≤32)&& !eZ (s.getD 0 0)&& !(s.getD 0 0).toNat==45&&s.all fun c=>eZ c||c.toNat==45||lowerB c
def mT:List aR→List af→Int
 |_,[]=>0
 |seen,t::ts=>if isName t.Name=false then 1 else if t.Name∈seen then 4 else mT (seen++[t.Name]) ts
def QN (ns:List aR):List aR→List aR→Int
 |_,[]=>0
 |seen,s::ss=>if s∉ns then 5 else if s∈seen then 4 else QN ns (seen++[s]) ss
def mY (ns:List aR):List af→Int
 |[]=>0
 |t::ts=>if QN ns [] t.aA=0 then mY ns ts else QN ns [] t.aA
theorem zK:∀(d:List af) (seen:List aR),mT seen d=0↔(∀t∈d,isName t.Name=true)∧(cU d).Nodup∧∀t∈d,t.Name∉seen:=by
 intro d
 induction d with
 |nil=>intro seen;simp [mT]
 |cons t d ih=>
  intro seen;unfold mT;cases hn:isName t.Name with
  |false=>simp [hn]
  |true=>
   by_cases hm:t.Name∈seen
   ·simp [hm]
   ·simp only [Bool.true_eq_false,if_false,hm,ih,List.mem_append,List.mem_singleton,List.map_cons,List.nodup_cons,List.mem_cons,not_or]
    constructor
    ·rintro ⟨h1,h2,h3⟩
     refine ⟨?_,⟨?_,h2⟩,?_⟩
     ·rintro u (rfl|hu)
      ·exact hn
      ·exact h1 u hu
     ·intro hc
      obtain ⟨u,hu,e⟩:=List.mem_map.1 hc;exact (h3 u hu).2.1 e
     ·rintro u (rfl|hu)
      ·exact hm
      ·exact (h3 u hu).1
    ·rintro ⟨h1,⟨h2,h3⟩,h4⟩
     refine ⟨fun u hu=>h1 u (.inr hu),h3,fun u hu=>⟨h4 u (.inr hu),fun e=>h2 (by rw [←e];exact List.mem_map_of_mem hu),by simp⟩⟩
theorem O7 (ns:List aR):∀(l seen:List aR),QN ns seen l=0↔(∀s∈l,s∈ns)∧l.Nodup∧∀s∈l,s∉seen:=by
 intro l
 induction l with
 |nil=>intro seen;simp [QN]
 |cons s l ih=>
  intro seen;unfold QN;by_cases hm:s∈ns
  ·by_cases h2:s∈seen
   ·simp [hm,h2]
   ·simp only [hm,not_true_eq_false,if_false,h2,ih,List.mem_append,List.mem_singleton,List.nodup_cons,List.mem_cons,not_or]
    constructor
    ·rintro ⟨h1,h3,h4⟩
     refine ⟨?_,⟨fun hc=>(h4 s hc).2.1 rfl,h3⟩,?_⟩
     ·rintro u (rfl|hu)
      ·exact hm
      ·exact h1 u hu
     ·rintro u (rfl|hu)
      ·exact h2
      ·exact (h4 u hu).1
    ·rintro ⟨h1,⟨h3,h4⟩,h5⟩
     exact ⟨fun u hu=>h1 u (.inr hu),h4,fun u hu=>⟨h5 u (.inr hu),fun e=>h3 (by rw [←e];exact hu),by simp⟩⟩
  ·simp [hm]
theorem p9 (ns:List aR):∀(d:List af),mY ns d=0↔∀t∈d,(∀s∈t.aA,s∈ns)∧t.aA.Nodup:=by
 intro d
 induction d with
 |nil=>simp [mY]
 |cons t d ih=>
  unfold mY;have:=O7 ns t.aA [];split
  ·rename_i h
   rw [ih];have h':=this.1 h;simp only [List.mem_cons,forall_eq_or_imp];exact ⟨fun hh=>⟨⟨h'.1,h'.2.1⟩,hh⟩,fun hh=>hh.2⟩
  ·rename_i h
   constructor
   ·intro hc;exact absurd hc h
   ·intro hh
    exact absurd (this.2 ⟨(hh t (by simp)).1,(hh t (by simp)).2,by simp⟩) h
end Go.Proofs.YtfoddgpndoeeaaaGreatDoor.cl
