/- The Closure laws, plain. -/
import Derived.Test.YtfoddgpndoeeaaaGreatDoorAmL
set_option linter.unusedVariables false
set_option linter.unusedSimpArgs false
namespace Go.Proofs.YtfoddgpndoeeaaaGreatDoor.cl
def sub (a b:Nat):Bool:=a&&&b==a
theorem QS {a b:Nat}:sub a b=true↔a&&&b=a:=by simp [sub]
theorem gV {a b:Nat}:sub a b=true↔∀i,a.testBit i=true→b.testBit i=true:=by
 rw [QS];constructor
 ·intro h i hi
  have:=congrArg (fun x=>x.testBit i) h;simp only [Nat.testBit_and,hi,Bool.true_and] at this;exact this
 ·intro h
  apply Nat.eq_of_testBit_eq;intro i;rw [Nat.testBit_and];cases hi:a.testBit i with
  |false=>rfl
  |true=>rw [h i hi];rfl
theorem vi (a:Nat):sub a a=true:=gV.2 fun _ h=>h
theorem LZ {a b c:Nat} (h1:sub a b=true) (h2:sub b c=true):sub a c=true:=gV.2 fun i h=>gV.1 h2 i (gV.1 h1 i h)
theorem vh {a b:Nat} (h1:sub a b=true) (h2:sub b a=true):a=b:=by
 apply Nat.eq_of_testBit_eq;intro i;rw [Bool.eq_iff_iff];exact ⟨gV.1 h1 i,gV.1 h2 i⟩
theorem Ec (a b:Nat):sub (a&&&b) a=true:=gV.2 fun i h=>by
 rw [Nat.testBit_and,Bool.and_eq_true] at h;exact h.1
def Ni (cs:List Nat) (w:Nat):Int:=match cs.findIdx? (· ==w) with
 |some i=>(i:Int)
 |none=> -1
theorem Qb {cs:List Nat} {w:Nat} (h:w∉cs):Ni cs w= -1:=by
 have:cs.findIdx? (· ==w)=none:=by
  rw [List.findIdx?_eq_none_iff];intro x hx;simp;intro e;subst e;exact h hx
 simp [Ni,this]
theorem J1 {cs:List Nat} {w:Nat} (h:w∈cs):∃i,i<cs.length∧cs.getD i 0=w∧Ni cs w=(i:Int):=by
 cases e:cs.findIdx? (· ==w) with
 |none=>
  rw [List.findIdx?_eq_none_iff] at e;have:=e w h;simp at this
 |some i=>
  rw [List.findIdx?_eq_some_iff_getElem] at e;obtain ⟨hi,h1,_⟩:=e;refine ⟨i,hi,?_,?_⟩
  ·rw [List.getD_eq_getElem?_getD,List.getElem?_eq_getElem hi];simpa using h1
  ·have e':cs.findIdx? (· ==w)=some i:=by
    rw [List.findIdx?_eq_some_iff_getElem];exact ⟨hi,h1,by assumption⟩
   simp [Ni,e']
theorem kE {cs:List Nat} {i:Nat} (h:i<cs.length):cs.getD i 0∈cs:=by
 rw [List.getD_eq_getElem?_getD,List.getElem?_eq_getElem h];exact List.getElem_mem h
theorem getD_inj {cs:List Nat} (nd:cs.Nodup) {i j:Nat} (hi:i<cs.length) (hj:j<cs.length) (h:cs.getD i 0=cs.getD j 0):i=j:=by
 rw [List.getD_eq_getElem?_getD,List.getD_eq_getElem?_getD,List.getElem?_eq_getElem hi,List.getElem?_eq_getElem hj] at h;exact (List.getElem_inj nd).1 h
structure Up (cs:List Nat):Prop where
 nd:cs.Nodup
 nz:∀c∈cs,c≠0
 cl:∀a∈cs,∀b∈cs,a&&&b≠0→a&&&b∈cs
 top:∀c∈cs,sub c (cs.getD 0 0)=true
 pos:0<cs.length
 srt:∀i j,i<cs.length→j<cs.length→sub (cs.getD j 0) (cs.getD i 0)=true→i≤j
end Go.Proofs.YtfoddgpndoeeaaaGreatDoor.cl
