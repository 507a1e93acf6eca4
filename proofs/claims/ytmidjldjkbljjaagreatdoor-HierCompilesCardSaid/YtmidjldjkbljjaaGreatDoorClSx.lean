/- The specification of layers 4 to 6, computed at given declar. -/
import Derived.Test.YtmidjldjkbljjaaGreatDoorClSi
set_option linter.unusedVariables false
set_option linter.unusedSimpArgs false
set_option linter.unusedSectionVars false
namespace Go.Proofs.YtmidjldjkbljjaaGreatDoor.cl
open Go Go.AM
def Yc (tb:List (aT×List aT)) (x y:aT):Bool:=match tb.find? fun p=>p.1==x with
 |some p=>p.2.contains y
 |none=>false
def FU (d:List af) (x:aT):List aT→List aT→Bool
 |_,[]=>true
 |seen,y::l=>(y==x||d.any fun t=>t.Name==y&&t.aD.any fun s=>seen.contains s)&&FU d x (y::seen) l
def Wy (d:List af) (tb:List (aT×List aT)):Bool:=
 (tb.all fun p=>FU d p.1 [] p.2)&&(cO d).all fun x=>Yc tb x x&&(cO d).all fun y=> !Yc tb x y||(dn d y).all fun z=>Yc tb x z
theorem O6 {d:List af} {x:aT}:∀(l seen:List aT),FU d x seen l=true→(∀s∈seen,Le d x s)→∀y∈l,Le d x y:=by
 intro l
 induction l with
 |nil=>intro seen _ _ y hy;cases hy
 |cons z l ih=>
  intro seen h hs y hy;unfold FU at h;rw [Bool.and_eq_true,Bool.or_eq_true] at h;have hz:Le d x z:=by
   rcases h.1 with h1|h1
   ·rw [beq_iff_eq] at h1;rw [h1];exact .refl
   ·obtain ⟨t,ht,h2⟩:=List.any_eq_true.1 h1
    rw [Bool.and_eq_true,beq_iff_eq] at h2;obtain ⟨s,hss,h3⟩:=List.any_eq_true.1 h2.2;rw [List.contains_iff_mem] at h3;exact .step (hs s h3) (vj.2 ⟨t,ht,h2.1,hss⟩)
  rcases List.mem_cons.1 hy with rfl|hy
  ·exact hz
  ·refine ih (z::seen) h.2 (fun s hs'=> ?_) y hy
   rcases List.mem_cons.1 hs' with rfl|hs'
   ·exact hz
   ·exact hs s hs'
theorem Yx {d:List af} {tb:List (aT×List aT)} (h:Wy d tb=true):∀x∈cO d,∀y,Le d x y↔Yc tb x y=true:=by
 unfold Wy at h;rw [Bool.and_eq_true,List.all_eq_true,List.all_eq_true] at h;intro x hx y;have h2:=h.2 x hx;rw [Bool.and_eq_true,List.all_eq_true] at h2;have key:∀y,Le d x y→y∈cO d∧Yc tb x y=true:=by
  intro y hl
  induction hl with
  |refl=>exact ⟨hx,h2.1⟩
  |step _ hz ih=>
   refine ⟨sD hz,?_⟩;have:=h2.2 _ ih.1;rw [Bool.or_eq_true,ih.2,List.all_eq_true] at this;rcases this with h3|h3
   ·cases h3
   ·exact h3 _ hz
 constructor
 ·intro hl
  exact (key y hl).2
 ·intro hl
  unfold Yc at hl;split at hl
  ·rename_i p hp
   have hpm:=List.mem_of_find?_eq_some hp;have hpe:p.1=x:=by simpa using List.find?_some hp
   rw [List.contains_iff_mem] at hl;rw [←hpe];exact O6 p.2 [] (h.1 p hpm) (fun s hs=>by cases hs) y hl
  ·cases hl
def rk (d:List af) (s:aT):Nat:=(bI (fun t:af=>t.Name==s) d 0).toNat
def Zh (d:List af):Bool:= !uT d&&kD [] d==0&&kZ (cO d) d==0&&kQ d==1&&d.all fun t=>t.aD.all fun s=>Nat.blt (rk d s) (rk d t.Name)
theorem Ud {d:List af} (h:Zh d=true):tP d=0:=by
 unfold Zh at h;simp only [Bool.and_eq_true,beq_iff_eq,List.all_eq_true] at h;obtain ⟨⟨⟨⟨h1,h2⟩,h3⟩,h4⟩,h5⟩:=h;refine DW.2 ⟨by simpa using h1,h2,h3,h4,rk d,fun t ht s hs=> ?_⟩;exact Nat.le_of_ble_eq_true (h5 t ht s hs)
section
variable (d:List af) (le:aT→aT→Bool)
def W1 (all:List aT) (x:aT):Nat:=mk 0 ((List.range all.length).filter fun i=>le x (all.getD i []))
def Om:List Nat:=(cH d).map (W1 le (cH d))
def Nr (l:List aT):List aT:=(fo (l.filter fun s=>decide (s∈cO d))).filter fun x=>(fo (l.filter fun s=>decide (s∈cO d))).all fun y=>decide (y=x)|| !le y x
def nr (w:Nat):List aT→List Nat→Nat→List aT→aT
 |s::ss,c::cs,i,acc=>if c=w then s else nr w ss cs (i+1) (if w.testBit i=true then acc++[s] else acc)
 |_,_,_,acc=>jg [38] (Nr d le acc)
def QD:List vF:=((qi (Om d le)).map fun w=>((nr d le w (cH d) (Om d le) 0 [],w):vF)).foldl (fun E p=>kC oO p E) []
def MW (F:aT):Option aT:=one (Nr d le (fo (dG d F)))
def UY (w:Nat) (F:aT) (o:Option Nat) (t:af):Option Nat:=match val t F with
 |some v=>if sub w (W1 le (cH d) t.Name)=true then some (comb o (W1 le (cH d) v)) else o
 |none=>o
def XN (w:Nat) (F:aT):Option Nat:=d.foldl (UY d le w F) none
variable {d le} (hle:∀x∈cO d,∀y,Le d x y↔le x y=true)
include hle
open Classical in
theorem Ki {all:List aT} {x:aT} (hx:x∈cO d):cw d all x=W1 le all x:=by
 unfold cw idxs W1
 congr 1
 refine List.filter_congr fun i _=> ?_
 rw [Bool.eq_iff_iff,decide_eq_true_iff];exact hle x hx _
theorem MD:fI d=Om d le:=by
 unfold fI Om;exact List.map_congr_left fun x hx=>Ki hle (cL.1 hx)
theorem BI (l:List aT):kN d l=Nr d le l:=by
 unfold kN Nr;have hm:∀x∈fo (l.filter fun s=>decide (s∈cO d)),x∈cO d:=fun x hx=>by
  have:=(List.mem_filter.1 (cL.1 hx)).2;simpa using this
 generalize fo (l.filter fun s=>decide (s∈cO d))=m at hm;refine List.filter_congr fun x hx=> ?_
 unfold gQ;rw [Bool.eq_iff_iff,List.all_eq_true,List.all_eq_true];have key:∀y∈m,((decide (y=x)|| !(open Classical in decide (Le d y x)))=true↔(decide (y=x)|| !le y x)=true):=by
  intro y hy;have h1:=hle y (hm y hy) x;cases hl:le y x with
  |true=>
   have:Le d y x:=h1.2 hl;simp [this]
  |false=>
   have:¬Le d y x:=fun h=>by rw [h1.1 h] at hl;cases hl
   simp [this]
 constructor
 ·intro h y hy
  refine (key y hy).1 ?_;have:=h y hy;simpa using this
 ·intro h y hy
  have:=(key y hy).2 (h y hy);simpa using this
theorem FO {w:Nat}:∀(ss:List aT) (cs:List Nat) (i:Nat) (acc:List aT),eT d w ss cs i acc=nr d le w ss cs i acc:=by
 intro ss
 induction ss with
 |nil=>intro cs i acc;cases cs<;>simp only [eT,nr,BI hle]
 |cons s ss ih=>
  intro cs i acc;cases cs with
  |nil=>simp only [eT,nr,BI hle]
  |cons c cs=>simp only [eT,nr,ih]
theorem HF:bK d=QD d le:=by
 unfold bK QD sW;rw [MD hle]
 congr 1
 exact List.map_congr_left fun w _=>by rw [FO hle]
theorem RC (F:aT):nP d F=MW d le F:=by unfold nP MW;rw [BI hle]
theorem FE (hV:Vd d) (w:Nat) (F:aT):inh d w F=XN d le w F:=by
 have key:∀(l:List af) (o:Option Nat),(∀t∈l,t∈d)→l.foldl (tA d w F) o=l.foldl (UY d le w F) o:=by
  intro l
  induction l with
  |nil=>intro o _;rfl
  |cons t l ih=>
   intro o h;rw [List.foldl_cons,List.foldl_cons];have ht:=h t (by simp);have e:tA d w F o t=UY d le w F o t:=by
    unfold tA UY;cases hv:val t F with
    |none=>rfl
    |some v=>
     simp only;rw [show cwd d t.Name=W1 le (cH d) t.Name from Ki hle (nV ht),show cwd d v=W1 le (cH d) v from Ki hle (hV.val ht hv)]
   rw [e];exact ih _ fun u hu=>h u (by simp [hu])
 exact key d none fun t h=>h
end
structure At (d:List af) (le:aT→aT→Bool) (E:List vF):Prop where
 hl:∀x∈cO d,∀y,Le d x y↔le x y=true
 bK:QD d le=E
 tP:tP d=0
theorem At.tys {d:List af} {le:aT→aT→Bool} {E:List vF} (h:At d le E):tys d=E.map (·.2):=by
 unfold cl.tys;rw [HF h.hl,h.bK]
def Vj (d:List af) (le:aT→aT→Bool) (E:List vF):Int:=
 if (qi (Om d le)).length>256 then 7 else if (eR d).length>64 then 7 else if fZ (cO d) d≠0 then fZ (cO d) d
 else if ((eR d).any fun F=>(MW d le F).isNone)=true then 10 else if ((E.map (·.2)).any fun w=>(eR d).any fun F=>XN d le w F==some 0)=true then 11 else 0
theorem At.gJ {d:List af} {le:aT→aT→Bool} {E:List vF} (h:At d le E):gJ d=Vj d le E:=by
 unfold cl.gJ Vj;have h0:=h.tP;rw [if_neg (fun hh=>hh h0),MD h.hl];by_cases h1:(qi (Om d le)).length>256
 ·rw [if_pos h1,if_pos h1]
 ·rw [if_neg h1,if_neg h1]
  by_cases h2:(eR d).length>64
  ·rw [if_pos h2,if_pos h2]
  ·rw [if_neg h2,if_neg h2]
   by_cases h3:fZ (cO d) d=0
   ·have hn:¬(fZ (cO d) d≠0):=fun hh=>hh h3
    rw [if_neg hn,if_neg hn];have e1:gl d (eR d)=(eR d).any fun F=>(MW d le F).isNone:=by
     unfold gl
     congr 1
     funext F
     rw [RC h.hl]
    have e2:iF d (cl.tys d)=(E.map (·.2)).any fun w=>(eR d).any fun F=>XN d le w F==some 0:=by
     unfold iF;rw [h.tys]
     congr 1
     funext w
     congr 1
     funext F
     rw [FE h.hl (xM h3)]
    rw [e1,e2]
   ·rw [if_pos h3,if_pos h3]
end Go.Proofs.YtmidjldjkbljjaaGreatDoor.cl
set_option linter.unusedVariables false
set_option linter.unusedSimpArgs false
set_option linter.unusedSectionVars false
set_option maxRecDepth 100000
namespace Go.Proofs.YtmidjldjkbljjaaGreatDoor.cl
open Go Go.AM
def szB (d:List af):Bool:=Nat.ble d.length 64&&d.all fun t=>Nat.ble t.aD.length 20&&Nat.ble t.aR.length 20
theorem TE {d:List af} (h:szB d=true):Sz d∧d.length≤64∧Fz d:=by
 unfold szB at h;rw [Bool.and_eq_true,List.all_eq_true] at h;have h0:=Nat.le_of_ble_eq_true h.1;have key:∀t∈d,t.aD.length≤20∧t.aR.length≤20:=fun t ht=>by
  have:=h.2 t ht;rw [Bool.and_eq_true] at this;exact ⟨Nat.le_of_ble_eq_true this.1,Nat.le_of_ble_eq_true this.2⟩
 exact ⟨⟨by omega,fun t ht=>by have:=(key t ht).1;omega⟩,h0,fun t ht=>by have:=(key t ht).2;omega⟩
end Go.Proofs.YtmidjldjkbljjaaGreatDoor.cl
