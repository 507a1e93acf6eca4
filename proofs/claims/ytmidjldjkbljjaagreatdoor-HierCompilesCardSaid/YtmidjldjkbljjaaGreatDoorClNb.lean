/- The Closure laws. -/
import Derived.Test.YtmidjldjkbljjaaGreatDoorClJ
import Derived.Lib.DecodeN
set_option linter.unusedVariables false
set_option linter.unusedSimpArgs false
set_option linter.unusedSectionVars false
namespace Go.AM
section
variable {K V:Type}
theorem BR (k:K):jB ([]:List (K×V)) k=none:=by simp [jB]
theorem qE (x:K×V) (l:List (K×V)) (k:K):jB (x::l) k=open Classical in if k=x.1 then some 0 else (jB l k).map (· +1):=by
 unfold jB;rw [List.findIdx?_cons];by_cases h:k=x.1<;>simp [h]
theorem gR (k:K):getM ([]:List (K×V)) k=none:=by simp [getM,BR]
theorem gZ (x:K×V) (l:List (K×V)) (k:K):getM (x::l) k=open Classical in if k=x.1 then some x.2 else getM l k:=by
 unfold getM;rw [qE];by_cases h:k=x.1
 ·simp [h]
 ·simp only [h,if_false]
  cases jB l k<;>simp
theorem BW (k:K) (v:V):ec [] k v=[(k,v)]:=by simp [ec,BR]
theorem yH (x:K×V) (l:List (K×V)) (k:K) (v:V):ec (x::l) k v=open Classical in if k=x.1 then (k,v)::l else x::ec l k v:=by
 unfold ec;rw [qE];by_cases h:k=x.1
 ·simp [h]
 ·simp only [h,if_false]
  cases jB l k<;>simp
theorem iM (k k':K) (v:V):∀l:List (K×V),getM (ec l k v) k'=open Classical in if k'=k then some v else getM l k':=by
 intro l
 induction l with
 |nil=>rw [BW,gZ,gR]
 |cons x l ih=>
  rw [yH];by_cases h:k=x.1
  ·rw [if_pos h,gZ,gZ]
   by_cases h2:k'=k
   ·simp [h2]
   ·have:¬k'=x.1:=fun e=>h2 (by rw [e,h])
    simp [h2,this]
  ·rw [if_neg h,gZ,ih,gZ]
   by_cases h2:k'=x.1
   ·have:¬k'=k:=fun e=>h (by rw [←e,h2])
    simp [h2,this];intro e;exact absurd e (fun e=>h e.symm)
   ·simp [h2]
theorem pV (k:K) (v:V) (l:List (K×V)):getM (ec l k v) k=some v:=by rw [iM];simp
theorem zA {k k':K} (h:k'≠k) (v:V) (l:List (K×V)):getM (ec l k v) k'=getM l k':=by rw [iM,if_neg h]
theorem zS (k:K):∀l:List (K×V),(jB l k).isSome=(getM l k).isSome:=by
 intro l
 induction l with
 |nil=>rw [BR,gR];rfl
 |cons x l ih=>
  rw [qE,gZ];by_cases h:k=x.1
  ·simp [h]
  ·simp [h,ih]
variable {R:Type}
theorem dU {l:List (K×V)} {k:K} {v:V} (h:getM l k=some v) (f:V→Option R) (z:Option R):iy l k f z=f v:=by unfold iy;rw [h]
theorem iO {l:List (K×V)} {k:K} (h:getM l k=none) (f:V→Option R) (z:Option R):iy l k f z=z:=by unfold iy;rw [h]
theorem jJ {α:Type} (x:α) (k:α→Option R):nT x k=k x:=rfl
end
end Go.AM
namespace Go.Proofs.YtmidjldjkbljjaaGreatDoor.cl
open Go Go.AM
theorem FF {α:Type} (p:α→Bool):∀(xs:List α) (i:Nat),decide (bI p xs i≥0)=xs.any p:=by
 intro xs
 induction xs with
 |nil=>intro i;rfl
 |cons x xs ih=>
  intro i;rw [bI,List.any_cons];cases h:p x with
  |true=>simp
  |false=>rw [←ih (i+1)];simp
theorem decode_ascii {s:aT} {p:Nat} {c:UInt8} (h:s[p]? =some c) (hc:c.toNat<128):Utf8.decode ⟨s.toArray⟩ p=(c.toNat,1):=by
 rw [Lib.decode_at];have hp:=(List.getElem?_eq_some_iff.1 h).1;have e:(ByteArray.get! ⟨s.toArray⟩ p)=c:=by
  show (s.toArray)[p]! =c;rw [getElem!_pos s.toArray p (by simpa using hp)];simpa using (List.getElem?_eq_some_iff.1 h).2
 rw [e,Lib.decodeN,if_pos hc]
theorem zx {s:aT} {p:Nat} {c:UInt8} (h:s[p]? =some c) (hc:128≤c.toNat):128≤(Utf8.decode ⟨s.toArray⟩ p).1:=by
 rw [Lib.decode_at];have hp:=(List.getElem?_eq_some_iff.1 h).1;have e:(ByteArray.get! ⟨s.toArray⟩ p)=c:=by
  show (s.toArray)[p]! =c;rw [getElem!_pos s.toArray p (by simpa using hp)];simpa using (List.getElem?_eq_some_iff.1 h).2
 rw [e,Lib.decodeN,if_neg (by omega)]
 repeat' split
 all_goals first|(simp only;omega)|omega
theorem i143 (c:Int):f143 c=some (decide (97≤c)&&decide (c≤122)):=by
 refine e143 _ ?_;by_cases h:97≤c
 ·rw [cond_pos (by simpa using h)];simp [h]
 ·rw [cond_neg (by simpa using h)];simp [h]
theorem i161 (c:Int):f161 c=some (decide (48≤c)&&decide (c≤57)):=by
 refine e161 _ ?_;by_cases h:48≤c
 ·rw [cond_pos (by simpa using h)];simp [h]
 ·rw [cond_neg (by simpa using h)];simp [h]
def okC (c:UInt8):Bool:=dN c||c.toNat==45||lowerB c
def Eu (p:Nat) (c:UInt8):Bool:=if p=0 then lowerB c else okC c
def qS:Nat→aT→Bool
 |_,[]=>true
 |p,c::l=>Eu p c&&qS (p+1) l
theorem h142 (s:aT):∀(xs:aT) (p:Nat),s.drop p=xs→yX s p=some (qS p xs):=by
 intro xs
 induction xs with
 |nil=>
  intro p h;refine RV _ _ ?_;have:=dM h;rw [cond_neg (by cases hb:Nat.blt p s.length with|false=>rfl|true=>simp [Nat.blt_eq] at hb;omega)];rfl
 |cons c xs ih=>
  intro p h;refine RV _ _ ?_;have hp:=bL h;have iW:=aW h;rw [cond_pos (by simp [Nat.blt_eq];omega),i143,ah,i161,ah];by_cases hc:c.toNat<128
  ·rw [decode_ascii iW hc]
   simp only [ih (p+1) (az h)];rw [qS];have e1:(decide (97≤(c.toNat:Int))&&decide ((c.toNat:Int)≤122))=lowerB c:=by
    unfold lowerB;rw [Bool.eq_iff_iff];simp;omega
   have e2:(decide (48≤(c.toNat:Int))&&decide ((c.toNat:Int)≤57))=dN c:=by
    unfold dN;rw [Bool.eq_iff_iff];simp;omega
   rw [e1,e2];unfold Eu okC;cases hl:lowerB c with
   |true=>simp
   |false=>
    rw [Bool.not_false,cond_true];by_cases h0:p=0
    ·subst h0;simp
    ·rw [cond_neg (by simp;omega),if_neg h0]
     cases hd:dN c with
     |true=>simp
     |false=>
      rw [Bool.not_false,cond_true];by_cases h45:c.toNat=45
      ·rw [cond_neg (by simp;omega)];simp [h45]
      ·rw [cond_pos (by simp;omega)];simp [h45]
  ·have hw:=zx iW (by omega)
   have e1:(decide (97≤((Utf8.decode ⟨s.toArray⟩ p).1:Int))&&decide (((Utf8.decode ⟨s.toArray⟩ p).1:Int)≤122))=false:=by simp;omega
   have e2:(decide (48≤((Utf8.decode ⟨s.toArray⟩ p).1:Int))&&decide (((Utf8.decode ⟨s.toArray⟩ p).1:Int)≤57))=false:=by simp;omega
   have e3:Eu p c=false:=by
    unfold Eu okC lowerB dN;split<;>simp<;>omega
   rw [qS,e3,Bool.false_and,e1,e2,Bool.not_false,cond_true];by_cases h0:p=0
   ·subst h0;rw [cond_pos (by simp)]
   ·rw [cond_neg (by simp;omega),cond_true,cond_pos (by simp;omega)]
theorem Uq:∀(xs:aT) (p:Nat),0<p→qS p xs=xs.all okC:=by
 intro xs
 induction xs with
 |nil=>intro p _;rfl
 |cons c xs ih=>
  intro p hp;rw [qS,ih (p+1) (by omega),List.all_cons,Eu,if_neg (by omega)]
theorem i115 (s:aT):f115 s=some (isName s):=by
 refine e115 _ ?_;have:f142 s=some (isName s):=by
  refine e142 _ ?_;cases s with
  |nil=>rfl
  |cons c l=>
   rw [cond_neg (by simp;omega)];by_cases h2:(c::l).length≤32
   ·rw [cond_neg (by simp at h2⊢;omega)]
    have:=h142 (c::l) (c::l) 0 rfl;rw [this,qS,Uq _ _ (by omega)];refine congrArg some ?_;unfold isName Eu;simp only [if_true,List.getD_cons_zero,List.all_cons];have h1:decide (1≤(c::l).length)=true:=by simp
    have Df:decide ((c::l).length≤32)=true:=by simpa using h2
    rw [h1,Df];show _=(_&&((dN c||c.toNat==45||lowerB c)&&l.all okC))
    cases hl:lowerB c with
    |true=>
     have hd:dN c=false:=by
      unfold lowerB at hl;unfold dN;simp at hl⊢;omega
     have h45:(c.toNat==45)=false:=by
      unfold lowerB at hl;simp at hl⊢;omega
     simp [hd,h45]
    |false=>cases dN c<;>cases (c.toNat==45)<;>simp
   ·rw [cond_pos (by simp at h2⊢;omega)]
    have:decide ((c::l).length≤32)=false:=by simpa using h2
    unfold isName;rw [this];simp
 rw [this];rfl
theorem h141 (d:List af) (hl:d.length≤1073741824):∀(xs:List af) (i:Nat),d.drop i=xs→Cr d d.length i=some (bI (fun t=>decide (t.aD.length>256)||decide (t.aR.length>256)) xs i):=by
 intro xs
 induction xs with
 |nil=>intro i h;refine RU _ _ _ ?_;rw [aP h];rfl
 |cons x xs ih=>
  intro i h;refine RU _ _ _ ?_;have h114:f114 x=some (decide (x.aD.length>256)||decide (x.aR.length>256)):=by
   refine e114 _ ?_;by_cases h1:x.aD.length>256
   ·rw [cond_pos (by simp;omega)];simp [h1]
   ·rw [cond_neg (by simp;omega)]
    have:decide (x.aD.length>256)=false:=by simpa using h1
    rw [this,Bool.false_or]
    congr 1;rw [decide_eq_decide];omega
  rw [aU h,cond_true,aL h,h114,ah,aM h hl,ih (i+1) (az h),bI];cases (decide (x.aD.length>256)||decide (x.aR.length>256))<;>rfl
theorem i76 (d:List af):f76 d=some (uT d):=by
 refine e76 _ ?_;by_cases h:d.length>256
 ·rw [cond_pos (by simp;omega)];simp [uT,h]
 ·rw [cond_neg (by simp;omega)]
  have h113:f113 d=some (d.any fun t=>decide (t.aD.length>256)||decide (t.aR.length>256)):=by
   refine e113 _ ?_;have:f141 d=_:=e141 _ (h141 d (by omega) d 0 rfl);rw [this,ah,FF]
  rw [h113];have e:decide (d.length>256)=false:=by simpa using h
  rw [uT,e,Bool.false_or];rfl
theorem h77 (d:List af) (hl:d.length≤1073741824):∀(xs:List af) (i:Nat) (m:List (aT×Bool)) (seen:List aT),d.drop i=xs→(∀x,getM m x=if x∈seen then some true else none)→ER d d.length i m=some (kD seen xs):=by
 intro xs
 induction xs with
 |nil=>intro i m seen h hm;refine Wi _ _ _ _ ?_;rw [aP h];rfl
 |cons x xs ih=>
  intro i m seen h hm;refine Wi _ _ _ _ ?_;rw [aU h,cond_true,aL h,i115,ah,kD,aM h hl];cases hn:isName x.Name with
  |false=>rfl
  |true=>
   rw [Bool.not_true,cond_false];by_cases hs:x.Name∈seen
   ·rw [dU (v:=true) (by rw [hm,if_pos hs])]
    simp [hs]
   ·rw [iO (by rw [hm,if_neg hs]),jJ,ih (i+1) _ (seen++[x.Name]) (az h) ?_]
    ·simp [hs]
    ·intro y
     rw [iM,hm];by_cases e:y=x.Name
     ·simp [e]
     ·simp [e]
theorem i77 (d:List af) (hl:d.length≤1073741824):f77 d=some (kD [] d):=e77 _ (h77 d hl d 0 [] [] rfl (fun x=>by rw [gR];simp))
theorem h75 (d:List af) (hl:d.length≤1073741824):∀(xs:List af) (i:Nat) (m:List (aT×List aT)),d.drop i=xs→JD d d.length i m=some (xs.foldl (fun m t=>ec m t.Name t.aD) m):=by
 intro xs
 induction xs with
 |nil=>intro i m h;refine Wh _ _ _ _ ?_;rw [aP h];rfl
 |cons x xs ih=>
  intro i m h;refine Wh _ _ _ _ ?_;rw [aU h,cond_true,aL h,jJ,aM h hl,ih (i+1) _ (az h)];rfl
noncomputable def Ci (d:List af):List (aT×List aT):=d.foldl (fun m t=>ec m t.Name t.aD) []
theorem i75 (d:List af) (hl:d.length≤1073741824):f75 d=some (Ci d):=e75 _ (h75 d hl d 0 [] rfl)
theorem D5:∀(d:List af) (m:List (aT×List aT)) (x:aT),(x∉cO d→getM (d.foldl (fun m t=>ec m t.Name t.aD) m) x=getM m x)∧(x∈cO d→∃t∈d,t.Name=x∧getM (d.foldl (fun m t=>ec m t.Name t.aD) m) x=some t.aD):=by
 intro d
 induction d with
 |nil=>intro m x;exact ⟨fun _=>rfl,fun h=>by cases h⟩
 |cons t d ih=>
  intro m x;obtain ⟨h1,h2⟩:=ih (ec m t.Name t.aD) x;constructor
  ·intro hx
   simp only [List.map_cons,List.mem_cons,not_or] at hx;rw [List.foldl_cons,h1 hx.2,zA hx.1]
  ·intro hx
   by_cases hd:x∈cO d
   ·obtain ⟨u,hu,e1,e2⟩:=h2 hd
    exact ⟨u,by simp [hu],e1,e2⟩
   ·have:x=t.Name:=by simpa [hd] using hx
    subst this;exact ⟨t,by simp,rfl,by rw [List.foldl_cons,h1 hd,pV]⟩
theorem Po {d:List af} {x:aT} (h:x∉cO d):getM (Ci d) x=none:=by
 rw [Ci,(D5 d [] x).1 h,gR]
theorem yR {d:List af} {x:aT} (h:x∈cO d):∃t∈d,t.Name=x∧getM (Ci d) x=some t.aD:=(D5 d [] x).2 h
theorem U6 {d:List af} (hn:(cO d).Nodup) {x:aT} (h:x∈cO d):getM (Ci d) x=some (up d x):=by
 obtain ⟨t,ht,e,e2⟩:=yR h;rw [e2,←e,tI hn ht]
theorem h125 (l:List aT) (s:aT) (hl:l.length≤1073741824):∀(xs:List aT) (i:Nat),l.drop i=xs→Cm l s l.length i=some (bI (fun x=>s==x) xs i):=by
 intro xs
 induction xs with
 |nil=>intro i h;refine RP _ _ _ _ ?_;rw [aP h];rfl
 |cons x xs ih=>
  intro i h;refine RP _ _ _ _ ?_;rw [aU h,cond_true,aL h,aM h hl,ih (i+1) (az h),bI];cases s==x<;>rfl
theorem i92 (l:List aT) (s:aT) (hl:l.length≤1073741824):f92 l s=some (decide (s∈l)):=by
 refine e92 _ _ ?_;have:f125 l s=_:=e125 _ _ (h125 l s hl l 0 rfl);rw [this,ah,FF]
 congr 1
 rw [Bool.eq_iff_iff];simp
theorem h78b (d:List af) (i:Nat) (hi:i<d.length) (hl:d.length≤1073741824) (t:af) (JT:t.aD.length≤1073741824) {r:Int} (hr:ES (Ci d) d d.length (i+1:Nat)=some r):∀(xs:List aT) (k:Nat),t.aD.drop k=xs→
  JE (Ci d) d d.length i t.aD t.aD.length k t=some (if PJ (cO d) (t.aD.take k) xs=0 then r else PJ (cO d) (t.aD.take k) xs):=by
 intro xs
 induction xs with
 |nil=>
  intro k h;refine Wk _ _ _ _ _ _ _ _ ?_;rw [aP h,cond_false,bh (by omega),hr];rfl
 |cons x xs ih=>
  intro k h;refine Wk _ _ _ _ _ _ _ _ ?_;have hlt:=bL h;have hd:t.aD.take (k+1)=t.aD.take k++[x]:=by
   rw [List.take_add_one,aW h];rfl
  rw [aU h,cond_true,aL h,PJ];by_cases hm:x∈cO d
  ·obtain ⟨u,_,_,e⟩:=yR hm
   rw [dU e,qQ (by omega),i92 _ _ (by simp;omega),ah,aM h JT,ih (k+1) (az h),hd];have e:List.drop 0 (List.take (Int.toNat (k:Int)) t.aD)=t.aD.take k:=by simp
   rw [e];by_cases h2:x∈t.aD.take k
   ·rw [cond_pos (by simpa using h2)];simp only [hm,not_true_eq_false,if_false,h2,if_true];rfl
   ·rw [cond_neg (by simpa using h2)];simp only [hm,not_true_eq_false,if_false,h2]
  ·rw [iO (Po hm)];simp only [hm,not_false_eq_true,if_true];rfl
theorem h78 (d:List af) (hl:d.length≤1073741824) (hs:∀t∈d,t.aD.length≤1073741824):∀(xs:List af) (i:Nat),d.drop i=xs→ES (Ci d) d d.length i=some (kZ (cO d) xs):=by
 intro xs
 induction xs with
 |nil=>intro i h;refine Wj _ _ _ _ ?_;rw [aP h];rfl
 |cons x xs ih=>
  intro i h;refine Wj _ _ _ _ ?_;rw [aU h,cond_true,aL h];exact h78b d i (bL h) hl x (hs x (List.mem_of_getElem? (aW h))) (ih (i+1) (az h)) _ 0 rfl
theorem i78 (d:List af) (hl:d.length≤1073741824) (hs:∀t∈d,t.aD.length≤1073741824):f78 d=some (kZ (cO d) d):=by
 refine e78 _ ?_;rw [i75 d hl,ah];exact h78 d hl hs d 0 rfl
end Go.Proofs.YtmidjldjkbljjaaGreatDoor.cl
set_option linter.unusedVariables false
set_option linter.unusedSimpArgs false
set_option linter.unusedSectionVars false
namespace Go.AM
section
variable {K V:Type}
noncomputable def rowOf (l:List (K×Option (List V))) (key:K):List V:=match getM l key with
 |some (some xs)=>xs
 |_=>[]
def Full (l:List (K×Option (List V))):Prop:=∀p∈l,∃v,p.2=some v
theorem Full.nil:Full ([]:List (K×Option (List V))):=fun p h=>by cases h
theorem Tb {k:K} {v:V} {p:K×V}:∀{l:List (K×V)},p∈ec l k v→p=(k,v)∨p∈l:=by
 intro l
 induction l with
 |nil=>intro h;rw [BW] at h;simp at h;exact .inl h
 |cons x l ih=>
  intro h;rw [yH] at h;split at h
  ·rcases List.mem_cons.1 h with h|h
   ·exact .inl h
   ·exact .inr (by simp [h])
  ·rcases List.mem_cons.1 h with h|h
   ·exact .inr (by simp [h])
   ·rcases ih h with h|h
    ·exact .inl h
    ·exact .inr (by simp [h])
theorem Full.put {l:List (K×Option (List V))} (h:Full l) (k:K) (xs:List V):Full (ec l k (some xs)):=by
 intro p hp;rcases Tb hp with rfl|hp
 ·exact ⟨xs,rfl⟩
 ·exact h p hp
theorem EX {R:Type} {l:List (K×Option (List V))} (h:Full l) (key:K) (k:List V→List (K×Option (List V))→Option R):∃m,EW l key k=k (rowOf l key) m∧∀v,ec m key v=ec l key v:=by
 unfold EW rowOf getM;cases e:jB l key with
 |none=>exact ⟨l,rfl,fun v=>rfl⟩
 |some i=>
  obtain ⟨hi,hk⟩:=wU e;cases e2:l[i] with
  |mk q o=>
   obtain ⟨xs,hxs⟩:=h l[i] (List.getElem_mem hi);rw [e2] at hxs hk;simp only at hxs hk;subst hxs hk;refine ⟨l.set i (q,none),?_,?_⟩
   ·simp [List.getElem?_eq_getElem hi,e2]
   ·intro v
    have hp:jB (l.set i (q,none)) q=some i:=by
     have hkeys:(l.set i (q,none)).map (·.1)=l.map (·.1):=by
      rw [List.map_set];apply List.ext_getElem
      ·simp
      ·intro j h1 h2
       rw [List.getElem_set];split
       ·rename_i hj;subst hj;simp [e2]
       ·rfl
     have:∀(a b:List (K×Option (List V))),a.map (·.1)=b.map (·.1)→∀k,jB a k=jB b k:=by
      intro a
      induction a with
      |nil=>intro b hb k;cases b with
       |nil=>rfl
       |cons y b=>simp at hb
      |cons x a ih=>intro b hb k;cases b with
       |nil=>simp at hb
       |cons y b=>
        simp only [List.map_cons,List.cons.injEq] at hb;rw [qE,qE,hb.1,ih b hb.2]
     rw [this _ _ hkeys,e]
    unfold ec;rw [hp,e];simp
theorem yO (l:List (K×Option (List V))) (k k':K) (xs:List V):rowOf (ec l k (some xs)) k'=open Classical in if k'=k then xs else rowOf l k':=by
 unfold rowOf;rw [iM];by_cases h:k'=k<;>simp [h]
theorem yN (k:K):rowOf ([]:List (K×Option (List V))) k=[]:=by unfold rowOf;rw [gR]
theorem N7:∀{l:List (K×Option (List V))},Full l→∃m,allM l=some m∧(∀k,(getM m k).getD []=rowOf l k)∧∀k,(getM m k).isSome=(getM l k).isSome:=by
 intro l
 induction l with
 |nil=>intro _;exact ⟨[],rfl,fun k=>by rw [gR,yN];rfl,fun k=>by rw [gR,gR];rfl⟩
 |cons x l ih=>
  intro h;obtain ⟨q,o⟩:=x;obtain ⟨xs,hxs⟩:=h (q,o) (by simp);simp only at hxs;subst hxs;obtain ⟨m,hm,h1,h2⟩:=ih fun p hp=>h p (by simp [hp])
  refine ⟨(q,xs)::m,by simp [allM,hm],fun k=> ?_,fun k=> ?_⟩
  ·have:=h1 k
   unfold rowOf at this⊢;rw [gZ,gZ];by_cases e:k=q
   ·simp [e]
   ·simp only [e,if_false];exact this
  ·rw [gZ,gZ]
   by_cases e:k=q
   ·simp [e]
   ·simp only [e,if_false];exact h2 k
theorem DQ {R:Type} {l:List (K×Option (List V))} (h:Full l) (k:List (K×List V)→Option R):∃m,N8 l k=k m∧(∀x,(getM m x).getD []=rowOf l x)∧∀x,(getM m x).isSome=(getM l x).isSome:=by
 obtain ⟨m,hm,h1,h2⟩:=N7 h;exact ⟨m,by unfold N8;rw [hm],h1,h2⟩
theorem OX {R:Type} {m:List (K×List V)} {x:K} (f:List V→Option R) {z:Option R} (hz:z=f []):iy m x f z=f ((getM m x).getD []):=by
 unfold iy;cases getM m x with
 |none=>exact hz
 |some v=>rfl
end
end Go.AM
namespace Go.Proofs.YtmidjldjkbljjaaGreatDoor.cl
open Go Go.AM
theorem h116 (l:List aT) (hl:l.length≤1073741824):∀(xs:List aT) (i:Nat) (m:aT),l.drop i=xs→m∈l→∃r∈l,GD l m i=some r:=by
 intro xs
 induction xs with
 |nil=>intro i m h hm;exact ⟨m,hm,RN _ _ _ (by rw [aP h];rfl)⟩
 |cons x xs ih=>
  intro i m h hm;have hx:x∈l:=List.mem_of_getElem? (aW h);obtain ⟨r,hr,e⟩:=ih (i+1) (bif Op.bytesLess m x||m==x then m else x) (az h) (by cases (Op.bytesLess m x||m==x)<;>simp [hm,hx]);refine ⟨r,hr,RN _ _ _ ?_⟩;rw [aU h,cond_true,aL h,aM h hl];exact e
theorem i116 (l:List aT) (hl:l.length≤1073741824) (hne:l≠[]):∃r∈l,f116 l=some r:=by
 have hpos:0<l.length:=List.length_pos_iff.2 hne;obtain ⟨r,hr,e⟩:=h116 l hl _ 1 l[0] rfl (List.getElem_mem hpos);refine ⟨r,hr,e116 _ ?_⟩;rw [cond_neg (by simp;omega),show (0:Int)=((0:Nat):Int) from rfl,bG hpos];exact e
theorem Zy (l:List aT) (a:aT) (hl:l.length≤1073741824):∀(xs:List aT) (i:Nat),l.drop i=xs→xw l a l.length i=some (bI (fun x=>x==a) xs i):=by
 intro xs
 induction xs with
 |nil=>intro i h;refine M3 _ _ _ _ ?_;rw [aP h];rfl
 |cons x xs ih=>
  intro i h;refine M3 _ _ _ _ ?_;have h118:f118 x a=some (x==a):=e118 _ _ rfl;rw [aU h,cond_true,aL h,h118,ah,aM h hl,ih (i+1) (az h),bI];cases x==a<;>rfl
theorem h117 (l:List aT) (a:aT) (hl:l.length≤1073741824):∀(n i j:Nat) (o:List aT),l.length-j=n→o.length=l.length→i<j→j≤l.length→o.take i=(l.take j).filter (fun x=> !(x==a))→o.drop j=l.drop j→
  ∃k w,yU a i j o=some (k,w)∧k≤w.length∧w.take k=l.filter (fun x=> !(x==a)):=by
 intro n
 induction n with
 |zero=>
  intro i j o hn ho hij hj ht hd;obtain rfl:j=l.length:=by omega
  rw [List.take_length] at ht;refine ⟨i,((o.take i)++(List.replicate (o.length-i) []))++(o.drop o.length),KT _ _ _ _ ?_,?_,?_⟩
  ·rw [cond_neg (by simp;omega),qQ (by omega),aV (by omega),Int.toNat_natCast,aV (by simp;omega)]
  ·simp;omega
  ·rw [List.append_assoc,List.take_append_of_le_length (by simp;omega),List.take_take,Nat.min_self];exact ht
 |succ n ih=>
  intro i j o hn ho hij hj ht hd;have hjl:j<l.length:=by omega
  have hjo:j<o.length:=by omega
  have hx:o[j]=l[j]:=by
   have:=congrArg (fun m=>m[0]?) hd;simp only [List.getElem?_drop,Nat.add_zero,List.getElem?_eq_getElem hjo,List.getElem?_eq_getElem hjl,Option.some.injEq] at this;exact this
  have htj:(l.take (j+1)).filter (fun x=> !(x==a))=(l.take j).filter (fun x=> !(x==a))++(if l[j]=a then [] else [l[j]]):=by
   rw [List.take_add_one,List.getElem?_eq_getElem hjl,List.filter_append]
   congr 1
   by_cases e:l[j]=a<;>simp [e]
  have hlen:i≤j:=by omega
  by_cases e:l[j]=a
  ·rw [if_pos e,List.append_nil] at htj
   obtain ⟨k,w,r1,r2,r3⟩:=ih i (j+1) o (by omega) ho (by omega) (by omega) (by rw [htj];exact ht) (by
    have:=congrArg (List.drop 1) hd
    simpa [List.drop_drop,Nat.add_comm] using this)
   refine ⟨k,w,KT _ _ _ _ ?_,r2,r3⟩;have h118:f118 o[j] a=some (o[j]==a):=e118 _ _ rfl;rw [cond_pos (by simp;omega),nH hjo,Int.toNat_natCast,mT hjo,h118,ah,hx,e,cond_neg (by simp),bh (by omega)];exact r1
  ·rw [if_neg e] at htj
   have hio:i<o.length:=by omega
   obtain ⟨k,w,r1,r2,r3⟩:=ih (i+1) (j+1) (o.set i l[j]) (by omega) (by simp [ho]) (by omega) (by omega) (by
    rw [htj,←ht,List.take_add_one,List.getElem?_set_self hio,List.take_set_of_le (by omega)];rfl) (by
    have:=congrArg (List.drop 1) hd;rw [List.drop_set_of_lt (by omega)]
    simpa [List.drop_drop,Nat.add_comm] using this)
   refine ⟨k,w,KT _ _ _ _ ?_,r2,r3⟩;have h118:f118 o[j] a=some (o[j]==a):=e118 _ _ rfl;rw [cond_pos (by simp;omega),nH hjo,Int.toNat_natCast,mT hjo,h118,ah,hx,cond_pos (by simpa using e),nH hio,Int.toNat_natCast,mT hio,bh (by omega),bh (by omega)];exact r1
theorem i117 (l:List aT) (a:aT) (hl:l.length≤1073741824):∃k w,f117 a l=some (k,w)∧k≤w.length∧w.take k=l.filter (fun x=> !(x==a)):=by
 have MS:QG l a=some (bI (fun x=>x==a) l 0):=Zn _ _ (Zy l a hl l 0 rfl);by_cases hm:a∈l
 ·obtain ⟨j,hj,e,h1,h2⟩:=wz (fun x:aT=>x==a) l 0 ⟨a,hm,by simp⟩
  rw [Nat.zero_add] at e
  obtain ⟨k,w,r1,r2,r3⟩:=h117 l a hl _ j (j+1) l rfl rfl (by omega) (by omega) (by
   have hf:∀x∈l.take j,(!(x==a))=true:=by
    intro x hx;rw [List.mem_take_iff_getElem] at hx;obtain ⟨k,hk,rfl⟩:=hx;rw [h2 k (by omega)];rfl
   rw [List.take_add_one,List.getElem?_eq_getElem hj,List.filter_append,List.filter_eq_self.2 hf];have:(l[j]==a)=true:=h1
   simp [this]) rfl
  refine ⟨k,w,e117 _ _ ?_,r2,r3⟩;rw [MS,ah,e,cond_neg (by simp),bh (by omega)];exact r1
 ·have hneg:bI (fun x=>x==a) l 0= -1:=by
   have hn:=(Bs (fun x:aT=>x==a) l 0).2 (fun x hx=>by simp;exact fun e=>hm (e▸hx));have key:∀(xs:List aT) (i:Nat),bI (fun x=>x==a) xs i<0→bI (fun x=>x==a) xs i= -1:=by
    intro xs
    induction xs with
    |nil=>intro i _;rfl
    |cons x xs ih=>
     intro i h;rw [bI] at h⊢;split
     ·rename_i hx;rw [if_pos hx] at h;omega
     ·rename_i hx;rw [if_neg hx] at h;exact ih (i+1) h
   exact key l 0 hn
  refine ⟨l.length,l,e117 _ _ ?_,Nat.le_refl _,?_⟩
  ·rw [MS,ah,hneg,cond_pos (by simp)]
  ·rw [List.take_length,List.filter_eq_self.2]
   intro x hx;simp;exact fun e=>hm (e▸hx)
theorem h79b {d:List af} (z:Sz d) {i:Nat} (hi:i<d.length) {t:af} (hst:t.aD.length≤1048576) (kq:t.aD.Nodup) {zV:List aT} {op:List (aT×Int)} {pre:aT→List aT} (hpre:∀y,(pre y).length≤1048576):
  ∀(xs:List aT) (k:Nat) (m:List (aT×Option (List aT))),t.aD.drop k=xs→Full m→(∀y,rowOf m y=pre y++(if y∈t.aD.take k then [t.Name] else []))→
  ∃m',Full m'∧(∀y,rowOf m' y=pre y++(if y∈t.aD then [t.Name] else []))∧∀r,ET d d.length (i+1:Nat) zV op m'=some r→
  tG d d.length i t.aD t.aD.length k zV t op m=some r:=by
 have hl:=z.len;intro xs
 induction xs with
 |nil=>
  intro k m h hF hm;have:=dM h;refine ⟨m,hF,fun y=>by rw [hm,List.take_of_length_le this],fun r hk=>SR _ _ _ _ _ _ _ _ _ _ ?_⟩;rw [aP h,cond_false,bh (by omega)];exact hk
 |cons x xs ih=>
  intro k m h hF hm;have hlt:=bL h;have hx:x∉t.aD.take k:=by
   have h1:=List.take_append_drop k t.aD;rw [h] at h1;rw [←h1,List.nodup_append] at kq;exact fun hm=>kq.2.2 x hm x (by simp) rfl
  have hd:t.aD.take (k+1)=t.aD.take k++[x]:=by
   rw [List.take_add_one,aW h];rfl
  obtain ⟨m',e1,e2⟩:=EX hF x (fun dZ jm=>check ((List.length dZ+List.length [t.Name]) *16≤140737488355328∧List.length dZ+List.length [t.Name]≤4611686018427387904) (nT (ec jm x (some (dZ++[t.Name]))) fun pX=>tG d d.length i t.aD t.aD.length (IntKind.wrap .i64 (k+1)) zV t op pX));have hrow:rowOf m x=pre x:=by rw [hm,if_neg hx,List.append_nil]
  obtain ⟨m2,a1,a2,a3⟩:=ih (k+1) (ec m x (some (pre x++[t.Name]))) (az h) (hF.put _ _) (fun y=>by
   rw [yO,hm,hd];by_cases e:y=x
   ·subst e;simp
   ·have:(y∈t.aD.take k++[x])↔y∈t.aD.take k:=by simp [e]
    simp only [e,if_false,this])
  refine ⟨m2,a1,a2,fun r hk=>SR _ _ _ _ _ _ _ _ _ _ ?_⟩;rw [aU h,cond_true,aL h,e1,hrow,cg _ (by have:=hpre x;omega) (by simp) (by omega),jJ,e2,aM h (by omega)];exact a3 r hk
theorem DY (a b:List af) (y:aT):dn (a++b) y=dn a y++dn b y:=by simp [dn]
theorem tR (d:List af) (y:aT):(dn d y).length≤d.length:=by
 unfold dn;rw [List.length_map];exact List.length_filter_le _ _
theorem h79a {d:List af} (z:Sz d) (vG:(cO d).Nodup) (Ec:∀t∈d,t.aD.Nodup):
  ∀(xs:List af) (i:Nat) (op:List (aT×Int)) (m:List (aT×Option (List aT))),d.drop i=xs→Full m→(∀y,rowOf m y=dn (d.take i) y)→(∀t∈d.take i,getM op t.Name=some (t.aD.length:Int))→
  ∃op' m',(∀y,(getM m' y).getD []=dn d y)∧(∀t∈d,getM op' t.Name=some (t.aD.length:Int))∧∀r,rP m' ((d.filter fun t=>t.aD.length==0).map (·.Name)) [] op'=some r→
  ET d d.length i (((d.take i).filter fun t=>t.aD.length==0).map (·.Name)) op m=some r:=by
 have hl:=z.len;intro xs
 induction xs with
 |nil=>
  intro i op m h hF hm hop;have hge:=dM h;rw [List.take_of_length_le hge] at hm hop⊢;obtain ⟨m',e1,e2,_⟩:=DQ hF (fun jm=>rP jm ((d.filter fun t=>t.aD.length==0).map (·.Name)) ([]:List (List UInt8)) op);refine ⟨op,m',fun y=>by rw [e2,hm],hop,fun r hk=>Wl _ _ _ _ _ _ ?_⟩;rw [aP h,cond_false,e1];exact hk
 |cons x xs ih=>
  intro i op m h hF hm hop;have hlt:=bL h;have hx:x∈d:=List.mem_of_getElem? (aW h);have hd:d.take (i+1)=d.take i++[x]:=by
   rw [List.take_add_one,aW h];rfl
  have hfl:(((d.take i).filter fun t=>t.aD.length==0).map (·.Name)).length≤d.length:=by
   rw [List.length_map];refine Nat.le_trans (List.length_filter_le _ _) ?_;simp;omega
  have hxn:∀t∈d.take i,t.Name≠x.Name:=by
   intro t ht e;have h1:cO d=cO (d.take i)++cO (d.drop i):=by rw [←List.map_append,List.take_append_drop]
   rw [h1,List.nodup_append] at vG;exact vG.2.2 t.Name (List.mem_map_of_mem ht) x.Name (by rw [h];simp) e
  obtain ⟨m',hF',hm',hgo⟩:=h79b z hlt (by have:=z.sup x hx;omega) (Ec x hx) (zV:=((d.take (i+1)).filter fun t=>t.aD.length==0).map (·.Name)) (op:=ec op x.Name (x.aD.length:Int)) (pre:=dn (d.take i)) (fun y=>by
   have:=tR (d.take i) y
   rw [List.length_take] at this;omega) _ 0 m rfl hF (fun y=>by rw [hm];simp)
  obtain ⟨op',m2,r1,r2,r3⟩:=ih (i+1) (ec op x.Name (x.aD.length:Int)) m' (az h) hF' (fun y=>by
   rw [hm',hd,DY];refine congrArg _ ?_;unfold dn
   by_cases e:y∈x.aD<;>simp [e]) (fun t ht=>by
   rw [hd] at ht;rcases List.mem_append.1 ht with ht|ht
   ·rw [zA (hxn t ht)];exact hop t ht
   ·simp only [List.mem_singleton] at ht;subst ht;exact pV _ _ _)
  refine ⟨op',m2,r1,r2,fun r hk=>Wl _ _ _ _ _ _ ?_⟩;have Rh:=hgo r (r3 r hk);rw [aU h,cond_true,aL h,jJ];rw [hd,List.filter_append,List.map_append] at Rh;by_cases h0:x.aD.length=0
  ·rw [cond_pos (by simpa using h0),cg _ (by omega) (by simp) (by omega)]
   have ef:(List.filter (fun t=>t.aD.length==0) [x]).map (·.Name)=[x.Name]:=by simp [h0]
   rw [ef] at Rh;exact Rh
  ·rw [cond_neg (by simpa using h0)]
   have hb:(x.aD.length==0)=false:=by simpa using h0
   have ef:(List.filter (fun t=>t.aD.length==0) [x]).map (·.Name)=[]:=by simp [List.filter_cons,hb]
   rw [ef,List.append_nil] at Rh;exact Rh
noncomputable def cnt (d:List af) (out:List aT) (x:aT):Nat:=((up d x).filter fun s=>decide (s∉out)).length
theorem Hx {d:List af} {out:List aT} {x:aT}:cnt d out x=0↔∀s∈up d x,s∈out:=by
 unfold cnt;rw [List.length_eq_zero_iff,List.filter_eq_nil_iff];simp
theorem HR {l:List aT} (hn:l.Nodup) {out:List aT} {a:aT} (ha:a∉out):(l.filter fun s=>decide (s∉out++[a])).length+(if a∈l then 1 else 0)=(l.filter fun s=>decide (s∉out)).length:=by
 induction l with
 |nil=>simp
 |cons x l ih=>
  have hn':=List.nodup_cons.1 hn;have:=ih hn'.2;by_cases e:x=a
  ·subst e
   have hx:x∉l:=hn'.1;rw [if_neg hx] at this;simp only [List.filter_cons];have h1:decide (x∉out++[x])=false:=by simp
   have h2:decide (x∉out)=true:=by simpa using ha
   rw [h1,h2];simp only [Bool.false_eq_true,if_false,if_true,List.length_cons,List.mem_cons,true_or];omega
  ·have hm:(a∈x::l)↔a∈l:=by
    simp only [List.mem_cons];exact ⟨fun h=>h.resolve_left fun h=>e h.symm, .inr⟩
   simp only [List.filter_cons,hm];have h1:decide (x∉out++[a])=decide (x∉out):=by
    rw [decide_eq_decide];simp [e]
   rw [h1];cases decide (x∉out) with
   |true=>simp only [if_true,List.length_cons];omega
   |false=>simp only [Bool.false_eq_true,if_false];exact this
theorem TJ {d:List af} (Ec:∀t∈d,t.aD.Nodup) (x:aT):(up d x).Nodup:=by
 unfold up;split
 ·rename_i t e;exact Ec t (List.mem_of_find?_eq_some e)
 ·simp
theorem EZ {d:List af} (z:Sz d) (x:aT):(up d x).length≤1048576:=by
 unfold up;split
 ·rename_i t e;exact z.sup t (List.mem_of_find?_eq_some e)
 ·simp
structure Ord (d:List af) (out zV:List aT) (op:List (aT×Int)):Prop where
 DF:AR d out
 nd:zV.Nodup
 ok:∀x∈zV,x∈cO d∧x∉out∧∀s∈up d x,s∈out
 all:∀x∈cO d,x∉out→(∀s∈up d x,s∈out)→x∈zV
 op:∀x∈cO d,getM op x=some (cnt d out x:Int)
theorem h79d {d:List af} (z:Sz d) (vG:(cO d).Nodup) {mb:List (aT×List aT)} {out:List aT} {L:List aT} (hLn:L.Nodup) (hLl:L.length≤d.length) (hLm:∀x∈L,x∈cO d) (rd0:List aT) (G4:rd0.length≤d.length) {old:aT→Nat} (hold:∀x∈L,old x=cnt d out x+1):
  ∀(xs:List aT) (k:Nat) (op:List (aT×Int)),L.drop k=xs→(∀x∈cO d,getM op x=some ((if x∈xs then old x else cnt d out x:Nat):Int))→
  ∃op',(∀x∈cO d,getM op' x=some (cnt d out x:Int))∧∀r,rP mb (rd0++L.filter fun x=>cnt d out x==0) out op'=some r→
  gM mb L L.length k (rd0++(L.take k).filter fun x=>cnt d out x==0) out op=some r:=by
 have hl:=z.len;intro xs
 induction xs with
 |nil=>
  intro k op h hop;have hge:=dM h;refine ⟨op,fun x hx=>by rw [hop x hx];simp,fun r hk=>SU _ _ _ _ _ _ _ ?_⟩;rw [aP h,cond_false,List.take_of_length_le hge];exact hk
 |cons x xs ih=>
  intro k op h hop;have hlt:=bL h;have hxL:x∈L:=List.mem_of_getElem? (aW h);have hx:=hLm x hxL;have hxs:x∉xs:=by
   have h1:=List.take_append_drop k L;rw [h] at h1;rw [←h1,List.nodup_append] at hLn;exact (List.nodup_cons.1 hLn.2.1).1
  have hd:L.take (k+1)=L.take k++[x]:=by
   rw [List.take_add_one,aW h];rfl
  have e0:getM op x=some ((cnt d out x+1:Nat):Int):=by rw [hop x hx,if_pos (by simp),hold x hxL]
  have xS:cnt d out x≤1048576:=by
   unfold cnt;exact Nat.le_trans (List.length_filter_le _ _) (EZ z x)
  have Rr:∀y∈cO d,getM (ec op x (cnt d out x:Int)) y=some ((if y∈xs then old y else cnt d out y:Nat):Int):=by
   intro y hy;rw [iM];by_cases e:y=x
   ·subst e;simp [hxs]
   ·rw [if_neg e,hop y hy]
    have:(y∈x::xs)↔y∈xs:=by simp [e]
    simp only [this]
  have hlen:(rd0++(L.take k).filter fun x=>cnt d out x==0).length≤4194304:=by
   rw [List.length_append];have:=List.length_filter_le (fun x=>cnt d out x==0) (L.take k);simp at this;omega
  have ew:IntKind.wrap .i64 (((cnt d out x+1:Nat):Int)-1)=(cnt d out x:Int):=by
   rw [eC (by omega) (by omega)];omega
  obtain ⟨op2,q1,q2⟩:=ih (k+1) _ (az h) Rr;refine ⟨op2,q1,fun r hk=>SU _ _ _ _ _ _ _ ?_⟩;have KN:=q2 r hk;rw [aU h,cond_true,aL h,dU e0,ew,jJ,dU (pV _ _ _),aM h (by omega)];rw [hd,List.filter_append] at KN;by_cases h0:cnt d out x=0
  ·rw [cond_pos (by rw [h0];rfl),cg _ (by omega) (by simp) (by omega)]
   have ef:List.filter (fun x=>cnt d out x==0) [x]=[x]:=by simp [h0]
   rw [ef,←List.append_assoc] at KN;exact KN
  ·rw [cond_neg (by
    have:((cnt d out x:Int)==0)=false:=by simp;omega
    exact this)]
   have ef:List.filter (fun x=>cnt d out x==0) [x]=[]:=by simp [h0]
   rw [ef,List.append_nil] at KN;exact KN
theorem h79c {d:List af} (z:Sz d) (vG:(cO d).Nodup) (Ec:∀t∈d,t.aD.Nodup) {mb:List (aT×List aT)} (hmb:∀y,(getM mb y).getD []=dn d y):
  ∀(n:Nat) (out zV:List aT) (op:List (aT×Int)),d.length-out.length=n→Ord d out zV op→∃o,AR d o∧(∀t∈d,t.Name∉o→∃s∈t.aD,s∉o)∧rP mb zV out op=some o:=by
 have hl:=z.len;intro n
 induction n with
 |zero=>
  intro out zV op hn I;have hlen:=I.DF.len;cases zV with
  |nil=>
   refine ⟨out,I.DF,fun t ht hno=> ?_,K0 _ _ _ _ (by rfl)⟩;apply Classical.byContradiction;intro hc
   have:=I.all t.Name (List.mem_map_of_mem ht) hno (fun s hs=>by
    rw [tI vG ht] at hs
    exact Classical.byContradiction fun h=>hc ⟨s,hs,h⟩)
   cases this
  |cons x zV=>
   exfalso;obtain ⟨h1,h2,_⟩:=I.ok x (by simp)
   have:(x::out).length≤(cO d).length:=dF (List.nodup_cons.2 ⟨h2,I.DF.nd⟩) (fun y hy=>by
    rcases List.mem_cons.1 hy with rfl|hy
    ·exact h1
    ·exact I.DF.sub y hy)
   simp at this;omega
 |succ n ih=>
  intro out zV op hn I;have hlen:=I.DF.len;cases hr:zV with
  |nil=>
   refine ⟨out,I.DF,fun t ht hno=> ?_,K0 _ _ _ _ (by rfl)⟩;apply Classical.byContradiction;intro hc
   have:=I.all t.Name (List.mem_map_of_mem ht) hno (fun s hs=>by
    rw [tI vG ht] at hs
    exact Classical.byContradiction fun h=>hc ⟨s,hs,h⟩)
   rw [hr] at this;cases this
  |cons y0 rdy0=>
   have hne:zV≠[]:=by rw [hr];simp
   rw [←hr];have hrl:zV.length≤d.length:=by
    have:=dF I.nd fun x hx=>(I.ok x hx).1
    simpa using this
   obtain ⟨nx,hnx,Zl⟩:=i116 zV (by omega) hne;obtain ⟨k,w,Zm,hkw,hw⟩:=i117 zV nx (by omega);obtain ⟨YM,hn2,hn3⟩:=I.ok nx hnx;have hT:AR d (out++[nx]):=by
    refine ⟨?_,?_,?_⟩
    ·rw [List.nodup_append]
     exact ⟨I.DF.nd,by simp,fun a ha b hb=>by simp only [List.mem_singleton] at hb;subst hb;exact fun e=>hn2 (e▸ha)⟩
    ·intro x hx
     rcases List.mem_append.1 hx with hx|hx
     ·exact I.DF.sub x hx
     ·simp only [List.mem_singleton] at hx;subst hx;exact YM
    ·intro i x hx
     by_cases hi:i<out.length
     ·rw [List.getElem?_append_left hi] at hx
      obtain ⟨u,hu,e1,h1⟩:=I.DF.pre i x hx;exact ⟨u,hu,e1,fun s hs=>by rw [List.take_append_of_le_length (by omega)];exact h1 s hs⟩
     ·have hi2:i=out.length:=by
       apply Classical.byContradiction;intro hc;rw [List.getElem?_eq_none (by simp;omega)] at hx;cases hx
      subst hi2;rw [List.getElem?_append_right (by omega),Nat.sub_self] at hx;simp only [List.getElem?_cons_zero,Option.some.injEq] at hx;subst hx;obtain ⟨t,ht,rfl⟩:=List.mem_map.1 YM;exact ⟨t,ht,rfl,fun s hs'=>by rw [List.take_left'];exact hn3 s (by rw [tI vG ht];exact hs');rfl⟩
   have Z1:∀x∈out,∀s∈up d x,s∈out:=by
    intro x hx s hs;obtain ⟨i,hi,e⟩:=List.mem_iff_getElem.1 hx;obtain ⟨u,hu,e1,h1⟩:=I.DF.pre i x (by rw [List.getElem?_eq_getElem hi,e]);rw [←e1,tI vG hu] at hs;exact List.mem_of_mem_take (h1 s hs)
   have hdn:∀x,x∈dn d nx↔x∈cO d∧nx∈up d x:=by
    intro x;constructor
    ·intro h;exact ⟨sD h,(FL vG (sD h)).2 h⟩
    ·intro h;exact (FL vG h.1).1 h.2
   have Z6:∀x,cnt d (out++[nx]) x+(if nx∈up d x then 1 else 0)=cnt d out x:=fun x=>HR (TJ Ec x) hn2
   have Z9:(dn d nx).Nodup:=by
    unfold dn;exact List.Nodup.sublist ((List.filter_sublist (l:=d)).map _) vG
   have hO:∀op',(∀x∈cO d,getM op' x=some (cnt d (out++[nx]) x:Int))→Ord d (out++[nx]) ((zV.filter fun x=> !(x==nx))++(dn d nx).filter fun x=>cnt d (out++[nx]) x==0) op':=by
    intro op' Rr;refine ⟨hT,?_,?_,?_,Rr⟩
    ·rw [List.nodup_append]
     refine ⟨I.nd.filter _,Z9.filter _,?_⟩;intro a ha b hb e;subst e;have h1:=(I.ok a (List.mem_filter.1 ha).1).2.2;have h2:=((hdn a).1 (List.mem_filter.1 hb).1).2;exact hn2 (h1 nx h2)
    ·intro x hx
     rcases List.mem_append.1 hx with hx|hx
     ·obtain ⟨h1,h2⟩:=List.mem_filter.1 hx
      obtain ⟨a1,a2,a3⟩:=I.ok x h1;refine ⟨a1,?_,fun s hs=>List.mem_append_left _ (a3 s hs)⟩;simp only [List.mem_append,List.mem_singleton,not_or];exact ⟨a2,by simpa using h2⟩
     ·obtain ⟨h1,h2⟩:=List.mem_filter.1 hx
      obtain ⟨a1,a2⟩:=(hdn x).1 h1;refine ⟨a1,?_,Hx.1 (by simpa using h2)⟩;simp only [List.mem_append,List.mem_singleton,not_or];exact ⟨fun h=>hn2 (Z1 x h nx a2),fun e=>hn2 (hn3 nx (e▸a2))⟩
    ·intro x hx hno hall
     simp only [List.mem_append,List.mem_singleton,not_or] at hno;by_cases hup:nx∈up d x
     ·refine List.mem_append_right _ (List.mem_filter.2 ⟨(hdn x).2 ⟨hx,hup⟩,?_⟩)
      simpa using Hx.2 hall
     ·refine List.mem_append_left _ (List.mem_filter.2 ⟨I.all x hx hno.1 (fun s hs=> ?_),by simpa using hno.2⟩)
      rcases List.mem_append.1 (hall s hs) with h|h
      ·exact h
      ·simp only [List.mem_singleton] at h;subst h;exact absurd hs hup
   obtain ⟨op',Rr,hres⟩:∃op',(∀x∈cO d,getM op' x=some (cnt d (out++[nx]) x:Int))∧∀r,rP mb ((zV.filter fun x=> !(x==nx))++(dn d nx).filter fun x=>cnt d (out++[nx]) x==0) (out++[nx]) op'=some r→rP mb zV out op=some r:=by
    have hdl:=tR d nx;have hfl:(zV.filter fun x=> !(x==nx)).length≤d.length:=Nat.le_trans (List.length_filter_le _ _) hrl
    obtain ⟨op',q1,q2⟩:=h79d z vG (mb:=mb) (out:=out++[nx]) (L:=dn d nx) Z9 hdl (fun x hx=>sD hx) (zV.filter fun x=> !(x==nx)) hfl (old:=cnt d out) (fun x hx=>by
     have:=Z6 x
     rw [if_pos ((hdn x).1 hx).2] at this;omega) (dn d nx) 0 op rfl (fun x hx=>by
     rw [I.op x hx];by_cases hm:x∈dn d nx
     ·rw [if_pos hm]
     ·rw [if_neg hm]
      have:=Z6 x;rw [if_neg (fun h=>hm ((hdn x).2 ⟨hx,h⟩))] at this
      rw [←this];rfl)
    refine ⟨op',q1,fun r hr'=>K0 _ _ _ _ ?_⟩;have hq:=q2 r hr';rw [cond_pos (by simp;exact List.length_pos_iff.2 hne),Zl,ah,Zm,jN,aV (by omega),cg _ (by omega) (by simp) (by omega),hw];rw [OX (fun ow=>gM mb ow (List.length ow:Int) 0 (zV.filter fun x=> !(x==nx)) (out++[nx]) op) rfl,hmb];simpa using hq
   obtain ⟨o,r1,r2,r3⟩:=ih (out++[nx]) _ op' (by simp;omega) (hO op' Rr);exact ⟨o,r1,r2,hres o r3⟩
theorem i79 {d:List af} (z:Sz d) (vG:(cO d).Nodup) (Ec:∀t∈d,t.aD.Nodup):∃o,AR d o∧(∀t∈d,t.Name∉o→∃s∈t.aD,s∉o)∧f79 d=some o:=by
 obtain ⟨op,m,h1,h2,h3⟩:=h79a z vG Ec d 0 [] [] rfl Full.nil (fun y=>by rw [yN];rfl) (fun t ht=>by cases ht);have I:Ord d [] ((d.filter fun t=>t.aD.length==0).map (·.Name)) op:=by
  refine ⟨⟨by simp,fun x hx=>(by cases hx),fun i x hx=>(by simp at hx)⟩,?_,?_,?_,?_⟩
  ·exact List.Nodup.sublist ((List.filter_sublist (l:=d)).map _) vG
  ·intro x hx
   obtain ⟨t,ht,rfl⟩:=List.mem_map.1 hx;obtain ⟨h4,h5⟩:=List.mem_filter.1 ht;refine ⟨List.mem_map_of_mem h4,by simp,?_⟩;rw [tI vG h4];have:t.aD=[]:=by simpa using h5
   rw [this];simp
  ·intro x hx _ hs
   obtain ⟨t,ht,rfl⟩:=List.mem_map.1 hx;rw [tI vG ht] at hs;refine List.mem_map_of_mem (List.mem_filter.2 ⟨ht,?_⟩);cases e:t.aD with
   |nil=>rfl
   |cons s l=>exact absurd (hs s (by rw [e];simp)) (by simp)
  ·intro x hx
   obtain ⟨t,ht,rfl⟩:=List.mem_map.1 hx;rw [h2 t ht,cnt,tI vG ht];have:(t.aD.filter fun s=>decide (s∉([]:List aT)))=t.aD:=by
    rw [List.filter_eq_self];simp
   rw [this]
 obtain ⟨o,r1,r2,r3⟩:=h79c z vG Ec h1 _ [] _ op rfl I;exact ⟨o,r1,r2,e79 _ (h3 o r3)⟩
theorem h39 {d:List af} (z:Sz d) (h1:kD [] d=0) (h2:kZ (cO d) d=0):∀(xs:List af) (i n:Nat),d.drop i=xs→n≤i→
  zd d n d d.length i=some (open Classical in if n+kQ xs≠1 then 1 else if qK d then 0 else 6):=by
 have hl:=z.len;intro xs
 induction xs with
 |nil=>
  intro i n h hn;refine SK _ _ _ _ _ ?_;have kq:=((nX d []).1 h1).2.1;have Rc:∀t∈d,∀s∈t.aD,s∈cO d:=fun t ht=>((jX _ d).1 h2 t ht).1
  obtain ⟨out,b1,b2,b3⟩:=i79 z kq (fun t ht=>((jX _ d).1 h2 t ht).2);rw [aP h,cond_false];have e0:n+kQ []=n:=rfl;rw [e0];by_cases YM:n=1
  ·rw [cond_neg (by simp;omega),b3,ah,if_neg (by omega)]
   by_cases hr:qK d
   ·have hfull:=sK Rc b2 hr
    have:(cO d).length≤out.length:=dF kq fun x hx=>by
     obtain ⟨t,ht,rfl⟩:=List.mem_map.1 hx;exact hfull t ht
    simp only [List.length_map] at this;rw [cond_neg (by simp;omega),if_pos hr]
   ·have:out.length<d.length:=by
     apply Classical.byContradiction;intro hc;apply hr;refine s6 kq b1 fun t ht=> ?_
     exact BN b1.nd b1.sub (by simp;omega) _ (List.mem_map_of_mem ht)
    rw [cond_pos (by simp;omega),if_neg hr]
  ·rw [cond_pos (by simp;omega),if_pos YM]
 |cons x xs ih=>
  intro i n h hn;refine SK _ _ _ _ _ ?_;have hlt:=bL h;rw [aU h,cond_true,aL h,aM h (by omega),bh (by omega)];by_cases hx:x.aD.length=0
  ·rw [cond_pos (by simpa using hx),ih (i+1) (n+1) (az h) (by omega)]
   have:kQ (x::xs)=kQ xs+1:=by simp [kQ,List.filter_cons,hx]
   rw [this,show n+1+kQ xs=n+(kQ xs+1) by omega]
  ·rw [cond_neg (by simpa using hx),ih (i+1) n (az h) (by omega)]
   have:kQ (x::xs)=kQ xs:=by
    have:(x.aD.length==0)=false:=by simpa using hx
    simp [kQ,List.filter_cons,this]
   rw [this]
theorem i39 {d:List af} (z:Sz d):f39 d=some (tP d):=by
 have hl:=z.len;refine e39 _ ?_;rw [i76,ah,i77 d (by omega),ah,i78 d (by omega) (fun t ht=>by have:=z.sup t ht;omega),ah];unfold tP;by_cases h0:uT d=true
 ·rw [if_pos h0,h0];rfl
 ·have h0':uT d=false:=by simpa using h0
  rw [if_neg h0,h0',cond_false];by_cases h1:kD [] d=0
  ·by_cases h2:kZ (cO d) d=0
   ·have:=h39 z h1 h2 d 0 0 rfl (by omega)
    rw [h1,h2,if_neg (by simp),if_neg (by simp)];simpa using this
   ·rw [if_pos h2,h1,if_neg (by simp)]
    rw [cond_neg (by simp),cond_pos (by simpa using h2)]
  ·rw [if_pos h1,cond_pos (by simpa using h1)]
end Go.Proofs.YtmidjldjkbljjaaGreatDoor.cl
