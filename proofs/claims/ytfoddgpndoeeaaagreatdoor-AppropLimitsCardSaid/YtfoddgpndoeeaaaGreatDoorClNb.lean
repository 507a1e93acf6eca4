/- The Closure laws. -/
import Derived.Test.YtfoddgpndoeeaaaGreatDoorClJ
import Derived.Lib.DecodeN
set_option linter.unusedVariables false
set_option linter.unusedSimpArgs false
set_option linter.unusedSectionVars false
namespace Go.AM
section
variable {K V:Type}
theorem uW (k:K):gY ([]:List (K×V)) k=none:=by simp [gY]
theorem l7 (x:K×V) (l:List (K×V)) (k:K):gY (x::l) k=open Classical in if k=x.1 then some 0 else (gY l k).map (· +1):=by
 unfold gY;rw [List.findIdx?_cons];by_cases h:k=x.1<;>simp [h]
theorem eO (k:K):getM ([]:List (K×V)) k=none:=by simp [getM,uW]
theorem eE (x:K×V) (l:List (K×V)) (k:K):getM (x::l) k=open Classical in if k=x.1 then some x.2 else getM l k:=by
 unfold getM;rw [l7];by_cases h:k=x.1
 ·simp [h]
 ·simp only [h,if_false]
  cases gY l k<;>simp
theorem zT (k:K) (v:V):dB [] k v=[(k,v)]:=by simp [dB,uW]
theorem wj (x:K×V) (l:List (K×V)) (k:K) (v:V):dB (x::l) k v=open Classical in if k=x.1 then (k,v)::l else x::dB l k v:=by
 unfold dB;rw [l7];by_cases h:k=x.1
 ·simp [h]
 ·simp only [h,if_false]
  cases gY l k<;>simp
theorem ga (k k':K) (v:V):∀l:List (K×V),getM (dB l k v) k'=open Classical in if k'=k then some v else getM l k':=by
 intro l
 induction l with
 |nil=>rw [zT,eE,eO]
 |cons x l ih=>
  rw [wj];by_cases h:k=x.1
  ·rw [if_pos h,eE,eE]
   by_cases h2:k'=k
   ·simp [h2]
   ·have:¬k'=x.1:=fun e=>h2 (by rw [e,h])
    simp [h2,this]
  ·rw [if_neg h,eE,ih,eE]
   by_cases h2:k'=x.1
   ·have:¬k'=k:=fun e=>h (by rw [←e,h2])
    simp [h2,this];intro e;exact absurd e (fun e=>h e.symm)
   ·simp [h2]
theorem nw (k:K) (v:V) (l:List (K×V)):getM (dB l k v) k=some v:=by rw [ga];simp
theorem xg {k k':K} (h:k'≠k) (v:V) (l:List (K×V)):getM (dB l k v) k'=getM l k':=by rw [ga,if_neg h]
theorem xI (k:K):∀l:List (K×V),(gY l k).isSome=(getM l k).isSome:=by
 intro l
 induction l with
 |nil=>rw [uW,eO];rfl
 |cons x l ih=>
  rw [l7,eE];by_cases h:k=x.1
  ·simp [h]
  ·simp [h,ih]
variable {R:Type}
theorem dz {l:List (K×V)} {k:K} {v:V} (h:getM l k=some v) (f:V→Option R) (z:Option R):gj l k f z=f v:=by unfold gj;rw [h]
theorem gz {l:List (K×V)} {k:K} (h:getM l k=none) (f:V→Option R) (z:Option R):gj l k f z=z:=by unfold gj;rw [h]
theorem gT {α:Type} (x:α) (k:α→Option R):jv x k=k x:=rfl
end
end Go.AM
namespace Go.Proofs.YtfoddgpndoeeaaaGreatDoor.cl
open Go Go.AM
theorem C1 {α:Type} (p:α→Bool):∀(xs:List α) (i:Nat),decide (bX p xs i≥0)=xs.any p:=by
 intro xs
 induction xs with
 |nil=>intro i;rfl
 |cons x xs ih=>
  intro i;rw [bX,List.any_cons];cases h:p x with
  |true=>simp
  |false=>rw [←ih (i+1)];simp
theorem decode_ascii {s:aR} {p:Nat} {c:UInt8} (h:s[p]? =some c) (hc:c.toNat<128):Utf8.decode ⟨s.toArray⟩ p=(c.toNat,1):=by
 rw [Lib.decode_at];have hp:=(List.getElem?_eq_some_iff.1 h).1;have e:(ByteArray.get! ⟨s.toArray⟩ p)=c:=by
  show (s.toArray)[p]! =c;rw [getElem!_pos s.toArray p (by simpa using hp)];simpa using (List.getElem?_eq_some_iff.1 h).2
 rw [e,Lib.decodeN,if_pos hc]
theorem wZ {s:aR} {p:Nat} {c:UInt8} (h:s[p]? =some c) (hc:128≤c.toNat):128≤(Utf8.decode ⟨s.toArray⟩ p).1:=by
 rw [Lib.decode_at];have hp:=(List.getElem?_eq_some_iff.1 h).1;have e:(ByteArray.get! ⟨s.toArray⟩ p)=c:=by
  show (s.toArray)[p]! =c;rw [getElem!_pos s.toArray p (by simpa using hp)];simpa using (List.getElem?_eq_some_iff.1 h).2
 rw [e,Lib.decodeN,if_neg (by omega)]
 repeat' split
 all_goals first|(simp only;omega)|omega
theorem i143 (c:Int):f143 c=some (decide (97≤c)&&decide (c≤122)):=by
 refine e143 _ ?_;by_cases h:97≤c
 ·rw [cond_pos (by simpa using h)];simp [h]
 ·rw [cond_neg (by simpa using h)];simp [h]
theorem i161 (c:Int):f161 c=some (decide (48≤c)&&decide (c≤57)):=by
 refine e161 _ ?_;by_cases h:48≤c
 ·rw [cond_pos (by simpa using h)];simp [h]
 ·rw [cond_neg (by simpa using h)];simp [h]
def V2 (c:UInt8):Bool:=eZ c||c.toNat==45||lowerB c
def B1 (p:Nat) (c:UInt8):Bool:=if p=0 then lowerB c else V2 c
def oR:Nat→aR→Bool
 |_,[]=>true
 |p,c::l=>B1 p c&&oR (p+1) l
theorem h142 (s:aR):∀(xs:aR) (p:Nat),s.drop p=xs→wE s p=some (oR p xs):=by
 intro xs
 induction xs with
 |nil=>
  intro p h;refine NV _ _ ?_;have:=eG h;rw [cond_neg (by cases hb:Nat.blt p s.length with|false=>rfl|true=>simp [Nat.blt_eq] at hb;omega)];rfl
 |cons c xs ih=>
  intro p h;refine NV _ _ ?_;have hp:=cW h;have iE:=bU h;rw [cond_pos (by simp [Nat.blt_eq];omega),i143,aj,i161,aj];by_cases hc:c.toNat<128
  ·rw [decode_ascii iE hc]
   simp only [ih (p+1) (bf h)];rw [oR];have e1:(decide (97≤(c.toNat:Int))&&decide ((c.toNat:Int)≤122))=lowerB c:=by
    unfold lowerB;rw [Bool.eq_iff_iff];simp;omega
   have e2:(decide (48≤(c.toNat:Int))&&decide ((c.toNat:Int)≤57))=eZ c:=by
    unfold eZ;rw [Bool.eq_iff_iff];simp;omega
   rw [e1,e2];unfold B1 V2;cases hl:lowerB c with
   |true=>simp
   |false=>
    rw [Bool.not_false,cond_true];by_cases h0:p=0
    ·subst h0;simp
    ·rw [cond_neg (by simp;omega),if_neg h0]
     cases hd:eZ c with
     |true=>simp
     |false=>
      rw [Bool.not_false,cond_true];by_cases h45:c.toNat=45
      ·rw [cond_neg (by simp;omega)];simp [h45]
      ·rw [cond_pos (by simp;omega)];simp [h45]
  ·have hw:=wZ iE (by omega)
   have e1:(decide (97≤((Utf8.decode ⟨s.toArray⟩ p).1:Int))&&decide (((Utf8.decode ⟨s.toArray⟩ p).1:Int)≤122))=false:=by simp;omega
   have e2:(decide (48≤((Utf8.decode ⟨s.toArray⟩ p).1:Int))&&decide (((Utf8.decode ⟨s.toArray⟩ p).1:Int)≤57))=false:=by simp;omega
   have e3:B1 p c=false:=by
    unfold B1 V2 lowerB eZ;split<;>simp<;>omega
   rw [oR,e3,Bool.false_and,e1,e2,Bool.not_false,cond_true];by_cases h0:p=0
   ·subst h0;rw [cond_pos (by simp)]
   ·rw [cond_neg (by simp;omega),cond_true,cond_pos (by simp;omega)]
theorem Qc:∀(xs:aR) (p:Nat),0<p→oR p xs=xs.all V2:=by
 intro xs
 induction xs with
 |nil=>intro p _;rfl
 |cons c xs ih=>
  intro p hp;rw [oR,ih (p+1) (by omega),List.all_cons,B1,if_neg (by omega)]
theorem i115 (s:aR):f115 s=some (isName s):=by
 refine e115 _ ?_;have:f142 s=some (isName s):=by
  refine e142 _ ?_;cases s with
  |nil=>rfl
  |cons c l=>
   rw [cond_neg (by simp;omega)];by_cases h2:(c::l).length≤32
   ·rw [cond_neg (by simp at h2⊢;omega)]
    have:=h142 (c::l) (c::l) 0 rfl;rw [this,oR,Qc _ _ (by omega)];refine congrArg some ?_;unfold isName B1;simp only [if_true,List.getD_cons_zero,List.all_cons];have h1:decide (1≤(c::l).length)=true:=by simp
    have FA:decide ((c::l).length≤32)=true:=by simpa using h2
    rw [h1,FA];show _=(_&&((eZ c||c.toNat==45||lowerB c)&&l.all V2))
    cases hl:lowerB c with
    |true=>
     have hd:eZ c=false:=by
      unfold lowerB at hl;unfold eZ;simp at hl⊢;omega
     have h45:(c.toNat==45)=false:=by
      unfold lowerB at hl;simp at hl⊢;omega
     simp [hd,h45]
    |false=>cases eZ c<;>cases (c.toNat==45)<;>simp
   ·rw [cond_pos (by simp at h2⊢;omega)]
    have:decide ((c::l).length≤32)=false:=by simpa using h2
    unfold isName;rw [this];simp
 rw [this];rfl
theorem h141 (d:List af) (hl:d.length≤1073741824):∀(xs:List af) (i:Nat),d.drop i=xs→Aq d d.length i=some (bX (fun t=>decide (t.aA.length>256)||decide (t.bT.length>256)) xs i):=by
 intro xs
 induction xs with
 |nil=>intro i h;refine NU _ _ _ ?_;rw [bS h];rfl
 |cons x xs ih=>
  intro i h;refine NU _ _ _ ?_;have h114:f114 x=some (decide (x.aA.length>256)||decide (x.bT.length>256)):=by
   refine e114 _ ?_;by_cases h1:x.aA.length>256
   ·rw [cond_pos (by simp;omega)];simp [h1]
   ·rw [cond_neg (by simp;omega)]
    have:decide (x.aA.length>256)=false:=by simpa using h1
    rw [this,Bool.false_or]
    congr 1;rw [decide_eq_decide];omega
  rw [bR h,cond_true,bW h,h114,aj,bB h hl,ih (i+1) (bf h),bX];cases (decide (x.aA.length>256)||decide (x.bT.length>256))<;>rfl
theorem i76 (d:List af):f76 d=some (EJ d):=by
 refine e76 _ ?_;by_cases h:d.length>256
 ·rw [cond_pos (by simp;omega)];simp [EJ,h]
 ·rw [cond_neg (by simp;omega)]
  have h113:f113 d=some (d.any fun t=>decide (t.aA.length>256)||decide (t.bT.length>256)):=by
   refine e113 _ ?_;have:f141 d=_:=e141 _ (h141 d (by omega) d 0 rfl);rw [this,aj,C1]
  rw [h113];have e:decide (d.length>256)=false:=by simpa using h
  rw [EJ,e,Bool.false_or];rfl
theorem h77 (d:List af) (hl:d.length≤1073741824):∀(xs:List af) (i:Nat) (m:List (aR×Bool)) (seen:List aR),d.drop i=xs→(∀x,getM m x=if x∈seen then some true else none)→Cl d d.length i m=some (mT seen xs):=by
 intro xs
 induction xs with
 |nil=>intro i m seen h hm;refine RQ _ _ _ _ ?_;rw [bS h];rfl
 |cons x xs ih=>
  intro i m seen h hm;refine RQ _ _ _ _ ?_;rw [bR h,cond_true,bW h,i115,aj,mT,bB h hl];cases hn:isName x.Name with
  |false=>rfl
  |true=>
   rw [Bool.not_true,cond_false];by_cases hs:x.Name∈seen
   ·rw [dz (v:=true) (by rw [hm,if_pos hs])]
    simp [hs]
   ·rw [gz (by rw [hm,if_neg hs]),gT,ih (i+1) _ (seen++[x.Name]) (bf h) ?_]
    ·simp [hs]
    ·intro y
     rw [ga,hm];by_cases e:y=x.Name
     ·simp [e]
     ·simp [e]
theorem i77 (d:List af) (hl:d.length≤1073741824):f77 d=some (mT [] d):=e77 _ (h77 d hl d 0 [] [] rfl (fun x=>by rw [eO];simp))
theorem h75 (d:List af) (hl:d.length≤1073741824):∀(xs:List af) (i:Nat) (m:List (aR×List aR)),d.drop i=xs→GJ d d.length i m=some (xs.foldl (fun m t=>dB m t.Name t.aA) m):=by
 intro xs
 induction xs with
 |nil=>intro i m h;refine RP _ _ _ _ ?_;rw [bS h];rfl
 |cons x xs ih=>
  intro i m h;refine RP _ _ _ _ ?_;rw [bR h,cond_true,bW h,gT,bB h hl,ih (i+1) _ (bf h)];rfl
noncomputable def Am (d:List af):List (aR×List aR):=d.foldl (fun m t=>dB m t.Name t.aA) []
theorem i75 (d:List af) (hl:d.length≤1073741824):f75 d=some (Am d):=e75 _ (h75 d hl d 0 [] rfl)
theorem BD:∀(d:List af) (m:List (aR×List aR)) (x:aR),(x∉cU d→getM (d.foldl (fun m t=>dB m t.Name t.aA) m) x=getM m x)∧(x∈cU d→∃t∈d,t.Name=x∧getM (d.foldl (fun m t=>dB m t.Name t.aA) m) x=some t.aA):=by
 intro d
 induction d with
 |nil=>intro m x;exact ⟨fun _=>rfl,fun h=>by cases h⟩
 |cons t d ih=>
  intro m x;obtain ⟨h1,h2⟩:=ih (dB m t.Name t.aA) x;constructor
  ·intro hx
   simp only [List.map_cons,List.mem_cons,not_or] at hx;rw [List.foldl_cons,h1 hx.2,xg hx.1]
  ·intro hx
   by_cases hd:x∈cU d
   ·obtain ⟨u,hu,e1,e2⟩:=h2 hd
    exact ⟨u,by simp [hu],e1,e2⟩
   ·have:x=t.Name:=by simpa [hd] using hx
    subst this;exact ⟨t,by simp,rfl,by rw [List.foldl_cons,h1 hd,nw]⟩
theorem L0 {d:List af} {x:aR} (h:x∉cU d):getM (Am d) x=none:=by
 rw [Am,(BD d [] x).1 h,eO]
theorem wA {d:List af} {x:aR} (h:x∈cU d):∃t∈d,t.Name=x∧getM (Am d) x=some t.aA:=(BD d [] x).2 h
theorem QU {d:List af} (hn:(cU d).Nodup) {x:aR} (h:x∈cU d):getM (Am d) x=some (up d x):=by
 obtain ⟨t,ht,e,e2⟩:=wA h;rw [e2,←e,sY hn ht]
theorem h125 (l:List aR) (s:aR) (hl:l.length≤1073741824):∀(xs:List aR) (i:Nat),l.drop i=xs→Ao l s l.length i=some (bX (fun x=>s==x) xs i):=by
 intro xs
 induction xs with
 |nil=>intro i h;refine NS _ _ _ _ ?_;rw [bS h];rfl
 |cons x xs ih=>
  intro i h;refine NS _ _ _ _ ?_;rw [bR h,cond_true,bW h,bB h hl,ih (i+1) (bf h),bX];cases s==x<;>rfl
theorem i92 (l:List aR) (s:aR) (hl:l.length≤1073741824):f92 l s=some (decide (s∈l)):=by
 refine e92 _ _ ?_;have:f125 l s=_:=e125 _ _ (h125 l s hl l 0 rfl);rw [this,aj,C1]
 congr 1
 rw [Bool.eq_iff_iff];simp
theorem h78b (d:List af) (i:Nat) (hi:i<d.length) (hl:d.length≤1073741824) (t:af) (Md:t.aA.length≤1073741824) {r:Int} (hr:Cm (Am d) d d.length (i+1:Nat)=some r):∀(xs:List aR) (k:Nat),t.aA.drop k=xs→
  GK (Am d) d d.length i t.aA t.aA.length k t=some (if QN (cU d) (t.aA.take k) xs=0 then r else QN (cU d) (t.aA.take k) xs):=by
 intro xs
 induction xs with
 |nil=>
  intro k h;refine RS _ _ _ _ _ _ _ _ ?_;rw [bS h,cond_false,cg (by omega),hr];rfl
 |cons x xs ih=>
  intro k h;refine RS _ _ _ _ _ _ _ _ ?_;have hlt:=cW h;have hd:t.aA.take (k+1)=t.aA.take k++[x]:=by
   rw [List.take_add_one,bU h];rfl
  rw [bR h,cond_true,bW h,QN];by_cases hm:x∈cU d
  ·obtain ⟨u,_,_,e⟩:=wA hm
   rw [dz e,JS (by omega),i92 _ _ (by simp;omega),aj,bB h Md,ih (k+1) (bf h),hd];have e:List.drop 0 (List.take (Int.toNat (k:Int)) t.aA)=t.aA.take k:=by simp
   rw [e];by_cases h2:x∈t.aA.take k
   ·rw [cond_pos (by simpa using h2)];simp only [hm,not_true_eq_false,if_false,h2,if_true];rfl
   ·rw [cond_neg (by simpa using h2)];simp only [hm,not_true_eq_false,if_false,h2]
  ·rw [gz (L0 hm)];simp only [hm,not_false_eq_true,if_true];rfl
theorem h78 (d:List af) (hl:d.length≤1073741824) (hs:∀t∈d,t.aA.length≤1073741824):∀(xs:List af) (i:Nat),d.drop i=xs→Cm (Am d) d d.length i=some (mY (cU d) xs):=by
 intro xs
 induction xs with
 |nil=>intro i h;refine RR _ _ _ _ ?_;rw [bS h];rfl
 |cons x xs ih=>
  intro i h;refine RR _ _ _ _ ?_;rw [bR h,cond_true,bW h];exact h78b d i (cW h) hl x (hs x (List.mem_of_getElem? (bU h))) (ih (i+1) (bf h)) _ 0 rfl
theorem i78 (d:List af) (hl:d.length≤1073741824) (hs:∀t∈d,t.aA.length≤1073741824):f78 d=some (mY (cU d) d):=by
 refine e78 _ ?_;rw [i75 d hl,aj];exact h78 d hl hs d 0 rfl
end Go.Proofs.YtfoddgpndoeeaaaGreatDoor.cl
set_option linter.unusedVariables false
set_option linter.unusedSimpArgs false
set_option linter.unusedSectionVars false
namespace Go.AM
section
variable {K V:Type}
noncomputable def rowOf (l:List (K×Option (List V))) (key:K):List V:=match getM l key with
 |some (some xs)=>xs
 |_=>[]
def Full (l:List (K×Option (List V))):Prop:=∀p∈l,∃v,p.2=some v
theorem Full.nil:Full ([]:List (K×Option (List V))):=fun p h=>by cases h
theorem OF {k:K} {v:V} {p:K×V}:∀{l:List (K×V)},p∈dB l k v→p=(k,v)∨p∈l:=by
 intro l
 induction l with
 |nil=>intro h;rw [zT] at h;simp at h;exact .inl h
 |cons x l ih=>
  intro h;rw [wj] at h;split at h
  ·rcases List.mem_cons.1 h with h|h
   ·exact .inl h
   ·exact .inr (by simp [h])
  ·rcases List.mem_cons.1 h with h|h
   ·exact .inr (by simp [h])
   ·rcases ih h with h|h
    ·exact .inl h
    ·exact .inr (by simp [h])
theorem Full.put {l:List (K×Option (List V))} (h:Full l) (k:K) (xs:List V):Full (dB l k (some xs)):=by
 intro p hp;rcases OF hp with rfl|hp
 ·exact ⟨xs,rfl⟩
 ·exact h p hp
theorem Cr {R:Type} {l:List (K×Option (List V))} (h:Full l) (key:K) (k:List V→List (K×Option (List V))→Option R):∃m,Cq l key k=k (rowOf l key) m∧∀v,dB m key v=dB l key v:=by
 unfold Cq rowOf getM;cases e:gY l key with
 |none=>exact ⟨l,rfl,fun v=>rfl⟩
 |some i=>
  obtain ⟨hi,hk⟩:=uV e;cases e2:l[i] with
  |mk q o=>
   obtain ⟨xs,hxs⟩:=h l[i] (List.getElem_mem hi);rw [e2] at hxs hk;simp only at hxs hk;subst hxs hk;refine ⟨l.set i (q,none),?_,?_⟩
   ·simp [List.getElem?_eq_getElem hi,e2]
   ·intro v
    have hp:gY (l.set i (q,none)) q=some i:=by
     have hkeys:(l.set i (q,none)).map (·.1)=l.map (·.1):=by
      rw [List.map_set];apply List.ext_getElem
      ·simp
      ·intro j h1 h2
       rw [List.getElem_set];split
       ·rename_i hj;subst hj;simp [e2]
       ·rfl
     have:∀(a b:List (K×Option (List V))),a.map (·.1)=b.map (·.1)→∀k,gY a k=gY b k:=by
      intro a
      induction a with
      |nil=>intro b hb k;cases b with
       |nil=>rfl
       |cons y b=>simp at hb
      |cons x a ih=>intro b hb k;cases b with
       |nil=>simp at hb
       |cons y b=>
        simp only [List.map_cons,List.cons.injEq] at hb;rw [l7,l7,hb.1,ih b hb.2]
     rw [this _ _ hkeys,e]
    unfold dB;rw [hp,e];simp
theorem wz (l:List (K×Option (List V))) (k k':K) (xs:List V):rowOf (dB l k (some xs)) k'=open Classical in if k'=k then xs else rowOf l k':=by
 unfold rowOf;rw [ga];by_cases h:k'=k<;>simp [h]
theorem wv (k:K):rowOf ([]:List (K×Option (List V))) k=[]:=by unfold rowOf;rw [eO]
theorem KJ:∀{l:List (K×Option (List V))},Full l→∃m,allM l=some m∧(∀k,(getM m k).getD []=rowOf l k)∧∀k,(getM m k).isSome=(getM l k).isSome:=by
 intro l
 induction l with
 |nil=>intro _;exact ⟨[],rfl,fun k=>by rw [eO,wv];rfl,fun k=>by rw [eO,eO];rfl⟩
 |cons x l ih=>
  intro h;obtain ⟨q,o⟩:=x;obtain ⟨xs,hxs⟩:=h (q,o) (by simp);simp only at hxs;subst hxs;obtain ⟨m,hm,h1,h2⟩:=ih fun p hp=>h p (by simp [hp])
  refine ⟨(q,xs)::m,by simp [allM,hm],fun k=> ?_,fun k=> ?_⟩
  ·have:=h1 k
   unfold rowOf at this⊢;rw [eE,eE];by_cases e:k=q
   ·simp [e]
   ·simp only [e,if_false];exact this
  ·rw [eE,eE]
   by_cases e:k=q
   ·simp [e]
   ·simp only [e,if_false];exact h2 k
theorem Bs {R:Type} {l:List (K×Option (List V))} (h:Full l) (k:List (K×List V)→Option R):∃m,KK l k=k m∧(∀x,(getM m x).getD []=rowOf l x)∧∀x,(getM m x).isSome=(getM l x).isSome:=by
 obtain ⟨m,hm,h1,h2⟩:=KJ h;exact ⟨m,by unfold KK;rw [hm],h1,h2⟩
theorem Ls {R:Type} {m:List (K×List V)} {x:K} (f:List V→Option R) {z:Option R} (hz:z=f []):gj m x f z=f ((getM m x).getD []):=by
 unfold gj;cases getM m x with
 |none=>exact hz
 |some v=>rfl
end
end Go.AM
namespace Go.Proofs.YtfoddgpndoeeaaaGreatDoor.cl
open Go Go.AM
theorem h116 (l:List aR) (hl:l.length≤1073741824):∀(xs:List aR) (i:Nat) (m:aR),l.drop i=xs→m∈l→∃r∈l,Ee l m i=some r:=by
 intro xs
 induction xs with
 |nil=>intro i m h hm;exact ⟨m,hm,NQ _ _ _ (by rw [bS h];rfl)⟩
 |cons x xs ih=>
  intro i m h hm;have hx:x∈l:=List.mem_of_getElem? (bU h);obtain ⟨r,hr,e⟩:=ih (i+1) (bif Op.bytesLess m x||m==x then m else x) (bf h) (by cases (Op.bytesLess m x||m==x)<;>simp [hm,hx]);refine ⟨r,hr,NQ _ _ _ ?_⟩;rw [bR h,cond_true,bW h,bB h hl];exact e
theorem i116 (l:List aR) (hl:l.length≤1073741824) (hne:l≠[]):∃r∈l,f116 l=some r:=by
 have hpos:0<l.length:=List.length_pos_iff.2 hne;obtain ⟨r,hr,e⟩:=h116 l hl _ 1 l[0] rfl (List.getElem_mem hpos);refine ⟨r,hr,e116 _ ?_⟩;rw [cond_neg (by simp;omega),show (0:Int)=((0:Nat):Int) from rfl,fR hpos];exact e
theorem UU (l:List aR) (a:aR) (hl:l.length≤1073741824):∀(xs:List aR) (i:Nat),l.drop i=xs→vl l a l.length i=some (bX (fun x=>x==a) xs i):=by
 intro xs
 induction xs with
 |nil=>intro i h;refine Kf _ _ _ _ ?_;rw [bS h];rfl
 |cons x xs ih=>
  intro i h;refine Kf _ _ _ _ ?_;have h118:f118 x a=some (x==a):=e118 _ _ rfl;rw [bR h,cond_true,bW h,h118,aj,bB h hl,ih (i+1) (bf h),bX];cases x==a<;>rfl
theorem h117 (l:List aR) (a:aR) (hl:l.length≤1073741824):∀(n i j:Nat) (o:List aR),l.length-j=n→o.length=l.length→i<j→j≤l.length→o.take i=(l.take j).filter (fun x=> !(x==a))→o.drop j=l.drop j→
  ∃k w,wD a i j o=some (k,w)∧k≤w.length∧w.take k=l.filter (fun x=> !(x==a)):=by
 intro n
 induction n with
 |zero=>
  intro i j o hn ho hij hj ht hd;obtain rfl:j=l.length:=by omega
  rw [List.take_length] at ht;refine ⟨i,((o.take i)++(List.replicate (o.length-i) []))++(o.drop o.length),Ii _ _ _ _ ?_,?_,?_⟩
  ·rw [cond_neg (by simp;omega),JS (by omega),bg (by omega),Int.toNat_natCast,bg (by simp;omega)]
  ·simp;omega
  ·rw [List.append_assoc,List.take_append_of_le_length (by simp;omega),List.take_take,Nat.min_self];exact ht
 |succ n ih=>
  intro i j o hn ho hij hj ht hd;have hjl:j<l.length:=by omega
  have Vq:j<o.length:=by omega
  have hx:o[j]=l[j]:=by
   have:=congrArg (fun m=>m[0]?) hd;simp only [List.getElem?_drop,Nat.add_zero,List.getElem?_eq_getElem Vq,List.getElem?_eq_getElem hjl,Option.some.injEq] at this;exact this
  have htj:(l.take (j+1)).filter (fun x=> !(x==a))=(l.take j).filter (fun x=> !(x==a))++(if l[j]=a then [] else [l[j]]):=by
   rw [List.take_add_one,List.getElem?_eq_getElem hjl,List.filter_append]
   congr 1
   by_cases e:l[j]=a<;>simp [e]
  have hlen:i≤j:=by omega
  by_cases e:l[j]=a
  ·rw [if_pos e,List.append_nil] at htj
   obtain ⟨k,w,r1,r2,r3⟩:=ih i (j+1) o (by omega) ho (by omega) (by omega) (by rw [htj];exact ht) (by
    have:=congrArg (List.drop 1) hd
    simpa [List.drop_drop,Nat.add_comm] using this)
   refine ⟨k,w,Ii _ _ _ _ ?_,r2,r3⟩;have h118:f118 o[j] a=some (o[j]==a):=e118 _ _ rfl;rw [cond_pos (by simp;omega),qH Vq,Int.toNat_natCast,mQ Vq,h118,aj,hx,e,cond_neg (by simp),cg (by omega)];exact r1
  ·rw [if_neg e] at htj
   have hio:i<o.length:=by omega
   obtain ⟨k,w,r1,r2,r3⟩:=ih (i+1) (j+1) (o.set i l[j]) (by omega) (by simp [ho]) (by omega) (by omega) (by
    rw [htj,←ht,List.take_add_one,List.getElem?_set_self hio,List.take_set_of_le (by omega)];rfl) (by
    have:=congrArg (List.drop 1) hd;rw [List.drop_set_of_lt (by omega)]
    simpa [List.drop_drop,Nat.add_comm] using this)
   refine ⟨k,w,Ii _ _ _ _ ?_,r2,r3⟩;have h118:f118 o[j] a=some (o[j]==a):=e118 _ _ rfl;rw [cond_pos (by simp;omega),qH Vq,Int.toNat_natCast,mQ Vq,h118,aj,hx,cond_pos (by simpa using e),qH hio,Int.toNat_natCast,mQ hio,cg (by omega),cg (by omega)];exact r1
theorem i117 (l:List aR) (a:aR) (hl:l.length≤1073741824):∃k w,f117 a l=some (k,w)∧k≤w.length∧w.take k=l.filter (fun x=> !(x==a)):=by
 have hix:M6 l a=some (bX (fun x=>x==a) l 0):=UJ _ _ (UU l a hl l 0 rfl);by_cases hm:a∈l
 ·obtain ⟨j,hj,e,h1,h2⟩:=C6 (fun x:aR=>x==a) l 0 ⟨a,hm,by simp⟩
  rw [Nat.zero_add] at e
  obtain ⟨k,w,r1,r2,r3⟩:=h117 l a hl _ j (j+1) l rfl rfl (by omega) (by omega) (by
   have hf:∀x∈l.take j,(!(x==a))=true:=by
    intro x hx;rw [List.mem_take_iff_getElem] at hx;obtain ⟨k,hk,rfl⟩:=hx;rw [h2 k (by omega)];rfl
   rw [List.take_add_one,List.getElem?_eq_getElem hj,List.filter_append,List.filter_eq_self.2 hf];have:(l[j]==a)=true:=h1
   simp [this]) rfl
  refine ⟨k,w,e117 _ _ ?_,r2,r3⟩;rw [hix,aj,e,cond_neg (by simp),cg (by omega)];exact r1
 ·have hneg:bX (fun x=>x==a) l 0= -1:=by
   have hn:=(C4 (fun x:aR=>x==a) l 0).2 (fun x hx=>by simp;exact fun e=>hm (e▸hx));have key:∀(xs:List aR) (i:Nat),bX (fun x=>x==a) xs i<0→bX (fun x=>x==a) xs i= -1:=by
    intro xs
    induction xs with
    |nil=>intro i _;rfl
    |cons x xs ih=>
     intro i h;rw [bX] at h⊢;split
     ·rename_i hx;rw [if_pos hx] at h;omega
     ·rename_i hx;rw [if_neg hx] at h;exact ih (i+1) h
   exact key l 0 hn
  refine ⟨l.length,l,e117 _ _ ?_,Nat.le_refl _,?_⟩
  ·rw [hix,aj,hneg,cond_pos (by simp)]
  ·rw [List.take_length,List.filter_eq_self.2]
   intro x hx;simp;exact fun e=>hm (e▸hx)
theorem h79b {d:List af} (z:Sz d) {i:Nat} (hi:i<d.length) {t:af} (hst:t.aA.length≤1048576) (hnd:t.aA.Nodup) {xM:List aR} {op:List (aR×Int)} {pre:aR→List aR} (hpre:∀y,(pre y).length≤1048576):
  ∀(xs:List aR) (k:Nat) (m:List (aR×Option (List aR))),t.aA.drop k=xs→Full m→(∀y,rowOf m y=pre y++(if y∈t.aA.take k then [t.Name] else []))→
  ∃m',Full m'∧(∀y,rowOf m' y=pre y++(if y∈t.aA then [t.Name] else []))∧∀r,Cn d d.length (i+1:Nat) xM op m'=some r→
  rH d d.length i t.aA t.aA.length k xM t op m=some r:=by
 have hl:=z.len;intro xs
 induction xs with
 |nil=>
  intro k m h hF hm;have:=eG h;refine ⟨m,hF,fun y=>by rw [hm,List.take_of_length_le this],fun r hk=>Om _ _ _ _ _ _ _ _ _ _ ?_⟩;rw [bS h,cond_false,cg (by omega)];exact hk
 |cons x xs ih=>
  intro k m h hF hm;have hlt:=cW h;have hx:x∉t.aA.take k:=by
   have h1:=List.take_append_drop k t.aA;rw [h] at h1;rw [←h1,List.nodup_append] at hnd;exact fun hm=>hnd.2.2 x hm x (by simp) rfl
  have hd:t.aA.take (k+1)=t.aA.take k++[x]:=by
   rw [List.take_add_one,bU h];rfl
  obtain ⟨m',e1,e2⟩:=Cr hF x (fun dA iR=>check ((List.length dA+List.length [t.Name]) *16≤140737488355328∧List.length dA+List.length [t.Name]≤4611686018427387904) (jv (dB iR x (some (dA++[t.Name]))) fun lF=>rH d d.length i t.aA t.aA.length (IntKind.wrap .i64 (k+1)) xM t op lF));have hrow:rowOf m x=pre x:=by rw [hm,if_neg hx,List.append_nil]
  obtain ⟨m2,a1,a2,a3⟩:=ih (k+1) (dB m x (some (pre x++[t.Name]))) (bf h) (hF.put _ _) (fun y=>by
   rw [wz,hm,hd];by_cases e:y=x
   ·subst e;simp
   ·have:(y∈t.aA.take k++[x])↔y∈t.aA.take k:=by simp [e]
    simp only [e,if_false,this])
  refine ⟨m2,a1,a2,fun r hk=>Om _ _ _ _ _ _ _ _ _ _ ?_⟩;rw [bR h,cond_true,bW h,e1,hrow,eo _ (by have:=hpre x;omega) (by simp) (by omega),gT,e2,bB h (by omega)];exact a3 r hk
theorem By (a b:List af) (y:aR):dn (a++b) y=dn a y++dn b y:=by simp [dn]
theorem rS (d:List af) (y:aR):(dn d y).length≤d.length:=by
 unfold dn;rw [List.length_map];exact List.length_filter_le _ _
theorem h79a {d:List af} (z:Sz d) (tZ:(cU d).Nodup) (BI:∀t∈d,t.aA.Nodup):
  ∀(xs:List af) (i:Nat) (op:List (aR×Int)) (m:List (aR×Option (List aR))),d.drop i=xs→Full m→(∀y,rowOf m y=dn (d.take i) y)→(∀t∈d.take i,getM op t.Name=some (t.aA.length:Int))→
  ∃op' m',(∀y,(getM m' y).getD []=dn d y)∧(∀t∈d,getM op' t.Name=some (t.aA.length:Int))∧∀r,qf m' ((d.filter fun t=>t.aA.length==0).map (·.Name)) [] op'=some r→
  Cn d d.length i (((d.take i).filter fun t=>t.aA.length==0).map (·.Name)) op m=some r:=by
 have hl:=z.len;intro xs
 induction xs with
 |nil=>
  intro i op m h hF hm hop;have hge:=eG h;rw [List.take_of_length_le hge] at hm hop⊢;obtain ⟨m',e1,e2,_⟩:=Bs hF (fun iR=>qf iR ((d.filter fun t=>t.aA.length==0).map (·.Name)) ([]:List (List UInt8)) op);refine ⟨op,m',fun y=>by rw [e2,hm],hop,fun r hk=>RT _ _ _ _ _ _ ?_⟩;rw [bS h,cond_false,e1];exact hk
 |cons x xs ih=>
  intro i op m h hF hm hop;have hlt:=cW h;have hx:x∈d:=List.mem_of_getElem? (bU h);have hd:d.take (i+1)=d.take i++[x]:=by
   rw [List.take_add_one,bU h];rfl
  have hfl:(((d.take i).filter fun t=>t.aA.length==0).map (·.Name)).length≤d.length:=by
   rw [List.length_map];refine Nat.le_trans (List.length_filter_le _ _) ?_;simp;omega
  have hxn:∀t∈d.take i,t.Name≠x.Name:=by
   intro t ht e;have h1:cU d=cU (d.take i)++cU (d.drop i):=by rw [←List.map_append,List.take_append_drop]
   rw [h1,List.nodup_append] at tZ;exact tZ.2.2 t.Name (List.mem_map_of_mem ht) x.Name (by rw [h];simp) e
  obtain ⟨m',Vc,hm',hgo⟩:=h79b z hlt (by have:=z.sup x hx;omega) (BI x hx) (xM:=((d.take (i+1)).filter fun t=>t.aA.length==0).map (·.Name)) (op:=dB op x.Name (x.aA.length:Int)) (pre:=dn (d.take i)) (fun y=>by
   have:=rS (d.take i) y
   rw [List.length_take] at this;omega) _ 0 m rfl hF (fun y=>by rw [hm];simp)
  obtain ⟨op',m2,r1,r2,r3⟩:=ih (i+1) (dB op x.Name (x.aA.length:Int)) m' (bf h) Vc (fun y=>by
   rw [hm',hd,By];refine congrArg _ ?_;unfold dn
   by_cases e:y∈x.aA<;>simp [e]) (fun t ht=>by
   rw [hd] at ht;rcases List.mem_append.1 ht with ht|ht
   ·rw [xg (hxn t ht)];exact hop t ht
   ·simp only [List.mem_singleton] at ht;subst ht;exact nw _ _ _)
  refine ⟨op',m2,r1,r2,fun r hk=>RT _ _ _ _ _ _ ?_⟩;have Nx:=hgo r (r3 r hk);rw [bR h,cond_true,bW h,gT];rw [hd,List.filter_append,List.map_append] at Nx;by_cases h0:x.aA.length=0
  ·rw [cond_pos (by simpa using h0),eo _ (by omega) (by simp) (by omega)]
   have ef:(List.filter (fun t=>t.aA.length==0) [x]).map (·.Name)=[x.Name]:=by simp [h0]
   rw [ef] at Nx;exact Nx
  ·rw [cond_neg (by simpa using h0)]
   have hb:(x.aA.length==0)=false:=by simpa using h0
   have ef:(List.filter (fun t=>t.aA.length==0) [x]).map (·.Name)=[]:=by simp [List.filter_cons,hb]
   rw [ef,List.append_nil] at Nx;exact Nx
noncomputable def cnt (d:List af) (out:List aR) (x:aR):Nat:=((up d x).filter fun s=>decide (s∉out)).length
theorem E1 {d:List af} {out:List aR} {x:aR}:cnt d out x=0↔∀s∈up d x,s∈out:=by
 unfold cnt;rw [List.length_eq_zero_iff,List.filter_eq_nil_iff];simp
theorem Fj {l:List aR} (hn:l.Nodup) {out:List aR} {a:aR} (ha:a∉out):(l.filter fun s=>decide (s∉out++[a])).length+(if a∈l then 1 else 0)=(l.filter fun s=>decide (s∉out)).length:=by
 induction l with
 |nil=>simp
 |cons x l ih=>
  have hn':=List.nodup_cons.1 hn;have:=ih hn'.2;by_cases e:x=a
  ·subst e
   have hx:x∉l:=hn'.1;rw [if_neg hx] at this;simp only [List.filter_cons];have h1:decide (x∉out++[x])=false:=by simp
   have h2:decide (x∉out)=true:=by simpa using ha
   rw [h1,h2];simp only [Bool.false_eq_true,if_false,if_true,List.length_cons,List.mem_cons,true_or];omega
  ·have hm:(a∈x::l)↔a∈l:=by
    simp only [List.mem_cons];exact ⟨fun h=>h.resolve_left fun h=>e h.symm, .inr⟩
   simp only [List.filter_cons,hm];have h1:decide (x∉out++[a])=decide (x∉out):=by
    rw [decide_eq_decide];simp [e]
   rw [h1];cases decide (x∉out) with
   |true=>simp only [if_true,List.length_cons];omega
   |false=>simp only [Bool.false_eq_true,if_false];exact this
theorem Pb {d:List af} (BI:∀t∈d,t.aA.Nodup) (x:aR):(up d x).Nodup:=by
 unfold up;split
 ·rename_i t e;exact BI t (List.mem_of_find?_eq_some e)
 ·simp
theorem Ct {d:List af} (z:Sz d) (x:aR):(up d x).length≤1048576:=by
 unfold up;split
 ·rename_i t e;exact z.sup t (List.mem_of_find?_eq_some e)
 ·simp
structure Ord (d:List af) (out xM:List aR) (op:List (aR×Int)):Prop where
 Bg:G8 d out
 nd:xM.Nodup
 ok:∀x∈xM,x∈cU d∧x∉out∧∀s∈up d x,s∈out
 all:∀x∈cU d,x∉out→(∀s∈up d x,s∈out)→x∈xM
 op:∀x∈cU d,getM op x=some (cnt d out x:Int)
theorem h79d {d:List af} (z:Sz d) (tZ:(cU d).Nodup) {mb:List (aR×List aR)} {out:List aR} {L:List aR} (hLn:L.Nodup) (hLl:L.length≤d.length) (hLm:∀x∈L,x∈cU d) (rd0:List aR) (Uc:rd0.length≤d.length) {old:aR→Nat} (hold:∀x∈L,old x=cnt d out x+1):
  ∀(xs:List aR) (k:Nat) (op:List (aR×Int)),L.drop k=xs→(∀x∈cU d,getM op x=some ((if x∈xs then old x else cnt d out x:Nat):Int))→
  ∃op',(∀x∈cU d,getM op' x=some (cnt d out x:Int))∧∀r,qf mb (rd0++L.filter fun x=>cnt d out x==0) out op'=some r→
  gD mb L L.length k (rd0++(L.take k).filter fun x=>cnt d out x==0) out op=some r:=by
 have hl:=z.len;intro xs
 induction xs with
 |nil=>
  intro k op h hop;have hge:=eG h;refine ⟨op,fun x hx=>by rw [hop x hx];simp,fun r hk=>On _ _ _ _ _ _ _ ?_⟩;rw [bS h,cond_false,List.take_of_length_le hge];exact hk
 |cons x xs ih=>
  intro k op h hop;have hlt:=cW h;have hxL:x∈L:=List.mem_of_getElem? (bU h);have hx:=hLm x hxL;have hxs:x∉xs:=by
   have h1:=List.take_append_drop k L;rw [h] at h1;rw [←h1,List.nodup_append] at hLn;exact (List.nodup_cons.1 hLn.2.1).1
  have hd:L.take (k+1)=L.take k++[x]:=by
   rw [List.take_add_one,bU h];rfl
  have e0:getM op x=some ((cnt d out x+1:Nat):Int):=by rw [hop x hx,if_pos (by simp),hold x hxL]
  have CY:cnt d out x≤1048576:=by
   unfold cnt;exact Nat.le_trans (List.length_filter_le _ _) (Ct z x)
  have NA:∀y∈cU d,getM (dB op x (cnt d out x:Int)) y=some ((if y∈xs then old y else cnt d out y:Nat):Int):=by
   intro y hy;rw [ga];by_cases e:y=x
   ·subst e;simp [hxs]
   ·rw [if_neg e,hop y hy]
    have:(y∈x::xs)↔y∈xs:=by simp [e]
    simp only [this]
  have hlen:(rd0++(L.take k).filter fun x=>cnt d out x==0).length≤4194304:=by
   rw [List.length_append];have:=List.length_filter_le (fun x=>cnt d out x==0) (L.take k);simp at this;omega
  have ew:IntKind.wrap .i64 (((cnt d out x+1:Nat):Int)-1)=(cnt d out x:Int):=by
   rw [fo (by omega) (by omega)];omega
  obtain ⟨op2,q1,q2⟩:=ih (k+1) _ (bf h) NA;refine ⟨op2,q1,fun r hk=>On _ _ _ _ _ _ _ ?_⟩;have H9:=q2 r hk;rw [bR h,cond_true,bW h,dz e0,ew,gT,dz (nw _ _ _),bB h (by omega)];rw [hd,List.filter_append] at H9;by_cases h0:cnt d out x=0
  ·rw [cond_pos (by rw [h0];rfl),eo _ (by omega) (by simp) (by omega)]
   have ef:List.filter (fun x=>cnt d out x==0) [x]=[x]:=by simp [h0]
   rw [ef,←List.append_assoc] at H9;exact H9
  ·rw [cond_neg (by
    have:((cnt d out x:Int)==0)=false:=by simp;omega
    exact this)]
   have ef:List.filter (fun x=>cnt d out x==0) [x]=[]:=by simp [h0]
   rw [ef,List.append_nil] at H9;exact H9
theorem h79c {d:List af} (z:Sz d) (tZ:(cU d).Nodup) (BI:∀t∈d,t.aA.Nodup) {mb:List (aR×List aR)} (hmb:∀y,(getM mb y).getD []=dn d y):
  ∀(n:Nat) (out xM:List aR) (op:List (aR×Int)),d.length-out.length=n→Ord d out xM op→∃o,G8 d o∧(∀t∈d,t.Name∉o→∃s∈t.aA,s∉o)∧qf mb xM out op=some o:=by
 have hl:=z.len;intro n
 induction n with
 |zero=>
  intro out xM op hn I;have hlen:=I.Bg.len;cases xM with
  |nil=>
   refine ⟨out,I.Bg,fun t ht hno=> ?_,Ip _ _ _ _ (by rfl)⟩;apply Classical.byContradiction;intro hc
   have:=I.all t.Name (List.mem_map_of_mem ht) hno (fun s hs=>by
    rw [sY tZ ht] at hs
    exact Classical.byContradiction fun h=>hc ⟨s,hs,h⟩)
   cases this
  |cons x xM=>
   exfalso;obtain ⟨h1,h2,_⟩:=I.ok x (by simp)
   have:(x::out).length≤(cU d).length:=dN (List.nodup_cons.2 ⟨h2,I.Bg.nd⟩) (fun y hy=>by
    rcases List.mem_cons.1 hy with rfl|hy
    ·exact h1
    ·exact I.Bg.sub y hy)
   simp at this;omega
 |succ n ih=>
  intro out xM op hn I;have hlen:=I.Bg.len;cases hr:xM with
  |nil=>
   refine ⟨out,I.Bg,fun t ht hno=> ?_,Ip _ _ _ _ (by rfl)⟩;apply Classical.byContradiction;intro hc
   have:=I.all t.Name (List.mem_map_of_mem ht) hno (fun s hs=>by
    rw [sY tZ ht] at hs
    exact Classical.byContradiction fun h=>hc ⟨s,hs,h⟩)
   rw [hr] at this;cases this
  |cons y0 rdy0=>
   have hne:xM≠[]:=by rw [hr];simp
   rw [←hr];have hrl:xM.length≤d.length:=by
    have:=dN I.nd fun x hx=>(I.ok x hx).1
    simpa using this
   obtain ⟨nx,hnx,UH⟩:=i116 xM (by omega) hne;obtain ⟨k,w,UI,hkw,hw⟩:=i117 xM nx (by omega);obtain ⟨S0,hn2,hn3⟩:=I.ok nx hnx;have hT:G8 d (out++[nx]):=by
    refine ⟨?_,?_,?_⟩
    ·rw [List.nodup_append]
     exact ⟨I.Bg.nd,by simp,fun a ha b hb=>by simp only [List.mem_singleton] at hb;subst hb;exact fun e=>hn2 (e▸ha)⟩
    ·intro x hx
     rcases List.mem_append.1 hx with hx|hx
     ·exact I.Bg.sub x hx
     ·simp only [List.mem_singleton] at hx;subst hx;exact S0
    ·intro i x hx
     by_cases hi:i<out.length
     ·rw [List.getElem?_append_left hi] at hx
      obtain ⟨u,hu,e1,h1⟩:=I.Bg.pre i x hx;exact ⟨u,hu,e1,fun s hs=>by rw [List.take_append_of_le_length (by omega)];exact h1 s hs⟩
     ·have hi2:i=out.length:=by
       apply Classical.byContradiction;intro hc;rw [List.getElem?_eq_none (by simp;omega)] at hx;cases hx
      subst hi2;rw [List.getElem?_append_right (by omega),Nat.sub_self] at hx;simp only [List.getElem?_cons_zero,Option.some.injEq] at hx;subst hx;obtain ⟨t,ht,rfl⟩:=List.mem_map.1 S0;exact ⟨t,ht,rfl,fun s hs'=>by rw [List.take_left'];exact hn3 s (by rw [sY tZ ht];exact hs');rfl⟩
   have Ve:∀x∈out,∀s∈up d x,s∈out:=by
    intro x hx s hs;obtain ⟨i,hi,e⟩:=List.mem_iff_getElem.1 hx;obtain ⟨u,hu,e1,h1⟩:=I.Bg.pre i x (by rw [List.getElem?_eq_getElem hi,e]);rw [←e1,sY tZ hu] at hs;exact List.mem_of_mem_take (h1 s hs)
   have hdn:∀x,x∈dn d nx↔x∈cU d∧nx∈up d x:=by
    intro x;constructor
    ·intro h;exact ⟨s7 h,(Di tZ (s7 h)).2 h⟩
    ·intro h;exact (Di tZ h.1).1 h.2
   have Vj:∀x,cnt d (out++[nx]) x+(if nx∈up d x then 1 else 0)=cnt d out x:=fun x=>Fj (Pb BI x) hn2
   have Vl:(dn d nx).Nodup:=by
    unfold dn;exact List.Nodup.sublist ((List.filter_sublist (l:=d)).map _) tZ
   have hO:∀op',(∀x∈cU d,getM op' x=some (cnt d (out++[nx]) x:Int))→Ord d (out++[nx]) ((xM.filter fun x=> !(x==nx))++(dn d nx).filter fun x=>cnt d (out++[nx]) x==0) op':=by
    intro op' NA;refine ⟨hT,?_,?_,?_,NA⟩
    ·rw [List.nodup_append]
     refine ⟨I.nd.filter _,Vl.filter _,?_⟩;intro a ha b hb e;subst e;have h1:=(I.ok a (List.mem_filter.1 ha).1).2.2;have h2:=((hdn a).1 (List.mem_filter.1 hb).1).2;exact hn2 (h1 nx h2)
    ·intro x hx
     rcases List.mem_append.1 hx with hx|hx
     ·obtain ⟨h1,h2⟩:=List.mem_filter.1 hx
      obtain ⟨a1,a2,a3⟩:=I.ok x h1;refine ⟨a1,?_,fun s hs=>List.mem_append_left _ (a3 s hs)⟩;simp only [List.mem_append,List.mem_singleton,not_or];exact ⟨a2,by simpa using h2⟩
     ·obtain ⟨h1,h2⟩:=List.mem_filter.1 hx
      obtain ⟨a1,a2⟩:=(hdn x).1 h1;refine ⟨a1,?_,E1.1 (by simpa using h2)⟩;simp only [List.mem_append,List.mem_singleton,not_or];exact ⟨fun h=>hn2 (Ve x h nx a2),fun e=>hn2 (hn3 nx (e▸a2))⟩
    ·intro x hx hno hall
     simp only [List.mem_append,List.mem_singleton,not_or] at hno;by_cases hup:nx∈up d x
     ·refine List.mem_append_right _ (List.mem_filter.2 ⟨(hdn x).2 ⟨hx,hup⟩,?_⟩)
      simpa using E1.2 hall
     ·refine List.mem_append_left _ (List.mem_filter.2 ⟨I.all x hx hno.1 (fun s hs=> ?_),by simpa using hno.2⟩)
      rcases List.mem_append.1 (hall s hs) with h|h
      ·exact h
      ·simp only [List.mem_singleton] at h;subst h;exact absurd hs hup
   obtain ⟨op',NA,hres⟩:∃op',(∀x∈cU d,getM op' x=some (cnt d (out++[nx]) x:Int))∧∀r,qf mb ((xM.filter fun x=> !(x==nx))++(dn d nx).filter fun x=>cnt d (out++[nx]) x==0) (out++[nx]) op'=some r→qf mb xM out op=some r:=by
    have hdl:=rS d nx;have hfl:(xM.filter fun x=> !(x==nx)).length≤d.length:=Nat.le_trans (List.length_filter_le _ _) hrl
    obtain ⟨op',q1,q2⟩:=h79d z tZ (mb:=mb) (out:=out++[nx]) (L:=dn d nx) Vl hdl (fun x hx=>s7 hx) (xM.filter fun x=> !(x==nx)) hfl (old:=cnt d out) (fun x hx=>by
     have:=Vj x
     rw [if_pos ((hdn x).1 hx).2] at this;omega) (dn d nx) 0 op rfl (fun x hx=>by
     rw [I.op x hx];by_cases hm:x∈dn d nx
     ·rw [if_pos hm]
     ·rw [if_neg hm]
      have:=Vj x;rw [if_neg (fun h=>hm ((hdn x).2 ⟨hx,h⟩))] at this
      rw [←this];rfl)
    refine ⟨op',q1,fun r hr'=>Ip _ _ _ _ ?_⟩;have hq:=q2 r hr';rw [cond_pos (by simp;exact List.length_pos_iff.2 hne),UH,aj,UI,jo,bg (by omega),eo _ (by omega) (by simp) (by omega),hw];rw [Ls (fun mK=>gD mb mK (List.length mK:Int) 0 (xM.filter fun x=> !(x==nx)) (out++[nx]) op) rfl,hmb];simpa using hq
   obtain ⟨o,r1,r2,r3⟩:=ih (out++[nx]) _ op' (by simp;omega) (hO op' NA);exact ⟨o,r1,r2,hres o r3⟩
theorem i79 {d:List af} (z:Sz d) (tZ:(cU d).Nodup) (BI:∀t∈d,t.aA.Nodup):∃o,G8 d o∧(∀t∈d,t.Name∉o→∃s∈t.aA,s∉o)∧f79 d=some o:=by
 obtain ⟨op,m,h1,h2,h3⟩:=h79a z tZ BI d 0 [] [] rfl Full.nil (fun y=>by rw [wv];rfl) (fun t ht=>by cases ht);have I:Ord d [] ((d.filter fun t=>t.aA.length==0).map (·.Name)) op:=by
  refine ⟨⟨by simp,fun x hx=>(by cases hx),fun i x hx=>(by simp at hx)⟩,?_,?_,?_,?_⟩
  ·exact List.Nodup.sublist ((List.filter_sublist (l:=d)).map _) tZ
  ·intro x hx
   obtain ⟨t,ht,rfl⟩:=List.mem_map.1 hx;obtain ⟨h4,h5⟩:=List.mem_filter.1 ht;refine ⟨List.mem_map_of_mem h4,by simp,?_⟩;rw [sY tZ h4];have:t.aA=[]:=by simpa using h5
   rw [this];simp
  ·intro x hx _ hs
   obtain ⟨t,ht,rfl⟩:=List.mem_map.1 hx;rw [sY tZ ht] at hs;refine List.mem_map_of_mem (List.mem_filter.2 ⟨ht,?_⟩);cases e:t.aA with
   |nil=>rfl
   |cons s l=>exact absurd (hs s (by rw [e];simp)) (by simp)
  ·intro x hx
   obtain ⟨t,ht,rfl⟩:=List.mem_map.1 hx;rw [h2 t ht,cnt,sY tZ ht];have:(t.aA.filter fun s=>decide (s∉([]:List aR)))=t.aA:=by
    rw [List.filter_eq_self];simp
   rw [this]
 obtain ⟨o,r1,r2,r3⟩:=h79c z tZ BI h1 _ [] _ op rfl I;exact ⟨o,r1,r2,e79 _ (h3 o r3)⟩
theorem h39 {d:List af} (z:Sz d) (h1:mT [] d=0) (h2:mY (cU d) d=0):∀(xs:List af) (i n:Nat),d.drop i=xs→n≤i→
  wJ d n d d.length i=some (open Classical in if n+tV xs≠1 then 1 else if s4 d then 0 else 6):=by
 have hl:=z.len;intro xs
 induction xs with
 |nil=>
  intro i n h hn;refine Oe _ _ _ _ _ ?_;have hnd:=((zK d []).1 h1).2.1;have SO:∀t∈d,∀s∈t.aA,s∈cU d:=fun t ht=>((p9 _ d).1 h2 t ht).1
  obtain ⟨out,b1,b2,b3⟩:=i79 z hnd (fun t ht=>((p9 _ d).1 h2 t ht).2);rw [bS h,cond_false];have e0:n+tV []=n:=rfl;rw [e0];by_cases S0:n=1
  ·rw [cond_neg (by simp;omega),b3,aj,if_neg (by omega)]
   by_cases hr:s4 d
   ·have hfull:=y9 SO b2 hr
    have:(cU d).length≤out.length:=dN hnd fun x hx=>by
     obtain ⟨t,ht,rfl⟩:=List.mem_map.1 hx;exact hfull t ht
    simp only [List.length_map] at this;rw [cond_neg (by simp;omega),if_pos hr]
   ·have:out.length<d.length:=by
     apply Classical.byContradiction;intro hc;apply hr;refine zW hnd b1 fun t ht=> ?_
     exact Jd b1.nd b1.sub (by simp;omega) _ (List.mem_map_of_mem ht)
    rw [cond_pos (by simp;omega),if_neg hr]
  ·rw [cond_pos (by simp;omega),if_pos S0]
 |cons x xs ih=>
  intro i n h hn;refine Oe _ _ _ _ _ ?_;have hlt:=cW h;rw [bR h,cond_true,bW h,bB h (by omega),cg (by omega)];by_cases hx:x.aA.length=0
  ·rw [cond_pos (by simpa using hx),ih (i+1) (n+1) (bf h) (by omega)]
   have:tV (x::xs)=tV xs+1:=by simp [tV,List.filter_cons,hx]
   rw [this,show n+1+tV xs=n+(tV xs+1) by omega]
  ·rw [cond_neg (by simpa using hx),ih (i+1) n (bf h) (by omega)]
   have:tV (x::xs)=tV xs:=by
    have:(x.aA.length==0)=false:=by simpa using hx
    simp [tV,List.filter_cons,this]
   rw [this]
theorem i39 {d:List af} (z:Sz d):f39 d=some (AI d):=by
 have hl:=z.len;refine e39 _ ?_;rw [i76,aj,i77 d (by omega),aj,i78 d (by omega) (fun t ht=>by have:=z.sup t ht;omega),aj];unfold AI;by_cases h0:EJ d=true
 ·rw [if_pos h0,h0];rfl
 ·have h0':EJ d=false:=by simpa using h0
  rw [if_neg h0,h0',cond_false];by_cases h1:mT [] d=0
  ·by_cases h2:mY (cU d) d=0
   ·have:=h39 z h1 h2 d 0 0 rfl (by omega)
    rw [h1,h2,if_neg (by simp),if_neg (by simp)];simpa using this
   ·rw [if_pos h2,h1,if_neg (by simp)]
    rw [cond_neg (by simp),cond_pos (by simpa using h2)]
  ·rw [if_pos h1,cond_pos (by simpa using h1)]
end Go.Proofs.YtfoddgpndoeeaaaGreatDoor.cl
