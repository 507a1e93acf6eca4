/- First paths (both walks); the same sharings in the program a. -/
import Derived.Test.YthppjmoncapdfaaGreatDoorClXq
set_option linter.unusedVariables false
set_option linter.unusedSimpArgs false
set_option linter.unusedSectionVars false
namespace Go.Proofs.YthppjmoncapdfaaGreatDoor.cl.pf
open Go Go.AM
theorem Y1 {α R:Type} {l:List α} {i:Nat} {x:α} (h:l[i]? =some x) (k:α→Option R):check (0≤(i:Int)∧Int.toNat (i:Int)<l.length) (ec l (Int.toNat (i:Int)) k)=k x:=by
 rw [xM (List.getElem?_eq_some_iff.1 h).1,Int.toNat_natCast,gq h]
def gN (f:FSt):List ud:=f.aj.map fun x=>(x.dN,x.cO.map fun a=>(a.aP,a.To))
theorem AN:∀l:List Node,qR (l.map Node.enc)=some (l.map fun x=>(x.dN,x.cO.map fun a=>(a.aP,a.To)))
 |[]=>rfl
 |x::l=>by
  rw [List.map_cons,List.map_cons]
  show (match qY (x.cO.map aF.enc),qR (l.map Node.enc) with
   |some a,some r=>some ((x.dN,a)::r)
   |_,_=>none)=_
  rw [B5,AN l]
theorem rS:∀(ns:List Int) (ps out:List (List Int)) (t:Int) (p:List Int),ns.length=ps.length→x8 out (ns++[t]) (ps++[p])=(x8 out ns ps).set t.toNat p
 |[],[],out,t,p,_=>rfl
 |n::ns,q::ps,out,t,p,h=>rS ns ps (out.set n.toNat q) t p (by simpa using h)
 |[],_::_,_,_,_,h=>by cases h
 |_::_,[],_,_,_,h=>by cases h
abbrev Qs:=List (Nat×List Int)
def AP (qs:Qs):List Int:=qs.map fun a=>(a.1:Int)
def Hf (qs:Qs):List (List Int):=qs.map (·.2)
structure BI (f:FSt) (i:Nat) (sn:List Bool) (qs:Qs) (out:List (List Int)):Prop where
 nd:(qs.map (·.1)).Nodup
 lt:∀a∈qs,a.1<f.aj.length
 sl:sn.length=f.aj.length
 se:∀x,x<f.aj.length→(sn.getD x false=true↔x∈qs.map (·.1))
 hd:qs[0]? =some (0,[])
 at_:∀a∈qs,wg f a.2=some a.1
 ln:∀(j:Nat) a,qs[j]? =some a→a.2.length≤j
 pr:∀a∈qs,a.2=[]∨∃b∈qs,∃g,a.2=b.2++[g]
 mo:qs.Pairwise fun a b=>a.2.length≤b.2.length
 up:∀b,qs[i]? =some b→∀a∈qs,a.2.length≤b.2.length+1
 cl:∀(j:Nat) b,j<i→qs[j]? =some b→∀p∈iO f b.1,∃a∈qs,a.1=p.2∧a.2.length≤b.2.length+1
 oe:out=x8 (List.replicate f.aj.length []) (AP qs) (Hf qs)
 ol:out.length=f.aj.length
 oa:∀a∈qs,out[a.1]? =some a.2
theorem BI.le {f:FSt} {i:Nat} {sn:List Bool} {qs:Qs} {out:List (List Int)} (I:BI f i sn qs out):qs.length≤f.aj.length:=by
 have:=tQ I.nd (N:=f.aj.length) fun x hx=>by
  obtain ⟨a,ha,rfl⟩:=List.mem_map.1 hx;exact I.lt a ha
 simpa using this
theorem BI.snoc {T F:Nat} {f:FSt} (hf:Can T F f) {i:Nat} {sn:List Bool} {qs:Qs} {out:List (List Int)} (I:BI f i sn qs out) {b:Nat×List Int} (hb:qs[i]? =some b) {g:Int} {t:Nat} (hs:(g,t)∈iO f b.1) (hno:t∉qs.map (·.1)):
  BI f i (sn.set t true) (qs++[(t,b.2++[g])]) (out.set t (b.2++[g])):=by
 have hil:i<qs.length:=(List.getElem?_eq_some_iff.1 hb).1;have Uu:=List.mem_of_getElem? hb;have Vu:t<f.aj.length:=hf.bd b.1 (I.lt b Uu) _ hs;have hN:=I.le;refine ⟨?_,fun a ha=> ?_,by rw [List.length_set];exact I.sl,fun x hx=> ?_,?_,fun a ha=> ?_,fun j a ha=> ?_,fun a ha=> ?_,?_,fun c hc a ha=> ?_,fun j c hj hc p hp=> ?_,?_,by rw [List.length_set];exact I.ol,fun a ha=> ?_⟩
 ·rw [List.map_append,List.nodup_append]
  refine ⟨I.nd,by simp,fun x hx y hy=> ?_⟩;simp at hy;subst hy;exact fun e=>hno (e▸hx)
 ·rcases List.mem_append.1 ha with ha|ha
  ·exact I.lt a ha
  ·simp at ha;subst ha;exact Vu
 ·rw [dS,List.map_append,List.mem_append]
  by_cases e:t=x
  ·subst e
   rw [if_pos ⟨rfl,by rw [I.sl];exact hx⟩];simp
  ·rw [if_neg (fun h=>e h.1),I.se x hx]
   simp only [List.map_cons,List.map_nil,List.mem_singleton];exact ⟨.inl,fun h=>h.elim id fun h=>absurd h.symm e⟩
 ·rw [List.getElem?_append_left (by omega)];exact I.hd
 ·rcases List.mem_append.1 ha with ha|ha
  ·exact I.at_ a ha
  ·simp at ha;subst ha
   exact ug.2 ⟨_,I.at_ b Uu,(pg (hf.xG b.1)).2 hs⟩
 ·by_cases hj:j<qs.length
  ·rw [List.getElem?_append_left hj] at ha;exact I.ln j a ha
  ·have hj2:j=qs.length:=by
    have:=(List.getElem?_eq_some_iff.1 ha).1;simp at this;omega
   subst hj2;simp at ha;subst ha;have:=I.ln i b hb;simp;omega
 ·rcases List.mem_append.1 ha with ha|ha
  ·rcases I.pr a ha with h|⟨c,hc,h⟩
   ·exact .inl h
   ·exact .inr ⟨c,List.mem_append_left _ hc,h⟩
  ·simp at ha;subst ha
   exact .inr ⟨b,List.mem_append_left _ Uu,g,rfl⟩
 ·rw [List.pairwise_append]
  refine ⟨I.mo,by simp,fun a ha c hc=> ?_⟩;simp at hc;subst hc;have:=I.up b hb a ha;simpa using this
 ·rw [List.getElem?_append_left hil,hb] at hc
  cases hc;rcases List.mem_append.1 ha with ha|ha
  ·exact I.up b hb a ha
  ·simp at ha;subst ha;simp
 ·rw [List.getElem?_append_left (by omega)] at hc
  obtain ⟨a,ha,h⟩:=I.cl j c hj hc p hp;exact ⟨a,List.mem_append_left _ ha,h⟩
 ·have:x8 (List.replicate f.aj.length []) (AP (qs++[(t,b.2++[g])])) (Hf (qs++[(t,b.2++[g])]))=(x8 (List.replicate f.aj.length []) (AP qs) (Hf qs)).set t (b.2++[g]):=by
   unfold AP Hf;rw [List.map_append,List.map_append];exact rS _ _ _ _ _ (by simp)
  rw [this,←I.oe]
 ·rcases List.mem_append.1 ha with ha|ha
  ·have:t≠a.1:=fun e=>hno (e▸List.mem_map.2 ⟨a,ha,rfl⟩)
   rw [List.getElem?_set_ne this];exact I.oa a ha
  ·simp at ha;subst ha
   rw [List.getElem?_set_self (by rw [I.ol];exact Vu)]
theorem BI.next {f:FSt} {i:Nat} {sn:List Bool} {qs:Qs} {out:List (List Int)} (I:BI f i sn qs out) {b:Nat×List Int} (hb:qs[i]? =some b) (hc:∀p∈iO f b.1,∃a∈qs,a.1=p.2∧a.2.length≤b.2.length+1):BI f (i+1) sn qs out:=by
 refine { I with up:=fun c hc a ha=> ?_,cl:=fun j c hj Bq=> ?_ }
 ·have h1:=I.up b hb a ha
  obtain ⟨hi,e⟩:=List.getElem?_eq_some_iff.1 hb;obtain ⟨hi',e'⟩:=List.getElem?_eq_some_iff.1 hc;have:=(List.pairwise_iff_getElem.1 I.mo) i (i+1) hi hi' (by omega);rw [e,e'] at this;omega
 ·by_cases e:j=i
  ·subst e
   rw [hb] at Bq;cases Bq;exact hc
  ·exact I.cl j c (by omega) Bq
section
variable {T F:Nat} {f:FSt} (hf:Can T F f) (hn:f.aj.length≤100000) (hF:F≤1000)
include hf hn hF
theorem UU {i:Nat} {x:Node} {b:Nat×List Int} (hx:f.aj[b.1]? =some x):∀(xs:List aF) (k:Nat) (sn:List Bool) (qs:Qs) (out:List (List Int)),x.cO.drop k=xs→BI f i sn qs out→qs[i]? =some b→
  ∃Uj OO out',Ba b.2 (xs.map fun a=>(a.aP,a.To)) sn (AP qs) (Hf qs)=some (Uj,AP OO,Hf OO)∧BI f i Uj OO out'∧(∃m,OO=qs++m)∧(∀a∈xs,∃c∈OO,c.1=a.To.toNat∧c.2.length≤b.2.length+1)∧
   ∀r,DN ((i+1:Nat):Int) f out' Uj (AP OO)=some r→yJ (i:Int) x.cO (k:Int) f out sn (AP qs)=some r:=by
 have hao:=hf.ao (List.mem_of_getElem? hx);have hal:=hao.len;have hsc:iO f b.1=Rb x:=by unfold iO;rw [hx]
 intro xs
 induction xs with
 |nil=>
  intro k sn qs out hd I hb;refine ⟨sn,qs,out,rfl,I,⟨[],by simp⟩,fun a ha=>by (cases ha),fun r hr=>Gk _ _ _ _ _ _ _ ?_⟩;have:=I.le;have hil:i<qs.length:=(List.getElem?_eq_some_iff.1 hb).1;rw [dm hd,cond_false,cU (by omega)];exact hr
 |cons a xs ih=>
  intro k sn qs out hd I hb;have hil:i<qs.length:=(List.getElem?_eq_some_iff.1 hb).1;have hN:=I.le;have Uu:=List.mem_of_getElem? hb;have ham:=List.mem_of_getElem? (dG hd);have ha:=hao.ok a ham;obtain ⟨t,ht⟩:=Int.eq_ofNat_of_zero_le ha.2.1;have Vu:t<f.aj.length:=by omega
  have Yu:a.To.toNat=t:=by omega
  have hs:(a.aP,t)∈iO f b.1:=by rw [hsc];exact List.mem_map.2 ⟨a,ham,by rw [Yu]⟩
  have xx:t<sn.length:=by rw [I.sl];exact Vu
  have hsg:sn[t]? =some (sn.getD t false):=by rw [List.getD_eq_getElem?_getD,List.getElem?_eq_getElem xx];rfl
  have ebf:Ba b.2 ((a.aP,a.To)::xs.map fun a=>(a.aP,a.To)) sn (AP qs) (Hf qs)=bif sn.getD t false then Ba b.2 (xs.map fun a=>(a.aP,a.To)) sn (AP qs) (Hf qs) else Ba b.2 (xs.map fun a=>(a.aP,a.To)) (sn.set t true) (AP qs++[a.To]) (Hf qs++[b.2++[a.aP]]):=by
   rw [Ba,Yu,hsg];simp only [];rw [if_neg (by omega)]
  rw [List.map_cons,ebf];cases e:sn.getD t false with
  |true=>
   obtain ⟨Uj,OO,out',g1,g2,⟨m,rfl⟩,g4,g5⟩:=ih (k+1) sn qs out (cH hd) I hb;refine ⟨Uj,_,out',g1,g2,⟨m,rfl⟩,fun c hc=> ?_,fun r hr=>Gk _ _ _ _ _ _ _ ?_⟩
   ·rcases List.mem_cons.1 hc with rfl|hc
    ·obtain ⟨d,hd1,hd2⟩:=List.mem_map.1 ((I.se t Vu).1 e)
     exact ⟨d,List.mem_append_left _ hd1,by rw [hd2,Yu],I.up b hb d hd1⟩
    ·exact g4 c hc
   ·rw [cR hd,cond_true,bX hd,ht,Y1 hsg,e,cond_neg (by rfl),dA hd (by omega)]
    exact g5 r hr
  |false=>
   have hno:t∉qs.map (·.1):=fun h=>by rw [(I.se t Vu).2 h] at e;cases e
   have I2:=I.snoc hf hb hs hno;have en:AP (qs++[(t,b.2++[a.aP])])=AP qs++[a.To]:=by unfold AP;rw [List.map_append,ht];rfl
   have ep:Hf (qs++[(t,b.2++[a.aP])])=Hf qs++[b.2++[a.aP]]:=by unfold Hf;rw [List.map_append];rfl
   obtain ⟨Uj,OO,out',g1,g2,⟨m,rfl⟩,g4,g5⟩:=ih (k+1) _ _ _ (cH hd) I2 (by rw [List.getElem?_append_left hil];exact hb);rw [en,ep] at g1;refine ⟨Uj,_,out',g1,g2,⟨_,by rw [List.append_assoc]⟩,fun c hc=> ?_,fun r hr=>Gk _ _ _ _ _ _ _ ?_⟩
   ·rcases List.mem_cons.1 hc with rfl|hc
    ·exact ⟨(t,b.2++[c.aP]),by simp,Yu.symm,by simp⟩
    ·exact g4 c hc
   ·have Er:=I.ln i b hb
    have h1:(AP qs)[i]? =some (b.1:Int):=by unfold AP;rw [List.getElem?_map,hb];rfl
    have h2:=I.oa b Uu;have h3:out[t]? =some (out.getD t []):=by rw [List.getD_eq_getElem?_getD,List.getElem?_eq_getElem (by rw [I.ol];exact Vu)];rfl
    have h4:(AP qs).length=qs.length:=by unfold AP;simp
    rw [cR hd,cond_true,bX hd,ht,Y1 hsg,e,cond_pos (by rfl),bX hd,ht,Y1 hsg,bX hd,Y1 h1,Y1 h2,cM _ (by simp) (by omega) (by omega),bX hd,cM _ (by simp;omega) (by simp) (by omega),ht,Y1 h3,bX hd,cM _ (by omega) (by simp) (by omega),dA hd (by omega)];have:=g5 r hr;rw [en] at this;simpa using this
theorem Xr:∀(k i:Nat) (sn:List Bool) (qs:Qs) (out:List (List Int)),f.aj.length<k+i→i≤qs.length→BI f i sn qs out→
  ∃Uj OO out',Wp (gN f) k i sn (AP qs) (Hf qs)=some (AP OO,Hf OO)∧DN (i:Int) f out sn (AP qs)=some out'∧BI f OO.length Uj OO out':=by
 intro k
 induction k with
 |zero=>intro i sn qs out h1 h2 I;have:=I.le;omega
 |succ k ih=>
  intro i sn qs out h1 h2 I;have hN:=I.le;have h4:(AP qs).length=qs.length:=by unfold AP;simp
  have h5:(Hf qs).length=qs.length:=by unfold Hf;simp
  by_cases hi:i=qs.length
  ·subst hi
   refine ⟨sn,qs,out,?_,Ta _ _ _ _ _ ?_,I⟩
   ·rw [Wp,List.getElem?_eq_none (by omega)]
   ·rw [cond_neg (by rw [decide_eq_false_iff_not];omega)]
  ·have hil:i<qs.length:=by omega
   have hb:qs[i]? =some qs[i]:=List.getElem?_eq_getElem hil;generalize qs[i]=b at hb;have Uu:=List.mem_of_getElem? hb;have rC:=I.lt b Uu;have hx:f.aj[b.1]? =some f.aj[b.1]:=List.getElem?_eq_getElem rC;obtain ⟨Uj,OO,out',g1,g2,⟨m,rfl⟩,g4,g5⟩:=UU hf hn hF hx f.aj[b.1].cO 0 sn qs out rfl I hb;have hb':(qs++m)[i]? =some b:=by rw [List.getElem?_append_left hil];exact hb
   have g3:=g2.next hb' fun p hp=>by
    have:iO f b.1=Rb f.aj[b.1]:=zY rC;rw [this] at hp;obtain ⟨a,ha,rfl⟩:=List.mem_map.1 hp;exact g4 a ha
   obtain ⟨sn2,qs2,out2,q1,q2,q3⟩:=ih (i+1) Uj _ out' (by omega) (by rw [List.length_append];omega) g3;have n1:(AP qs)[i]? =some (b.1:Int):=by unfold AP;rw [List.getElem?_map,hb];rfl
   have n2:(Hf qs)[i]? =some b.2:=by unfold Hf;rw [List.getElem?_map,hb];rfl
   refine ⟨sn2,qs2,out2,?_,Ta _ _ _ _ _ ?_,q3⟩
   ·rw [Wp,n1,n2]
    simp only [Int.toNat_natCast];have:(gN f)[b.1]? =some (f.aj[b.1].dN,f.aj[b.1].cO.map fun a=>(a.aP,a.To)):=by unfold gN;rw [List.getElem?_map,hx];rfl
    rw [this];simp only [];rw [g1];exact q1
   ·rw [cond_pos (by rw [decide_eq_true_iff];omega),Y1 n1,eo hx]
    exact g5 _ q2
structure Fst (f:FSt) (P:List (List Int)):Prop where
 len:P.length=f.aj.length
 at_:∀i,i<f.aj.length→wg f (P.getD i [])=some i
 zero:P.getD 0 []=[]
 ln:∀i,i<f.aj.length→(P.getD i []).length≤f.aj.length
 Zh:∀i,i<f.aj.length→∀p∈iO f i,(P.getD p.2 []).length≤(P.getD i []).length+1
 pre:∀p∈P,∀j,p.take j∈P
theorem R5:∃P,f415 f=some P∧f416 f=some P∧Fst f P:=by
 have h0:=hf.ne;have I0:BI f 0 ((List.replicate f.aj.length false).set 0 true) [(0,[])] (List.replicate f.aj.length []):=by
  refine ⟨by simp,fun a ha=>by simp at ha;subst ha;exact h0,by simp,fun x hx=> ?_,rfl,fun a ha=>by simp at ha;subst ha;rfl,fun j a ha=> ?_,fun a ha=>by simp at ha;subst ha;exact .inl rfl,by simp,fun c hc a ha=>by simp at ha;subst ha;simp,fun j c hj=>absurd hj (by omega),?_,by simp,fun a ha=> ?_⟩
  ·rw [dS]
   by_cases e:0=x
   ·subst e;simp [h0]
   ·rw [if_neg (fun h=>e h.1),List.getD_eq_getElem?_getD,List.getElem?_replicate,if_pos hx]
    simp;omega
  ·cases j with
   |zero=>simp at ha;subst ha;simp
   |succ j=>simp at ha
  ·show _=(List.replicate f.aj.length []).set 0 []
   apply List.ext_getElem?;intro j;rw [List.getElem?_set];by_cases e:0=j
   ·subst e;simp [h0]
   ·rw [if_neg e]
  ·simp at ha;subst ha;simp [h0]
 obtain ⟨sn,qs,P,g1,g2,I⟩:=Xr hf hn hF (f.aj.length+1) 0 _ _ _ (by omega) (by simp) I0;have hall:∀x,x<f.aj.length→∃a∈qs,a.1=x:=by
  intro x hx;have hr:=hf.Ug hx;have:x∈qs.map (·.1):=by
   clear hx
   induction hr with
   |root=>exact List.mem_map.2 ⟨(0,[]),List.mem_of_getElem? I.hd,rfl⟩
   |step _ hp ih=>
    obtain ⟨a,ha,rfl⟩:=List.mem_map.1 ih;obtain ⟨j,hj⟩:=List.mem_iff_getElem?.1 ha;obtain ⟨c,hc,e,_⟩:=I.cl j a (List.getElem?_eq_some_iff.1 hj).1 hj _ hp;exact List.mem_map.2 ⟨c,hc,e⟩
  obtain ⟨a,ha,e⟩:=List.mem_map.1 this;exact ⟨a,ha,e⟩
 have hP:∀a∈qs,P.getD a.1 []=a.2:=fun a ha=>by rw [List.getD_eq_getElem?_getD,I.oa a ha];rfl
 have hl:=I.le;refine ⟨P,?_,e416 _ ?_,⟨I.ol,fun i hi=> ?_,?_,fun i hi=> ?_,fun i hi p hp=> ?_,fun p hp j=> ?_⟩⟩
 ·refine fG (E:=EN Q6) ?_
  refine lC ?_
  show (match qR (f.aj.map Node.enc) with
   |some g=>bif Nat.blt 0 g.length&&Nat.ble g.length 1073741824 then (sI g).map fun (ps:List (List Int))=>(AV.aW 1 (ps.map fun (p:List Int)=>[AV.aW 1 (p.map fun (n:Int)=>[AV.int .i64 n])]),[]) else none
   |none=>none)=_
  rw [AN];have hg:(gN f).length=f.aj.length:=by unfold gN;simp
  have hp:sI (gN f)=some P:=by
   unfold sI;rw [hg];have:Wp (gN f) (f.aj.length+1) 0 ((List.replicate f.aj.length false).set 0 true) [0] [[]]=some (AP qs,Hf qs):=g1;rw [this,I.oe];rfl
  have Ep:Nat.blt 0 (gN f).length=true:=Nat.ble_eq_true_of_le (by omega);have Er:Nat.ble (gN f).length 1073741824=true:=Nat.ble_eq_true_of_le (by omega);show (bif Nat.blt 0 (gN f).length&&Nat.ble (gN f).length 1073741824 then (sI (gN f)).map _ else none)=_;rw [Ep,Er,hp];rfl
 ·rw [bY ⟨by omega,by omega,by omega,by omega⟩,bY ⟨by omega,by omega,by omega,by omega⟩,Int.toNat_natCast,bY ⟨by omega,by simpa using h0⟩,gq (x:=false) (by simp [h0])]
  exact g2
 ·obtain ⟨a,ha,rfl⟩:=hall i hi
  rw [hP a ha];exact I.at_ a ha
 ·exact hP (0,[]) (List.mem_of_getElem? I.hd)
 ·obtain ⟨a,ha,rfl⟩:=hall i hi
  obtain ⟨j,hj⟩:=List.mem_iff_getElem?.1 ha;have:=I.ln j a hj;have:=(List.getElem?_eq_some_iff.1 hj).1;rw [hP a ha];omega
 ·obtain ⟨a,ha,rfl⟩:=hall i hi
  obtain ⟨j,hj⟩:=List.mem_iff_getElem?.1 ha;obtain ⟨c,hc,e,h⟩:=I.cl j a (List.getElem?_eq_some_iff.1 hj).1 hj _ hp;rw [←e,hP a ha,hP c hc];exact h
 ·have key:∀(n:Nat) (a:Nat×List Int),a∈qs→a.2.length≤n→∃c∈qs,a.2.take j=c.2:=by
   intro n
   induction n with
   |zero=>
    intro a ha h;have:a.2=[]:=List.length_eq_zero_iff.1 (by omega);exact ⟨a,ha,by rw [this];simp⟩
   |succ n ih=>
    intro a ha h;by_cases hj:a.2.length≤j
    ·exact ⟨a,ha,List.take_of_length_le hj⟩
    ·rcases I.pr a ha with e|⟨b,hb,g,e⟩
     ·exact ⟨a,ha,by rw [e];simp⟩
     ·rw [e,List.length_append,List.length_singleton] at h hj
      obtain ⟨c,hc,e2⟩:=ih b hb (by omega);refine ⟨c,hc,?_⟩;rw [e,List.take_append_of_le_length (by omega)];exact e2
  obtain ⟨i,hi⟩:=List.mem_iff_getElem?.1 hp;have hil:=(List.getElem?_eq_some_iff.1 hi).1;rw [I.ol] at hil;obtain ⟨a,ha,rfl⟩:=hall i hil;rw [I.oa a ha] at hi;cases hi;obtain ⟨c,hc,e⟩:=key _ a ha (Nat.le_refl _);rw [e];exact List.mem_of_getElem? (I.oa c hc)
end
theorem c445 {p q:List Int} (hp:p.length≤1000000):∃r,f445 p q=some r∧f484 p q=some r∧(r=true↔p=q):=by
 by_cases hl:p.length=q.length
 ·have key:∀(xs ys:List Int) (i:Nat),p.drop i=xs→q.drop i=ys→xs.length=ys.length→∃r,It p q (i:Int)=some r∧Iw p q (p.length:Int) (i:Int)=some r∧(r=true↔xs=ys):=by
   intro xs
   induction xs with
   |nil=>
    intro ys i hd hd2 Bi;have:ys=[]:=List.length_eq_zero_iff.1 (by simpa using Bi.symm);subst this;refine ⟨true,Mf _ _ _ ?_,Mj _ _ _ _ ?_,by simp⟩<;>rw [dm hd,cond_false]
   |cons x xs ih=>
    intro ys i hd hd2 Bi;cases ys with
    |nil=>cases Bi
    |cons y ys=>
     by_cases e:x=y
     ·obtain ⟨r,g1,g2,g3⟩:=ih ys (i+1) (cH hd) (cH hd2) (by simpa using Bi)
      refine ⟨r,Mf _ _ _ ?_,Mj _ _ _ _ ?_,g3.trans (by rw [e];simp)⟩<;>rw [cR hd,cond_true,bX hd,bX hd2,cond_neg (by rw [bne_eq_false_iff_eq];exact e),dA hd (by omega)]
      ·exact g1
      ·exact g2
     ·refine ⟨false,Mf _ _ _ ?_,Mj _ _ _ _ ?_,by simp [e]⟩<;>rw [cR hd,cond_true,bX hd,bX hd2,cond_pos (by rw [bne_iff_ne];exact e)]
  obtain ⟨r,g1,g2,g3⟩:=key p q 0 rfl rfl hl;refine ⟨r,e445 _ _ ?_,e484 _ _ ?_,g3⟩
  ·rw [cond_neg (by rw [bne_eq_false_iff_eq];omega)];exact g1
  ·rw [cond_neg (by rw [bne_eq_false_iff_eq];omega)];exact g2
 ·refine ⟨false,e445 _ _ ?_,e484 _ _ ?_,⟨fun e=>by (cases e),fun e=>absurd (by rw [e]) hl⟩⟩<;>rw [cond_pos (by rw [bne_iff_ne];omega)]
theorem ZP {l:List Int} (hl:l.length≤1000000):f460 l=some l:=by
 refine fG (E:=EN Q24) ?_;refine lC ?_;have hb:Nat.ble ((List.map (aD .i64) l).length *8) 140737488355328=true:=Nat.ble_eq_true_of_le (by rw [List.length_map];omega);show (bif Nat.ble ((List.map (aD .i64) l).length *8) 140737488355328 then _ else _)=_;rw [hb];rfl
def wZ (P:List (List Int)) (n:Nat) (l:List aF):List bg:=
 l.filterMap fun a=>if P.getD n []++[a.aP]=P.getD a.To.toNat [] then none else some ⟨P.getD a.To.toNat [],P.getD n []++[a.aP]⟩
def oy (P:List (List Int)):Nat→List Node→List bg
 |_,[]=>[]
 |n,x::l=>wZ P n x.cO++oy P (n+1) l
theorem KN {P:List (List Int)} {n:Nat} (l:List aF):(wZ P n l).length≤l.length:=List.length_filterMap_le _ _
theorem KO {P:List (List Int)}:∀(n:Nat) (l:List Node),(∀x∈l,x.cO.length≤12)→(oy P n l).length≤12 *l.length
 |_,[],_=>by simp [oy]
 |n,x::l,h=>by
  have h1:=KN (P:=P) (n:=n) x.cO;have h2:=h x (by simp);have h3:=KO (P:=P) (n+1) l fun y hy=>h y (by simp [hy])
  rw [oy,List.length_append,List.length_cons];omega
section
variable {T F:Nat} {f:FSt} (hf:Can T F f) (hl:K8 f) (hF:F≤1000)
include hf hl hF
theorem Y4:∃P,f415 f=some P∧f416 f=some P∧Fst f P∧f429 f=some (oy P 0 f.aj)∧f409 f=some (oy P 0 f.aj):=by
 have hn:=hl.n;obtain ⟨P,p1,p2,hP⟩:=R5 hf (by omega) hF;refine ⟨P,p1,p2,hP,?_⟩;have hg:∀i,i<f.aj.length→P[i]? =some (P.getD i []):=fun i hi=>by rw [List.getD_eq_getElem?_getD,List.getElem?_eq_getElem (by rw [hP.len];exact hi)];rfl
 have inner:∀{i:Nat} {x:Node},f.aj[i]? =some x→∀(xs:List aF) (k:Nat) (o:List bg),x.cO.drop k=xs→o.length+xs.length≤1000000→∀r,
   (DP P f.aj (f.aj.length:Int) ((i+1:Nat):Int) f (o++wZ P i xs)=some r→z6 P (i:Int) f.aj (f.aj.length:Int) (i:Int) x.cO (x.cO.length:Int) (k:Int) f o x=some r)∧
   (DM P ((i+1:Nat):Int) f (o++wZ P i xs)=some r→zZ P (i:Int) x.cO (k:Int) f o=some r):=by
  intro i x hx xs;have hin:i<f.aj.length:=(List.getElem?_eq_some_iff.1 hx).1;have hxm:=List.mem_of_getElem? hx;have hal:=hl.a x hxm;have hao:=hf.ao hxm;have vh:=hP.ln i hin
  induction xs with
  |nil=>
   intro k o hd _ r;refine ⟨fun hr=>Md _ _ _ _ _ _ _ _ _ _ _ ?_,fun hr=>Mb _ _ _ _ _ _ ?_⟩<;>rw [dm hd,cond_false,cU (by omega)]<;>simpa [wZ] using hr
  |cons a xs ih=>
   intro k o hd ho r;have ha:=hao.ok a (List.mem_of_getElem? (dG hd));obtain ⟨t,ht⟩:=Int.eq_ofNat_of_zero_le ha.2.1;have Vu:t<f.aj.length:=by omega
   have Yu:a.To.toNat=t:=by omega
   have hgt:∀{R:Type} (K:List Int→Option R),bS P a.To K=K (P.getD t []):=fun K=>by rw [ht,eo (hg t Vu)]
   obtain ⟨q,q1,q2,q3⟩:=c445 (p:=P.getD i []++[a.aP]) (q:=P.getD t []) (by rw [List.length_append,List.length_singleton];omega);have hk:=gA hd;rw [List.length_cons] at ho;cases q with
   |true=>
    have e:=q3.1 rfl;have es:wZ P i (a::xs)=wZ P i xs:=by unfold wZ;rw [List.filterMap_cons,Yu,if_pos e]
    rw [es];obtain ⟨r1,r2⟩:=ih (k+1) o (cH hd) (by omega) r;refine ⟨fun hr=>Md _ _ _ _ _ _ _ _ _ _ _ ?_,fun hr=>Mb _ _ _ _ _ _ ?_⟩
    ·rw [cR hd,cond_true,bX hd,eo (hg i hin),ZP (by omega),aH,cM _ (by omega) (by simp) (by omega),hgt,q2,aH,cond_neg (by rfl),cU (by omega)]
     exact r1 hr
    ·rw [cR hd,cond_true,eo (hg i hin),cM _ (by simp) (by omega) (by omega),bX hd,cM _ (by rw [List.nil_append];omega) (by simp) (by omega),bX hd,hgt,List.nil_append,q1,aH,cond_neg (by rfl),cU (by omega)]
     exact r2 hr
   |false=>
    have e:¬P.getD i []++[a.aP]=P.getD t []:=fun e=>by have:=q3.2 e;cases this
    have es:wZ P i (a::xs)=⟨P.getD t [],P.getD i []++[a.aP]⟩::wZ P i xs:=by unfold wZ;rw [List.filterMap_cons,Yu,if_neg e]
    rw [es];obtain ⟨r1,r2⟩:=ih (k+1) (o++[⟨P.getD t [],P.getD i []++[a.aP]⟩]) (cH hd) (by simp;omega) r;rw [List.append_assoc] at r1 r2;refine ⟨fun hr=>Md _ _ _ _ _ _ _ _ _ _ _ ?_,fun hr=>Mb _ _ _ _ _ _ ?_⟩
    ·rw [cR hd,cond_true,bX hd,eo (hg i hin),ZP (by omega),aH,cM _ (by omega) (by simp) (by omega),hgt,q2,aH,cond_pos (by rfl),hgt,cM _ (by omega) (by simp) (by omega),cU (by omega)]
     exact r1 hr
    ·rw [cR hd,cond_true,eo (hg i hin),cM _ (by simp) (by omega) (by omega),bX hd,cM _ (by rw [List.nil_append];omega) (by simp) (by omega),bX hd,hgt,List.nil_append,q1,aH,cond_pos (by rfl),bX hd,hgt,cM _ (by omega) (by simp) (by omega),cU (by omega)]
     exact r2 hr
 have outer:∀(xs:List Node) (i:Nat) (o:List bg),f.aj.drop i=xs→o.length+12 *xs.length≤1000000→
   DP P f.aj (f.aj.length:Int) (i:Int) f o=some (o++oy P i xs)∧DM P (i:Int) f o=some (o++oy P i xs):=by
  intro xs
  induction xs with
  |nil=>
   intro i o hd _;refine ⟨Tg _ _ _ _ _ _ ?_,S9 _ _ _ _ ?_⟩<;>rw [dm hd,cond_false]<;>simp [oy]
  |cons x xs ih=>
   intro i o hd ho;rw [List.length_cons] at ho;have hx:=dG hd;have hal:=hl.a x (List.mem_of_getElem? hx);have xx:=KN (P:=P) (n:=i) x.cO;obtain ⟨r1,r2⟩:=ih (i+1) (o++wZ P i x.cO) (cH hd) (by rw [List.length_append];omega);have es:o++oy P i (x::xs)=o++wZ P i x.cO++oy P (i+1) xs:=by rw [oy,List.append_assoc]
   rw [es];obtain ⟨i1,i2⟩:=inner hx x.cO 0 o rfl (by omega) (o++wZ P i x.cO++oy P (i+1) xs);refine ⟨Tg _ _ _ _ _ _ ?_,S9 _ _ _ _ ?_⟩
   ·rw [cR hd,cond_true,bX hd];exact i1 r1
   ·rw [cR hd,cond_true,bX hd];exact i2 r2
 obtain ⟨r1,r2⟩:=outer f.aj 0 [] rfl (by simp;omega);refine ⟨e429 _ ?_,e409 _ ?_⟩
 ·rw [p1,aH];exact r1
 ·rw [p2,aH];exact r2
theorem OR {P:List (List Int)} (hP:Fst f P):∀s∈oy P 0 f.aj,∃i k,∃g,i<f.aj.length∧(g,k)∈iO f i∧s.A=P.getD k []∧s.B=P.getD i []++[g]∧s.A≠s.B∧wg f s.A=some k∧wg f s.B=some k∧¬s.B<+:s.A:=by
 have key:∀(xs:List Node) (i:Nat),f.aj.drop i=xs→∀s∈oy P i xs,∃i k,∃g,i<f.aj.length∧(g,k)∈iO f i∧s.A=P.getD k []∧s.B=P.getD i []++[g]∧s.A≠s.B:=by
  intro xs
  induction xs with
  |nil=>intro i _ s hs;cases hs
  |cons x xs ih=>
   intro i hd s hs;rw [oy,List.mem_append] at hs;rcases hs with hs|hs
   ·unfold wZ at hs
    obtain ⟨a,ha,e⟩:=List.mem_filterMap.1 hs;split at e
    ·cases e
    ·rename_i hne
     cases e;have hsc:iO f i=Rb x:=by unfold iO;rw [dG hd]
     exact ⟨i,a.To.toNat,a.aP,gA hd,by rw [hsc];exact List.mem_map.2 ⟨a,ha,rfl⟩,rfl,rfl,fun h=>hne h.symm⟩
   ·exact ih (i+1) (cH hd) s hs
 intro s hs;obtain ⟨i,k,g,hi,hm,eA,eB,hne⟩:=key f.aj 0 rfl s hs;have hk:k<f.aj.length:=hf.bd i hi _ hm;refine ⟨i,k,g,hi,hm,eA,eB,hne,by rw [eA];exact hP.at_ k hk,?_,fun h=> ?_⟩
 ·rw [eB];exact ug.2 ⟨i,hP.at_ i hi,(pg (hf.xG i)).2 hm⟩
 ·have h1:(P.getD k []).length≤_:=hP.Zh i hi _ hm
  have h2:=h.length_le;rw [eA,eB,List.length_append,List.length_singleton] at h2;exact hne (h.eq_of_length (by rw [eA,eB,List.length_append,List.length_singleton];omega)).symm
theorem Wa {P:List (List Int)} {i k:Nat} {g:Int} (hi:i<f.aj.length) (hm:(g,k)∈iO f i) (hne:¬P.getD i []++[g]=P.getD k []):(⟨P.getD k [],P.getD i []++[g]⟩:bg)∈oy P 0 f.aj:=by
 have key:∀(xs:List Node) (j:Nat),f.aj.drop j=xs→j≤i→(⟨P.getD k [],P.getD i []++[g]⟩:bg)∈oy P j xs:=by
  intro xs
  induction xs with
  |nil=>intro j hd hj;have:=nw hd;omega
  |cons x xs ih=>
   intro j hd hj;rw [oy,List.mem_append];by_cases e:j=i
   ·subst e
    left
    have hsc:iO f j=Rb x:=by unfold iO;rw [dG hd]
    rw [hsc] at hm;obtain ⟨a,ha,e⟩:=List.mem_map.1 hm;cases e;exact List.mem_filterMap.2 ⟨a,ha,if_neg hne⟩
   ·exact .inr (ih (j+1) (cH hd) (by omega))
 exact key f.aj 0 rfl (by omega)
end
end Go.Proofs.YthppjmoncapdfaaGreatDoor.cl.pf
set_option linter.unusedVariables false
set_option linter.unusedSimpArgs false
set_option linter.unusedSectionVars false
namespace Go.Proofs.YthppjmoncapdfaaGreatDoor.cl.pf
open Go Go.AM
structure PT (T F:Nat) (f:FSt) (L:List FSt):Prop where
 len:L.length≤200
 can:∀p∈L,Can T F p
 low:∀sb,TO T sb→∀p∈L,Le sb p f
 all:∀sb,TO T sb→∀C,Can T F C→(∀p∈L,Le sb p C)→Le sb f C
 cov:∃P:List (List Int),P.length≤12∧∀p∈L,K2 p P
def NH:Prop:=∀n:Nat,n≤64→∃h,f428 (n:Int)=some h∧HM h 1 K0
theorem ZN (t:Int):f425 t=some ⟨[⟨t,[]⟩]⟩:=e425 _ rfl
theorem c414 (t:Int):f414 t=some ⟨[⟨t,[]⟩]⟩:=e414 _ rfl
theorem xH {T F:Nat} {f:FSt} (hf:Can T F f):∀{π:List Int} {i k:Nat},vE (kD f) i π=some k→i<f.aj.length→∀g∈π,0≤g∧g<(F:Int)
 |[],_,_,_,_,g,hg=>by cases hg
 |x::π,i,k,h,hi,g,hg=>by
  simp only [vE] at h;cases e:Rc ((kD f).sc i) x with
  |none=>rw [e] at h;cases h
  |some j=>
   rw [e] at h;have hm:=(pg (hf.xG i)).1 e;rcases List.mem_cons.1 hg with rfl|hg
   ·exact hf.go.ft i hi _ hm
   ·exact xH hf h (hf.bd i hi _ hm) g hg
theorem c427 {T F:Nat} {f:FSt} (hf:Can T F f) (hl:K8 f) (hF:F≤64):∃n:Nat,n≤64∧f427 f=some (n:Int):=by
 have inner:∀{i:Nat} {x:Node},f.aj[i]? =some x→∀(xs:List aF) (k n:Nat),x.cO.drop k=xs→n≤64→(∀m:Nat,m≤64→∃n':Nat,n'≤64∧DO (m:Int) f.aj (f.aj.length:Int) ((i+1:Nat):Int) f=some (n':Int))→
   ∃n':Nat,n'≤64∧Ie (n:Int) f.aj (f.aj.length:Int) (i:Int) x.cO (x.cO.length:Int) (k:Int) f x=some (n':Int):=by
  intro i x hx xs;have hxm:=List.mem_of_getElem? hx;have hin:=(List.getElem?_eq_some_iff.1 hx).1;have hal:=hl.a x hxm;have hn:=hl.n
  induction xs with
  |nil=>
   intro k n hd hn64 hr;obtain ⟨n',h1,h2⟩:=hr n hn64;refine ⟨n',h1,Te _ _ _ _ _ _ _ _ _ ?_⟩;rw [dm hd,cond_false,cU (by omega)];exact h2
  |cons a xs ih=>
   intro k n hd hn64 hr;have ha:=((hf.ao hxm).ok a (List.mem_of_getElem? (dG hd))).1;have hk:=gA hd;obtain ⟨m,hm⟩:=Int.eq_ofNat_of_zero_le ha.1;have hw:IntKind.wrap .i64 (a.aP+1)=((m+1:Nat):Int):=by rw [hm];exact cU (by omega)
   obtain ⟨n',h1,h2⟩:=ih (k+1) (if m+1>n then m+1 else n) (cH hd) (by split<;>omega) hr;refine ⟨n',h1,Te _ _ _ _ _ _ _ _ _ ?_⟩;rw [cR hd,cond_true,bX hd,hw,cU (by omega)];have:(if ((m+1:Nat):Int)>(n:Int) then ((m+1:Nat):Int) else (n:Int))=((if m+1>n then m+1 else n:Nat):Int):=by
    by_cases h:m+1>n
    ·rw [if_pos h,if_pos (by omega)]
    ·rw [if_neg h,if_neg (by omega)]
   rw [this];exact h2
 have outer:∀(xs:List Node) (i n:Nat),f.aj.drop i=xs→n≤64→∃n':Nat,n'≤64∧DO (n:Int) f.aj (f.aj.length:Int) (i:Int) f=some (n':Int):=by
  intro xs
  induction xs with
  |nil=>
   intro i n hd hn;refine ⟨n,hn,Td _ _ _ _ _ ?_⟩;rw [dm hd,cond_false]
  |cons x xs ih=>
   intro i n hd hn;obtain ⟨n',h1,h2⟩:=inner (dG hd) x.cO 0 n rfl hn fun m hm=>ih (i+1) m (cH hd) hm
   refine ⟨n',h1,Td _ _ _ _ _ ?_⟩;rw [cR hd,cond_true,bX hd];exact h2
 obtain ⟨n',h1,h2⟩:=outer f.aj 0 0 rfl (by omega);exact ⟨n',h1,e427 _ h2⟩
section
variable {T F:Nat} {f:FSt} (hf:Can T F f) (hl:K8 f) (hF:F≤64)
include hf hl hF
theorem V0 {P:List (List Int)} (hP:Fst f P) {h:bq} (H:HM h 1 K0):∀(xs:List bg) (i:Nat),(oy P 0 f.aj).drop i=xs→∃ss:List FSt,ss.length=xs.length∧
  (∀o:List FSt,o.length+xs.length≤1000→i+xs.length≤1000→HY (oy P 0 f.aj) ((oy P 0 f.aj).length:Int) (i:Int) o h=some (o++ss)∧H6 (oy P 0 f.aj) (i:Int) o=some (o++ss))∧
  (∀p∈ss,∃s∈xs,QS F s.A s.B p∧K2 p P)∧∀s∈xs,∃p∈ss,QS F s.A s.B p:=by
 have hn:=hl.n;intro xs
 induction xs with
 |nil=>
  intro i hd;refine ⟨[],rfl,fun o ho hi=>⟨S5 _ _ _ _ _ ?_,S7 _ _ _ ?_⟩,fun p hp=>by (cases hp),fun s hs=>by (cases hs)⟩<;>rw [dm hd,cond_false,List.append_nil]
 |cons s xs ih=>
  intro i hd;have hs:=List.mem_of_getElem? (dG hd);obtain ⟨a,k,g,ha,hm,eA,eB,hne,qA,qB,hnp⟩:=OR hf hl (by omega) hP s hs;have hk:k<f.aj.length:=hf.bd a ha _ hm;have fA:=xH hf qA hf.ne;have fB:=xH hf qB hf.ne;have lA:s.A.length≤12:=by rw [eA];have:=hP.ln k hk;omega
  have lB:s.B.length≤13:=by rw [eB,List.length_append,List.length_singleton];have:=hP.ln a ha;omega
  have LY:s.B≠[]:=by rw [eB];simp
  obtain ⟨p,p1,p2,p3⟩:=c438 fA fB H (by omega) (by omega) (by omega);obtain ⟨q,q1,q2⟩:=c439 fA fB (by omega) (by omega) (by omega) LY hnp;have e:=q2.uniq p2;subst e
  have hcov:K2 q P:=p3 P (fun j _=>by
   have:s.A∈P:=by
    rw [eA];have:=List.getElem_mem (l:=P) (n:=k) (by rw [hP.len];exact hk);rw [List.getD_eq_getElem?_getD,List.getElem?_eq_getElem (by rw [hP.len];exact hk)];exact this
   exact hP.pre _ this j) fun j hj=>by
   rw [eB,List.length_append,List.length_singleton] at hj;rw [eB,List.take_append_of_le_length (by omega)];refine hP.pre _ ?_ j;rw [List.getD_eq_getElem?_getD,List.getElem?_eq_getElem (by rw [hP.len];exact ha)];exact List.getElem_mem _
  obtain ⟨ss,s1,s2,s3,s4⟩:=ih (i+1) (cH hd);refine ⟨q::ss,by simp [s1],fun o ho hi=> ?_,fun r hr=> ?_,fun r hr=> ?_⟩
  ·rw [List.length_cons] at ho hi
   obtain ⟨r1,r2⟩:=s2 (o++[q]) (by simp;omega) (by omega);rw [List.append_assoc] at r1 r2;refine ⟨S5 _ _ _ _ _ ?_,S7 _ _ _ ?_⟩
   ·rw [cR hd,cond_true,bX hd,ZN,aH,p1,aH,cM _ (by omega) (by simp) (by omega),cU (by omega)]
    exact r1
   ·rw [cR hd,cond_true,bX hd,bX hd,q1,aH,cM _ (by omega) (by simp) (by omega),cU (by omega)]
    exact r2
  ·rcases List.mem_cons.1 hr with rfl|hr
   ·exact ⟨s,by simp,q2,hcov⟩
   ·obtain ⟨t,ht,h1⟩:=s3 r hr
    exact ⟨t,by simp [ht],h1⟩
  ·rcases List.mem_cons.1 hr with rfl|hr
   ·exact ⟨q,by simp,q2⟩
   ·obtain ⟨t,ht,h1⟩:=s4 r hr
    exact ⟨t,by simp [ht],h1⟩
theorem T0 (HT:NH):∃L S,f400 f=some L∧f401 f=some L∧PT T F f L∧f409 f=some S∧L.length=f.aj.length+S.length∧S.length≤200:=by
 have hn:=hl.n;have h0:=hf.ne;obtain ⟨P,p1,p2,hP,s1,s2⟩:=Y4 hf hl (by omega);obtain ⟨n,n1,n2⟩:=c427 hf hl hF;obtain ⟨h,h1,H⟩:=HT n n1;have xx:(oy P 0 f.aj).length≤12 *f.aj.length:=KO 0 _ hl.a;obtain ⟨ss,q1,q2,q3,q4⟩:=V0 hf hl hF hP H (oy P 0 f.aj) 0 rfl;have hg:∀i,i<f.aj.length→P[i]? =some (P.getD i []):=fun i hi=>by rw [List.getD_eq_getElem?_getD,List.getElem?_eq_getElem (by rw [hP.len];exact hi)];rfl
 have hmem:∀i,i<f.aj.length→P.getD i []∈P:=fun i hi=>List.mem_of_getElem? (hg i hi)
 let ch:Nat→FSt:=fun i=>lu (P.getD i []) (pq f i)
 have key:∀(k i:Nat),f.aj.length=i+k→HW P (P.length:Int) (i:Int) f ((List.range i).map ch)=some ((List.range f.aj.length).map ch++ss)∧HZ P (i:Int) f ((List.range i).map ch)=some ((List.range f.aj.length).map ch++ss):=by
  intro k
  induction k with
  |zero=>
   intro i hi;have e:i=f.aj.length:=by omega
   subst e;obtain ⟨r1,r2⟩:=q2 ((List.range f.aj.length).map ch) (by simp;omega) (by omega);have vh:=hP.len;refine ⟨S4 _ _ _ _ _ ?_,S6 _ _ _ _ ?_⟩
   ·rw [cond_neg (by rw [decide_eq_false_iff_not];omega),n2,aH,h1,aH,s1,aH];exact r1
   ·rw [cond_neg (by rw [decide_eq_false_iff_not];omega),s2,aH];exact r2
  |succ k ih=>
   intro i hi;have hin:i<f.aj.length:=by omega
   have vh:=hP.len;have hil:=hP.ln i hin;obtain ⟨r1,r2⟩:=ih (i+1) (by omega);have et:pq f i=f.aj[i].dN:=uX hin;have es:(List.range (i+1)).map ch=(List.range i).map ch++[lu (P.getD i []) f.aj[i].dN]:=by
    rw [List.range_succ,List.map_append,←et];rfl
   rw [es] at r1 r2;refine ⟨S4 _ _ _ _ _ ?_,S6 _ _ _ _ ?_⟩
   ·rw [cond_pos (by rw [decide_eq_true_iff];omega),eo (hg i hin),ek hin,ZN,aH,Xw (by omega),aH,cM _ (by simp;omega) (by simp) (by omega),cU (by omega)];exact r1
   ·rw [cond_pos (by rw [decide_eq_true_iff];omega),eo (hg i hin),ek hin,c414,aH,c430 (by omega),aH,cM _ (by simp;omega) (by simp) (by omega),cU (by omega)];exact r2
 obtain ⟨r1,r2⟩:=key f.aj.length 0 (by omega);have Zm:1≤T:=by have:=hf.go.tp 0 h0;omega
 have hch:∀i,i<f.aj.length→(∀g∈P.getD i [],0≤g∧g<(F:Int))∧0≤pq f i∧pq f i<(T:Int):=fun i hi=>⟨xH hf (hP.at_ i hi) h0,hf.go.tp i hi⟩
 refine ⟨(List.range f.aj.length).map ch++ss,_,e400 _ ?_,e401 _ ?_,⟨?_,fun p hp=> ?_,fun sb hT p hp=> ?_,fun sb hT C hC hall=> ?_,⟨P,by rw [hP.len];omega,fun p hp=> ?_⟩⟩,s2,?_,by omega⟩
 ·rw [p1,aH];exact r1
 ·rw [p2,aH];exact r2
 ·rw [List.length_append,List.length_map,List.length_range];omega
 ·rcases List.mem_append.1 hp with hp|hp
  ·obtain ⟨i,hi,rfl⟩:=List.mem_map.1 hp
   have:=hch i (List.mem_range.1 hi);exact nv (by omega) this.1 this.2
  ·obtain ⟨s,_,hs,_⟩:=q3 p hp
   exact hs.can.up Zm
 ·rcases List.mem_append.1 hp with hp|hp
  ·obtain ⟨i,hi,rfl⟩:=List.mem_map.1 hp
   have hi:=List.mem_range.1 hi;have:=hch i hi;exact (RH hT this.1 this.2 hf).2 ⟨i,hP.at_ i hi,hT.refl this.2.1 this.2.2⟩
  ·obtain ⟨s,hs,hs2,_⟩:=q3 p hp
   obtain ⟨a,k,g,ha,hm,eA,eB,hne,qA,qB,hnp⟩:=OR hf hl (by omega) hP s hs;exact (hs2.le hT Zm hf).2 ⟨k,qA,qB⟩
 ·have CC:∀i,i<f.aj.length→∃k,wg C (P.getD i [])=some k∧sb (pq f i) (pq C k):=fun i hi=>by
   have:=hch i hi;exact (RH hT this.1 this.2 hC).1 (hall _ (List.mem_append_left _ (List.mem_map.2 ⟨i,List.mem_range.2 hi,rfl⟩)))
  refine ⟨fun i=>(wg C (P.getD i [])).getD 0,?_,fun i hi=> ?_⟩
  ·show (wg C (P.getD 0 [])).getD 0=0
   rw [hP.zero];rfl
  ·have hin:=hf.UB hi
   obtain ⟨k,hk,hs⟩:=CC i hin;refine ⟨?_,fun p hp=> ?_⟩
   ·show sb (pq f i) (pq C ((wg C (P.getD i [])).getD 0))
    rw [hk];exact hs
   ·have hp2:p.2<f.aj.length:=hf.bd i hin _ hp
    obtain ⟨k2,hk2,_⟩:=CC p.2 hp2;show (p.1,(wg C (P.getD p.2 [])).getD 0)∈iO C ((wg C (P.getD i [])).getD 0);rw [hk,hk2];have hpath:wg C (P.getD i []++[p.1])=some k2:=by
     by_cases e:P.getD i []++[p.1]=P.getD p.2 []
     ·rw [e];exact hk2
     ·obtain ⟨q,hq,hs⟩:=q4 _ (Wa hf hl (by omega) hin hp e)
      obtain ⟨j,j1,j2⟩:=(hs.le hT Zm hC).1 (hall q (List.mem_append_right _ hq));have j1:wg C (P.getD p.2 [])=some j:=j1;rw [hk2] at j1;cases j1;exact j2
    obtain ⟨j,j1,j2⟩:=ug.1 hpath;have j1:wg C (P.getD i [])=some j:=j1;rw [hk] at j1;cases j1;exact (pg (hC.xG k)).1 j2
 ·rcases List.mem_append.1 hp with hp|hp
  ·obtain ⟨i,hi,rfl⟩:=List.mem_map.1 hp
   exact U9 fun j _=>hP.pre _ (hmem i (List.mem_range.1 hi)) j
  ·obtain ⟨s,_,_,hs⟩:=q3 p hp
   exact hs
 ·rw [List.length_append,List.length_map,List.length_range,q1]
end
end Go.Proofs.YthppjmoncapdfaaGreatDoor.cl.pf
