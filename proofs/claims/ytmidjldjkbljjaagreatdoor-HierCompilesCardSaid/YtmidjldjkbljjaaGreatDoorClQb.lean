/- The Closure laws. -/
import Derived.Test.YtmidjldjkbljjaaGreatDoorClT
import Derived.Test.YtmidjldjkbljjaaGreatDoorClY
import Derived.Test.YtmidjldjkbljjaaGreatDoorAmR
import Derived.Test.YtmidjldjkbljjaaGreatDoorClBm
set_option linter.unusedVariables false
set_option linter.unusedSimpArgs false
namespace Go.Proofs.YtmidjldjkbljjaaGreatDoor.cl
open Go Go.AM Go.RowKit
theorem EG {μ:Mu} {loc:Nat→Value} {w w':World} {e sz g n cap:Nat} {ys:List (List AV)} {us:List Value} {cur cur':Array Value}
  (fP:PS μ w) (mG:loc 10000= .slice (some ⟨g,0,none⟩) n cap) (hcap:n≤cap) (KG:cap≤maxLen) (hsize:cur.size=cap *sz) (hown:Gi w.heap.size (gU False loc [10000]) 10000 g) (qk:∀j,μ g j=none)
  (hg:w'.heap[g]? =some (.cells cur' e (0,0))) (hs:cur'.size=cur.size) (yc:cur'.toList.take (n *sz)=us) (yb:us.length=n *sz) (Rs:∀b,b<w.heap.size→b≠g→w'.heap[b]? =w.heap[b]?)
  (hos:w'.os=w.os) (ht:w'.tape=w.tape) (hout:w'.output=w.output) (hgr:w.heap.size≤w'.heap.size) (XI:ys.length=n) (hrc:cG μ sz ys us):
  fk False μ loc [10000] (.fG []) [(10000, .row e sz ys)] w (.tuple #[]) μ loc w' where
 ext:=⟨Mu.le.refl _,fun _ _ _ h=> .inl h⟩
 r7:=fun b j x hx=>by
  have h:=fP b j x hx;have hne:b≠g:=fun e=>by subst e;rw [qk j] at hx;cases hx
  rw [fT (Rs b (tu h) hne) j];exact h
 res:= .inl (by rw [rep.eq_def];exact ⟨[],rfl,rfl⟩)
 obs:=fun id o h=>by
  have hid:=mg h;subst hid;have ho:Ob.row e sz ys=o:=by simpa [find] using h
  subst ho;refine ⟨us,⟨by rw [yb,XI], .inr ⟨g,cap,cur',by rw [mG,XI],Nat.zero_le _,hg,by rw [XI];exact hcap,KG,by rw [hs,hsize],by rw [XI];exact yc⟩⟩,hrc,fun q hq=> ?_⟩;have:q=g:=by
   rw [mG] at hq;have h2:some g=some q:=fM.1 hq;exact (Option.some.inj h2).symm
  subst this;exact ⟨hown,qk⟩
 apart:=fun i j oi oj hi hj hij=>absurd ((mg hi).trans (mg hj).symm) hij
 keep:=fun b hlt hl=>Rs b hlt (fun e=>by
  subst e
  exact hl ⟨10000,loc 10000,by simp [gU],by rw [mG];exact fM.2 rfl⟩)
 fix:=fun _ _ _=>rfl
 os:=hos
 tape:=ht
 output:=hout
 grown:=hgr
 drawn:=fun h=>h.elim
end Go.Proofs.YtmidjldjkbljjaaGreatDoor.cl
set_option linter.unusedVariables false
set_option linter.unusedSimpArgs false
namespace Go.Proofs.YtmidjldjkbljjaaGreatDoor.cl
open Go Go.AM Go.RowKit
theorem IJ (l:List (List UInt8)):(l.mergeSort fun x y=>decide (x≤y))=eA Op.bytesLess l:=by
 have e:(fun x y:List UInt8=>decide (x≤y))=fun x y=> !Op.bytesLess y x:=by
  funext x y
  rw [bytesLess_eq];by_cases h:y<x
  ·have:¬x≤y:=fun h'=>h' h
   simp [h,this]
  ·have:x≤y:=h
   simp [h,this]
 rw [e];obtain ⟨s1,s2⟩:=mh Op.bytesLess (fun a b h=>jt h) xX l;refine tw ((List.mergeSort_perm l _).trans s2.symm) ?_ s1 ?_
 ·have:=List.pairwise_mergeSort (le:=fun x y:List UInt8=> !Op.bytesLess y x) (fun a b c h1 h2=>by
   simp only [Bool.not_eq_true'] at h1 h2⊢;cases hc:Op.bytesLess c a with
   |false=>rfl
   |true=>
    have:=xX _ _ _ hc h1
    rw [h2] at this;cases this) (fun a b=>by
   cases hc:Op.bytesLess b a with
   |false=>simp
   |true=>simp [jt hc]) l
  refine this.imp ?_;intro a b h;simpa using h
 ·intro x _ y _ h1 h2
  apply Classical.byContradiction;intro hne;have:=me _ _ h1 hne;rw [h2] at this;cases this
open Go.Sort in
theorem Bn {α:Type} [Inhabited α] {enc:α→Value} {w:World} {n g:Nat} {d:Array α} {os:Array Obj} {cur:Array Value} {e:TypeId} (hg:w.heap[g]? =some (.cells cur e (0,0))):
  (grow (putRow enc (Sort.ahead w n) g 0 d) os).heap[g]? =some (.cells (putCells enc 0 d cur) e (0,0))∧(∀b,b<w.heap.size→b≠g→(grow (putRow enc (Sort.ahead w n) g 0 d) os).heap[b]? =w.heap[b]?)∧w.heap.size≤(grow (putRow enc (Sort.ahead w n) g 0 d) os).heap.size:=by
 have hlt:g<w.heap.size:=(Array.getElem?_eq_some_iff.1 hg).1;have hh:(grow (putRow enc (Sort.ahead w n) g 0 d) os).heap=w.heap.modify g (onCells (putCells enc 0 d))++os:=rfl;rw [hh];refine ⟨?_,fun b hb hne=> ?_,?_⟩
 ·rw [Array.getElem?_append_left (by simpa using hlt),Array.getElem?_modify,if_pos rfl,hg];rfl
 ·rw [Array.getElem?_append_left (by simpa using hb),Array.getElem?_modify,if_neg (fun h=>hne h.symm)]
 ·simp
open Go.Sort in
theorem JK {α:Type} [Inhabited α] {enc:α→Value} {l:List α} {cur:Array Value} (h:l.length≤cur.size):(putCells enc 0 l.toArray cur).size=cur.size∧(putCells enc 0 l.toArray cur).toList.take l.length=l.map enc:=by
 refine ⟨by simp [putCells],?_⟩;apply List.ext_getElem?;intro i;by_cases hi:i<l.length
 ·rw [List.getElem?_take,if_pos hi,List.getElem?_map,List.getElem?_eq_getElem hi]
  have hc:i<cur.size:=by omega
  simp [putCells,hi,hc,List.getElem?_eq_getElem hi]
 ·rw [List.getElem?_eq_none (by simp;omega),List.getElem?_eq_none (by simp;omega)]
theorem uM {μ:Mu}:∀{l:List (List UInt8)} {vs:List Value},cG μ 1 (l.map aA) vs↔vs=l.map encStr:=by
 intro l
 induction l with
 |nil=>intro vs;exact Iff.rfl
 |cons s l ih=>
  intro vs;constructor
  ·rintro ⟨us,ws,rfl,hu,_,hw⟩
   have YQ:=hu.1;simp only [aA,bF] at YQ;obtain ⟨u,us',rfl,hr,rfl⟩:=YQ;rw [rep] at hr;subst hr;rw [ih.1 hw];rfl
  ·rintro rfl
   exact ⟨[encStr s],l.map encStr,rfl,⟨⟨_,_,rfl,by rw [rep],rfl⟩,fun u hu=>by
    simp only [List.mem_singleton] at hu;subst hu;rfl⟩,rfl,ih.2 rfl⟩
theorem EF {μ:Mu} {loc:Nat→Value} {w:World} {o:Ob} (fP:PS μ w) (cU:gV w.heap.size (gU False loc [10000]) μ loc w 10000 o):fk False μ loc [10000] (.fG []) [(10000,o)] w (.tuple #[]) μ loc w where
 ext:=⟨Mu.le.refl _,fun _ _ _ h=> .inl h⟩
 r7:=fP
 res:= .inl (by rw [rep.eq_def];exact ⟨[],rfl,rfl⟩)
 obs:=fun id o' h=>by
  have hid:=mg h;subst hid;have ho:o=o':=by simpa [find] using h
  subst ho;exact cU
 apart:=fun i j oi oj hi hj hij=>absurd ((mg hi).trans (mg hj).symm) hij
 keep:=fun _ _ _=>rfl
 fix:=fun _ _ _=>rfl
 os:=rfl
 tape:=rfl
 output:=rfl
 grown:=Nat.le_refl _
 drawn:=fun h=>h.elim
theorem Yt {μ:Mu} {loc:Nat→Value} {w:World} {l:List (List UInt8)} (hlen:l.length≤1073741824) (fP:PS μ w) (cU:gV w.heap.size (gU False loc [10000]) μ loc w 10000 (.row 9 1 (l.map aA))):
  Calls P 135 #[loc 10000] w fun e w'=>∃v μ' loc',e= .returned v∧fk False μ loc [10000] (.fG []) [(10000, .row 9 1 ((eA Op.bytesLess l).map aA))] w v μ' loc' w':=by
 have ql:=cU;obtain ⟨vs,hown,hrc,tV⟩:=ql;have hvs:=uM.1 hrc;rcases hown.2 with ⟨e1,h0⟩|⟨g,cap,cur,e1,_,hg,hcap,KG,hsz,qn⟩
 ·have hl:l=[]:=by
   cases l with
   |nil=>rfl
   |cons a b=>simp at h0
  subst hl;have hc:Calls P 135 #[.slice none 0 0] w fun e w'=>e= .returned (.tuple #[])∧w'=w:=Any.slices_Sort_string_none Tryz.lays190 none 0 w
  rw [e1];refine hc.mono ?_
  rintro e w' ⟨rfl,rfl⟩
  exact ⟨_,μ,loc,rfl,EF fP cU⟩
 ·have JT:(l.map aA).length=l.length:=by simp
  rw [JT] at e1 hcap qn;rw [Nat.mul_one] at hsz qn;rw [hvs] at qn;have hin:gi (loc 10000) g:=by rw [e1];exact fM.2 rfl
  obtain ⟨Rt,qk⟩:=tV g hin;have hlt:g<w.heap.size:=(Array.getElem?_eq_some_iff.1 hg).1;have hcell:∀(j:Nat) (hj:j<l.length),cur[j]? =some (encStr l[j]):=by
   intro j hj;have h1:(cur.toList.take l.length)[j]? =some (encStr l[j]):=by
    rw [qn,List.getElem?_map,List.getElem?_eq_getElem hj];rfl
   rw [List.getElem?_take,if_pos hj] at h1;simpa using h1
  have hH:Go.Sort.Holds encStr w g 0 l.toArray:=by
   intro j hj;have hj':j<l.length:=by simpa using hj
   have hcj:=hcell j hj';rw [Nat.zero_add];refine ⟨?_,?_⟩
   ·unfold World.cell?
    simp only [hg];simp [hcj,hj']
   ·unfold World.frozen?
    simp [hg]
  have hc:Calls P 135 #[.slice (some ⟨g,0,none⟩) l.length cap] w fun e w'=>e= .returned (.tuple #[])∧∃n os,w'=Go.Sort.grow (Go.Sort.putRow encStr (Go.Sort.ahead w n) g 0 (l.mergeSort fun x y=>decide (x≤y)).toArray) os:=Any.slices_Sort_string Tryz.lays190 g 0 cap l w hH hlt (by omega)
  rw [e1];refine hc.mono ?_
  rintro e w' ⟨rfl,n,os,rfl⟩
  rw [IJ];have OL:(eA Op.bytesLess l).length=l.length:=(mh Op.bytesLess (fun a b h=>jt h) xX l).2.length_eq;obtain ⟨k1,k2,k3⟩:=Bn (enc:=encStr) (n:=n) (d:=(eA Op.bytesLess l).toArray) (os:=os) hg;obtain ⟨t1,t2⟩:=JK (enc:=encStr) (l:=eA Op.bytesLess l) (cur:=cur) (by omega);refine ⟨_,μ,loc,rfl,EG (cur:=cur) (us:=(eA Op.bytesLess l).map encStr) fP e1 hcap KG (by rw [Nat.mul_one];exact hsz) Rt qk k1 t1 (by rw [Nat.mul_one,←OL];exact t2) (by simp [OL]) k2 rfl rfl rfl k3 (by simp [OL]) (uM.2 rfl)⟩
end Go.Proofs.YtmidjldjkbljjaaGreatDoor.cl
