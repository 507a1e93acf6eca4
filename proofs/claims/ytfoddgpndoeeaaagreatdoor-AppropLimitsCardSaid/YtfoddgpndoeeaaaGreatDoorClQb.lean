/- The Closure laws. -/
import Derived.Test.YtfoddgpndoeeaaaGreatDoorClT
import Derived.Test.YtfoddgpndoeeaaaGreatDoorClY
import Derived.Test.YtfoddgpndoeeaaaGreatDoorAmR
import Derived.Test.YtfoddgpndoeeaaaGreatDoorClBm
set_option linter.unusedVariables false
set_option linter.unusedSimpArgs false
namespace Go.Proofs.YtfoddgpndoeeaaaGreatDoor.cl
open Go Go.AM Go.RowKit
theorem Cg {μ:Mu} {loc:Nat→Value} {w w':World} {e sz g n cap:Nat} {ys:List (List AV)} {us:List Value} {cur cur':Array Value}
  (fm:Mk μ w) (ki:loc 10000= .slice (some ⟨g,0,none⟩) n cap) (hcap:n≤cap) (HW:cap≤maxLen) (hsize:cur.size=cap *sz) (hown:yd w.heap.size (gi False loc [10000]) 10000 g) (nR:∀j,μ g j=none)
  (hg:w'.heap[g]? =some (.cells cur' e (0,0))) (hs:cur'.size=cur.size) (ua:cur'.toList.take (n *sz)=us) (xw:us.length=n *sz) (Vv:∀b,b<w.heap.size→b≠g→w'.heap[b]? =w.heap[b]?)
  (hos:w'.os=w.os) (ht:w'.tape=w.tape) (hout:w'.output=w.output) (hgr:w.heap.size≤w'.heap.size) (Ti:ys.length=n) (hrc:bV μ sz ys us):
  eD False μ loc [10000] (.e9 []) [(10000, .row e sz ys)] w (.tuple #[]) μ loc w' where
 ext:=⟨Mu.le.refl _,fun _ _ _ h=> .inl h⟩
 ou:=fun b j x hx=>by
  have h:=fm b j x hx;have hne:b≠g:=fun e=>by subst e;rw [nR j] at hx;cases hx
  rw [fG (Vv b (rD h) hne) j];exact h
 res:= .inl (by rw [rep.eq_def];exact ⟨[],rfl,rfl⟩)
 obs:=fun id o h=>by
  have hid:=kY h;subst hid;have ho:Ob.row e sz ys=o:=by simpa [find] using h
  subst ho;refine ⟨us,⟨by rw [xw,Ti], .inr ⟨g,cap,cur',by rw [ki,Ti],Nat.zero_le _,hg,by rw [Ti];exact hcap,HW,by rw [hs,hsize],by rw [Ti];exact ua⟩⟩,hrc,fun q hq=> ?_⟩;have:q=g:=by
   rw [ki] at hq;have h2:some g=some q:=eT.1 hq;exact (Option.some.inj h2).symm
  subst this;exact ⟨hown,nR⟩
 apart:=fun i j oi oj hi hj hij=>absurd ((kY hi).trans (kY hj).symm) hij
 keep:=fun b hlt hl=>Vv b hlt (fun e=>by
  subst e
  exact hl ⟨10000,loc 10000,by simp [gi],by rw [ki];exact eT.2 rfl⟩)
 fix:=fun _ _ _=>rfl
 os:=hos
 tape:=ht
 output:=hout
 grown:=hgr
 drawn:=fun h=>h.elim
end Go.Proofs.YtfoddgpndoeeaaaGreatDoor.cl
set_option linter.unusedVariables false
set_option linter.unusedSimpArgs false
namespace Go.Proofs.YtfoddgpndoeeaaaGreatDoor.cl
open Go Go.AM Go.RowKit
theorem FW (l:List (List UInt8)):(l.mergeSort fun x y=>decide (x≤y))=dP Op.bytesLess l:=by
 have e:(fun x y:List UInt8=>decide (x≤y))=fun x y=> !Op.bytesLess y x:=by
  funext x y
  rw [bytesLess_eq];by_cases h:y<x
  ·have:¬x≤y:=fun h'=>h' h
   simp [h,this]
  ·have:x≤y:=h
   simp [h,this]
 rw [e];obtain ⟨s1,s2⟩:=k9 Op.bytesLess (fun a b h=>iX h) vB l;refine rF ((List.mergeSort_perm l _).trans s2.symm) ?_ s1 ?_
 ·have:=List.pairwise_mergeSort (le:=fun x y:List UInt8=> !Op.bytesLess y x) (fun a b c h1 h2=>by
   simp only [Bool.not_eq_true'] at h1 h2⊢;cases hc:Op.bytesLess c a with
   |false=>rfl
   |true=>
    have:=vB _ _ _ hc h1
    rw [h2] at this;cases this) (fun a b=>by
   cases hc:Op.bytesLess b a with
   |false=>simp
   |true=>simp [iX hc]) l
  refine this.imp ?_;intro a b h;simpa using h
 ·intro x _ y _ h1 h2
  apply Classical.byContradiction;intro hne;have:=kX _ _ h1 hne;rw [h2] at this;cases this
open Go.Sort in
theorem ze {α:Type} [Inhabited α] {enc:α→Value} {w:World} {n g:Nat} {d:Array α} {os:Array Obj} {cur:Array Value} {e:TypeId} (hg:w.heap[g]? =some (.cells cur e (0,0))):
  (grow (putRow enc (Sort.ahead w n) g 0 d) os).heap[g]? =some (.cells (putCells enc 0 d cur) e (0,0))∧(∀b,b<w.heap.size→b≠g→(grow (putRow enc (Sort.ahead w n) g 0 d) os).heap[b]? =w.heap[b]?)∧w.heap.size≤(grow (putRow enc (Sort.ahead w n) g 0 d) os).heap.size:=by
 have hlt:g<w.heap.size:=(Array.getElem?_eq_some_iff.1 hg).1;have hh:(grow (putRow enc (Sort.ahead w n) g 0 d) os).heap=w.heap.modify g (onCells (putCells enc 0 d))++os:=rfl;rw [hh];refine ⟨?_,fun b hb hne=> ?_,?_⟩
 ·rw [Array.getElem?_append_left (by simpa using hlt),Array.getElem?_modify,if_pos rfl,hg];rfl
 ·rw [Array.getElem?_append_left (by simpa using hb),Array.getElem?_modify,if_neg (fun h=>hne h.symm)]
 ·simp
open Go.Sort in
theorem GQ {α:Type} [Inhabited α] {enc:α→Value} {l:List α} {cur:Array Value} (h:l.length≤cur.size):(putCells enc 0 l.toArray cur).size=cur.size∧(putCells enc 0 l.toArray cur).toList.take l.length=l.map enc:=by
 refine ⟨by simp [putCells],?_⟩;apply List.ext_getElem?;intro i;by_cases hi:i<l.length
 ·rw [List.getElem?_take,if_pos hi,List.getElem?_map,List.getElem?_eq_getElem hi]
  have hc:i<cur.size:=by omega
  simp [putCells,hi,hc,List.getElem?_eq_getElem hi]
 ·rw [List.getElem?_eq_none (by simp;omega),List.getElem?_eq_none (by simp;omega)]
theorem sS {μ:Mu}:∀{l:List (List UInt8)} {vs:List Value},bV μ 1 (l.map aI) vs↔vs=l.map encStr:=by
 intro l
 induction l with
 |nil=>intro vs;exact Iff.rfl
 |cons s l ih=>
  intro vs;constructor
  ·rintro ⟨us,ws,rfl,hu,_,hw⟩
   have Uf:=hu.1;simp only [aI,aU] at Uf;obtain ⟨u,us',rfl,hr,rfl⟩:=Uf;rw [rep] at hr;subst hr;rw [ih.1 hw];rfl
  ·rintro rfl
   exact ⟨[encStr s],l.map encStr,rfl,⟨⟨_,_,rfl,by rw [rep],rfl⟩,fun u hu=>by
    simp only [List.mem_singleton] at hu;subst hu;rfl⟩,rfl,ih.2 rfl⟩
theorem Ce {μ:Mu} {loc:Nat→Value} {w:World} {o:Ob} (fm:Mk μ w) (cz:gB w.heap.size (gi False loc [10000]) μ loc w 10000 o):eD False μ loc [10000] (.e9 []) [(10000,o)] w (.tuple #[]) μ loc w where
 ext:=⟨Mu.le.refl _,fun _ _ _ h=> .inl h⟩
 ou:=fm
 res:= .inl (by rw [rep.eq_def];exact ⟨[],rfl,rfl⟩)
 obs:=fun id o' h=>by
  have hid:=kY h;subst hid;have ho:o=o':=by simpa [find] using h
  subst ho;exact cz
 apart:=fun i j oi oj hi hj hij=>absurd ((kY hi).trans (kY hj).symm) hij
 keep:=fun _ _ _=>rfl
 fix:=fun _ _ _=>rfl
 os:=rfl
 tape:=rfl
 output:=rfl
 grown:=Nat.le_refl _
 drawn:=fun h=>h.elim
theorem TU {μ:Mu} {loc:Nat→Value} {w:World} {l:List (List UInt8)} (hlen:l.length≤1073741824) (fm:Mk μ w) (cz:gB w.heap.size (gi False loc [10000]) μ loc w 10000 (.row 9 1 (l.map aI))):
  Calls P 43 #[loc 10000] w fun e w'=>∃v μ' loc',e= .returned v∧eD False μ loc [10000] (.e9 []) [(10000, .row 9 1 ((dP Op.bytesLess l).map aI))] w v μ' loc' w':=by
 have nS:=cz;obtain ⟨vs,hown,hrc,rX⟩:=nS;have hvs:=sS.1 hrc;rcases hown.2 with ⟨e1,h0⟩|⟨g,cap,cur,e1,_,hg,hcap,HW,hsz,nT⟩
 ·have hl:l=[]:=by
   cases l with
   |nil=>rfl
   |cons a b=>simp at h0
  subst hl;have hc:Calls P 43 #[.slice none 0 0] w fun e w'=>e= .returned (.tuple #[])∧w'=w:=Any.slices_Sort_string_none Tryz.lays190 none 0 w
  rw [e1];refine hc.mono ?_
  rintro e w' ⟨rfl,rfl⟩
  exact ⟨_,μ,loc,rfl,Ce fm cz⟩
 ·have Md:(l.map aI).length=l.length:=by simp
  rw [Md] at e1 hcap nT;rw [Nat.mul_one] at hsz nT;rw [hvs] at nT;have hin:ff (loc 10000) g:=by rw [e1];exact eT.2 rfl
  obtain ⟨NB,nR⟩:=rX g hin;have hlt:g<w.heap.size:=(Array.getElem?_eq_some_iff.1 hg).1;have hcell:∀(j:Nat) (hj:j<l.length),cur[j]? =some (encStr l[j]):=by
   intro j hj;have h1:(cur.toList.take l.length)[j]? =some (encStr l[j]):=by
    rw [nT,List.getElem?_map,List.getElem?_eq_getElem hj];rfl
   rw [List.getElem?_take,if_pos hj] at h1;simpa using h1
  have hH:Go.Sort.Holds encStr w g 0 l.toArray:=by
   intro j hj;have hj':j<l.length:=by simpa using hj
   have hcj:=hcell j hj';rw [Nat.zero_add];refine ⟨?_,?_⟩
   ·unfold World.cell?
    simp only [hg];simp [hcj,hj']
   ·unfold World.frozen?
    simp [hg]
  have hc:Calls P 43 #[.slice (some ⟨g,0,none⟩) l.length cap] w fun e w'=>e= .returned (.tuple #[])∧∃n os,w'=Go.Sort.grow (Go.Sort.putRow encStr (Go.Sort.ahead w n) g 0 (l.mergeSort fun x y=>decide (x≤y)).toArray) os:=Any.slices_Sort_string Tryz.lays190 g 0 cap l w hH hlt (by omega)
  rw [e1];refine hc.mono ?_
  rintro e w' ⟨rfl,n,os,rfl⟩
  rw [FW];have vG:(dP Op.bytesLess l).length=l.length:=(k9 Op.bytesLess (fun a b h=>iX h) vB l).2.length_eq;obtain ⟨k1,k2,k3⟩:=ze (enc:=encStr) (n:=n) (d:=(dP Op.bytesLess l).toArray) (os:=os) hg;obtain ⟨t1,t2⟩:=GQ (enc:=encStr) (l:=dP Op.bytesLess l) (cur:=cur) (by omega);refine ⟨_,μ,loc,rfl,Cg (cur:=cur) (us:=(dP Op.bytesLess l).map encStr) fm e1 hcap HW (by rw [Nat.mul_one];exact hsz) NB nR k1 t1 (by rw [Nat.mul_one,←vG];exact t2) (by simp [vG]) k2 rfl rfl rfl k3 (by simp [vG]) (sS.2 rfl)⟩
end Go.Proofs.YtfoddgpndoeeaaaGreatDoor.cl
