/- THE ABSTRACT MACHINE. -/
import Derived.Test.YtmidjldjkbljjaaGreatDoorAmPure
set_option linter.unusedVariables false
set_option linter.unusedSimpArgs false
namespace Go.AM
open Go.RowKit
theorem N9 {α:Type} (k:Ask α):∀w:World,w.drawn≤(w.ask k).2.drawn:=by
 induction k with
 |done a=>intro w;exact Nat.le_refl _
 |ask what range k ih=>
  intro w;unfold World.ask;dsimp only;split
  ·exact ih 0 w
  ·exact Nat.le_trans (Nat.le_succ _) (ih _ { w with drawn:=w.drawn+1 })
theorem Pp (w:World) (c:Sys):w.drawn≤(w.sys c).2.drawn:=by
 unfold World.sys;have h:=N9 (Kernel.perform c w.os) w;split
 ·exact Nat.le_refl _
 ·rename_i e;rw [e] at h;exact h
theorem Bf {p:Program} {w w':World} {a:Addr} {v:Value} {at_:Bool} {l:List Addr} (h:w.farStore p a v at_= .ok (w',l)):w'.drawn=w.drawn:=by
 unfold World.farStore at h;split at h
 ·split at h
  ·rename_i u r e
   injection h with h;subst h
   unfold World.viewStore at e;simp only [bind,Except.bind,pure,Except.pure,throw,throwThe,MonadExceptOf.throw] at e
   repeat' split at e
   all_goals first|(cases e;done)|skip
   all_goals (injection e with e;simp only [Prod.mk.injEq] at e;rw [←e.1])
  ·cases h
 ·cases h
theorem Pj {α:Type} {p:Program}:∀{m:Sem α} {w w':World} {v:α},m.run p w= .ok v w'→w.drawn≤w'.drawn:=by
 intro m
 induction m with
 |pure a=>intro w w' v h;simp only [Sem.run] at h;injection h with _ h;subst h;exact Nat.le_refl _
 |load m a k ih=>
  intro w w' v h;simp only [Sem.run] at h;split at h
  ·exact ih _ h
  ·split at h
   ·exact ih _ h
   ·cases h
 |store m a x k ih=>
  intro w w' v h;cases x<;>simp only [Sem.run] at h
  all_goals first|(cases h;done)|skip
  all_goals
   split at h
   ·split at h
    ·cases h
    ·have:=ih h
     rename_i x _ _ _;have e:∀y,(w.setCell a y).drawn=w.drawn:=fun y=>by unfold World.setCell;split<;>rfl
     rw [e] at this;exact this
   ·split at h
    ·rename_i e
     have:=ih h;have:=Bf e;omega
    ·cases h
 |new o k ih=>intro w w' v h;simp only [Sem.run] at h;have:=ih _ h;exact this
 |shape r k ih=>intro w w' v h;simp only [Sem.run] at h;exact ih _ h
 |freeze a n k ih=>
  intro w w' v h;simp only [Sem.run] at h;have:=ih h;have e:(w.freeze a n).drawn=w.drawn:=by unfold World.freeze;split<;>rfl
  omega
 |frozen a k ih=>intro w w' v h;simp only [Sem.run] at h;exact ih _ h
 |getObj r k ih=>
  intro w w' v h;simp only [Sem.run] at h;split at h
  ·cases h
  ·exact ih _ h
  ·cases h
 |setObj r o k ih=>
  intro w w' v h;simp only [Sem.run] at h;split at h
  ·cases h
  ·have:=ih h;exact this
  ·cases h
 |choose q k ih=>
  intro w w' v h;simp only [Sem.run] at h;split at h
  ·exact ih _ h
  ·exact Nat.le_trans (Nat.le_succ _) (ih _ h)
 |sys c k ih=>intro w w' v h;simp only [Sem.run] at h;exact Nat.le_trans (Pp w c) (ih _ h)
 |program k ih=>intro w w' v h;simp only [Sem.run] at h;exact ih _ h
 |mark m k ih=>intro w w' v h;simp only [Sem.run] at h;exact ih h
 |halt h'=>intro w w' v h;simp only [Sem.run] at h;cases h
theorem beq_iff {a b:Nat}:Nat.beq a b=true↔a=b:=by
 constructor
 ·exact Nat.eq_of_beq_eq_true
 ·rintro rfl;exact Nat.beq_refl a
theorem J6 {a b:Nat} (h:a≠b):Nat.beq a b=false:=by
 cases e:Nat.beq a b with
 |false=>rfl
 |true=>exact absurd (beq_iff.1 e) h
theorem bT {α:Type} (m:Nat→Option α) (d:Nat) (v:Option α):put m d v d=v:=by simp [put,Nat.beq_refl]
theorem aX {α:Type} (m:Nat→Option α) {d i:Nat} (v:Option α) (h:d≠i):put m d v i=m i:=by simp [put,J6 h]
def uR (loc:Nat→Value) (id:Nat) (v:Value):Nat→Value:=fun i=>if i=id then v else loc i
theorem cC (loc:Nat→Value) (id:Nat) (v:Value):uR loc id v id=v:=by simp [uR]
theorem cr (loc:Nat→Value) {id i:Nat} (v:Value) (h:i≠id):uR loc id v i=loc i:=by simp [uR,h]
section
variable {μ μ':Mu} {loc loc':Nat→Value}
theorem rF (h:μ.le μ'):∀(cs:List ko) (vs:List Value),iB μ loc cs vs→iB μ' loc cs vs
 |[],vs=>fun h=>h
 |c::cs,vs=>fun ⟨u,us,e,h1,h2⟩=>⟨u,us,e,by cases c<;>first|exact tf h _ _ h1|exact h1,rF h cs us h2⟩
theorem yJ (h:μ.le μ') {s:SV} {v:Value} (k:cW μ loc s v):cW μ' loc s v:=by
 induction s generalizing v with
 |two s b ih=>obtain ⟨x,e,k⟩:=k;exact ⟨x,e,ih k⟩
 |undef=>exact k
 |any=>exact k
 |pv x=>exact tf h _ _ k
 |ptr id off=>exact k
 |row id=>exact k
 |rp id sz i off=>exact k
 |sub id sz lo hi=>exact k
 |cp cs=>
  obtain ⟨b,off,vs,e,hc,hm⟩:=k;exact ⟨b,off,vs,e,hc.mono h,fun j u hu=>h _ _ _ (hm j u hu)⟩
 |cl f caps=>obtain ⟨vs,e,hc⟩:=k;exact ⟨vs,e,rF h _ _ hc⟩
 |ag caps=>obtain ⟨vs,e,hc,h1⟩:=k;exact ⟨vs,e,rF h _ _ hc,h1⟩
theorem B6 (h:μ.le μ'):∀(cs:List SV) (vs:List Value),eD μ loc cs vs→eD μ' loc cs vs
 |[],vs=>fun h=>h
 |c::cs,vs=>fun ⟨u,us,e,h1,h2⟩=>⟨u,us,e,yJ h h1,B6 h cs us h2⟩
theorem s9 {id:Nat} {x:Value}:∀(cs:List ko) (vs:List Value),cs.any (ko.mentions id)=false→iB μ loc cs vs→iB μ (uR loc id x) cs vs
 |[],vs=>fun _ h=>h
 |c::cs,vs=>fun hm ⟨u,us,e,h1,h2⟩=>by
  simp only [List.any_cons,Bool.or_eq_false_iff] at hm;refine ⟨u,us,e,?_,s9 cs us hm.2 h2⟩;cases c with
  |v a=>exact h1
  |p j=>
   have:j≠id:=fun e=>by subst e;simp [ko.mentions,Nat.beq_refl] at hm
   obtain ⟨b,k1,k2⟩:=h1;exact ⟨b,by rw [cr _ _ this];exact k1,k2⟩
  |r j=>
   have:j≠id:=fun e=>by subst e;simp [ko.mentions,Nat.beq_refl] at hm
   show u=dR (uR loc id x j);rw [cr _ _ this];exact h1
theorem Je {id:Nat} {x:Value} {s:SV} {v:Value} (hm:s.mentions id=false) (k:cW μ loc s v):cW μ (uR loc id x) s v:=by
 have ne:∀{j:Nat},Nat.beq j id=false→j≠id:=fun h e=>by subst e;simp [Nat.beq_refl] at h
 induction s generalizing v with
 |undef=>exact k
 |any=>exact k
 |pv y=>exact k
 |ptr j off=>obtain ⟨b,h1,h2⟩:=k;exact ⟨b,by rw [cr _ _ (ne hm)];exact h1,h2⟩
 |row j=>show v=dR (uR loc id x j);rw [cr _ _ (ne hm)];exact k
 |rp j sz i off=>obtain ⟨g,n,c,h1,h2⟩:=k;exact ⟨g,n,c,by rw [cr _ _ (ne hm)];exact h1,h2⟩
 |sub j sz lo hi=>obtain ⟨A,n,c,A',c',h1,h2⟩:=k;exact ⟨A,n,c,A',c',by rw [cr _ _ (ne hm)];exact h1,h2⟩
 |cp cs=>exact k
 |cl f caps=>obtain ⟨vs,e,hc⟩:=k;exact ⟨vs,e,s9 _ _ hm hc⟩
 |ag caps=>obtain ⟨vs,e,hc,h1⟩:=k;exact ⟨vs,e,s9 _ _ hm hc,h1⟩
 |two s b ih=>obtain ⟨y,e,k⟩:=k;exact ⟨y,e,ih hm k⟩
theorem rG {id:Nat} {x:Value} {s:SV} {v:Value} (k:cW μ loc s v):cW μ (uR loc id x) (s.bV id) v:=by
 unfold SV.bV;cases hm:s.mentions id with
 |true=>trivial
 |false=>exact Je hm k
theorem td {id:Nat} {x:Value}:∀(cs:List SV) (vs:List Value),eD μ loc cs vs→eD μ (uR loc id x) (cs.map (SV.bV id)) vs
 |[],vs=>fun h=>h
 |c::cs,vs=>fun ⟨u,us,e,h1,h2⟩=>⟨u,us,e,rG h1,td cs us h2⟩
end
section
variable {P:Program} {N:Nat} {w0:World} {μ0:Mu} {L:lp} {μ:Mu} {loc:Nat→Value} {st:St} {a:Act} {w:World}
theorem Rel.set (hR:Rel N w0 μ0 L μ loc st a w) {d:Option Nat} {sv:SV} {v:Value} (hd:∀i,d=some i→i<N) (hs:cW μ loc sv v):
  Rel N w0 μ0 L μ loc (st.set d sv) (a.put d v) w:=by
 cases d with
 |none=>exact hR
 |some d=>
  have hlt:=hd d rfl;refine ⟨hR.small,hR.names,hR.fix,by simp [Act.put,hR.size],by simp [Act.put,hR.defers],?_,hR.r7,hR.base,hR.obs,hR.apart,hR.keep,hR.os,hR.tape,hR.output,hR.grown,hR.drawn⟩;intro i s hi;by_cases e:d=i
  ·subst e
   simp only [St.set,bT,Option.some.injEq] at hi;subst hi;exact ⟨v,by simp [Act.put,hR.size,hlt],hs⟩
  ·simp only [St.set,aX _ _ e] at hi
   obtain ⟨u,hu,hr⟩:=hR.env i s hi;exact ⟨u,by simp only [Act.put];rw [Array.getElem?_setIfInBounds_ne e];exact hu,hr⟩
theorem Rel.drop (hR:Rel N w0 μ0 L μ loc st a w) (id:Nat):Rel N w0 μ0 L μ loc { st with ob:=put st.ob id none } a w:=by
 have hsub:∀i o,put st.ob id none i=some o→st.ob i=some o∧i≠id:=fun i o h=>by
  by_cases e:id=i
  ·subst e;simp [bT] at h
  ·rw [aX _ _ e] at h;exact ⟨h,fun e'=>e e'.symm⟩
 exact ⟨hR.small,hR.names,hR.fix,hR.size,hR.defers,hR.env,hR.r7,hR.base,fun i o h=>hR.obs i o (hsub i o h).1,fun i j oi oj hi hj=>hR.apart i j oi oj (hsub i oi hi).1 (hsub j oj hj).1,hR.keep,hR.os,hR.tape,hR.output,hR.grown,hR.drawn⟩
theorem jH {b off g:Nat}:gi (.pointer (some ⟨b,off,none⟩)) g↔g=b:=by simp [gi,bX,eq_comm]
theorem mU {b g:Nat}:gi (.map (some b)) g↔g=b:=by simp [gi,bX,eq_comm]
theorem fM {A:Option Addr} {n c g:Nat}:gi (.slice A n c) g↔bX (.slice A n c)=some g:=by simp [gi]
theorem iN {b:Nat} {us:List Value} {g:Nat}:gi (.tuple (.map (some b)::us).toArray) g↔g=b∨∃u∈us,bX u=some g:=by
 constructor
 ·rintro (h|⟨vs,e,u,hu,h⟩)
  ·simp [bX] at h
  ·injection e with e
   have:vs= .map (some b)::us:=by have:=congrArg Array.toList e;simpa using this.symm
   subst this;rcases List.mem_cons.1 hu with rfl|hu
   ·left;simpa [bX,eq_comm] using h
   ·exact .inr ⟨u,hu,h⟩
 ·rintro (rfl|⟨u,hu,h⟩)
  ·exact .inr ⟨_,rfl, .map (some g),by simp,rfl⟩
  ·exact .inr ⟨_,rfl,u,by simp [hu],h⟩
theorem Th {α:Type} {us:List Value} {vs:List (Option α)} (hl:us.length=vs.length) (hno:∀i:Nat,vs[i]? =some none→us[i]? =some undef) {u:Value} (hu:u∈us) {g:Nat} (hg:bX u=some g):∃(i:Nat) (xs:α),vs[i]? =some (some xs)∧us[i]? =some u:=by
 obtain ⟨i,hi,e⟩:=List.mem_iff_getElem.1 hu;have h1:us[i]? =some u:=by rw [List.getElem?_eq_getElem hi,e]
 cases hv:vs[i]? with
 |none=>rw [List.getElem?_eq_none_iff] at hv;omega
 |some o=>
  cases o with
  |none=>
   have:=hno i hv;rw [h1] at this;injection this with this
   subst this;simp [undef,bX] at hg
  |some xs=>exact ⟨i,xs,hv,h1⟩
theorem Dq {w:World} {e:TypeId} {sz:Nat} {u:Value} {n:Nat} {cells:List Value} (h:w.ownsRow 0 e sz u n cells) {g:Nat} (hg:bX u=some g):g<w.heap.size:=by
 rcases h.2 with ⟨e1,_⟩|⟨g',cap,cur,e1,_,hg',_⟩
 ·rw [e1] at hg;simp [bX] at hg
 ·rw [e1] at hg;simp [bX] at hg;subst hg;exact (Array.getElem?_eq_some_iff.1 hg').1
theorem qb {μ':Mu} {sz:Nat} (hle:μ.le μ'):∀{xs:List (List AV)} {vs:List Value},cG μ sz xs vs→cG μ' sz xs vs
 |[],vs,h=>h
 |x::xs,vs,⟨us,ws,e,h1,h2,h3⟩=>⟨us,ws,e,h1.mono hle,h2,qb hle h3⟩
theorem rD {w w':World} {e:TypeId} {sz:Nat} {u:Value} {n:Nat} {cells:List Value} (h:w.ownsRow 0 e sz u n cells) (hb:∀g,bX u=some g→w'.heap[g]? =w.heap[g]?):w'.ownsRow 0 e sz u n cells:=by
 refine ⟨h.1,?_⟩;rcases h.2 with hn|⟨g,cap,cur,e1,h0,hg,rest⟩
 ·exact .inl hn
 ·exact .inr ⟨g,cap,cur,e1,h0,(hb g (by rw [e1];rfl)).trans hg,rest⟩
theorem gV.block {n0:Nat} {id:Nat} {o:Ob} (h:gV n0 L μ loc w id o):∀b,gi (loc id) b→Gi n0 L id b∧b<w.heap.size∧∀j,μ b j=none:=by
 intro b hb;cases o with
 |box t cells=>
  obtain ⟨b',vs,hl,ho,hh,hm,_⟩:=h;rw [hl] at hb;rw [jH] at hb;subst hb;exact ⟨ho,(Array.getElem?_eq_some_iff.1 hh).1,hm⟩
 |row e sz xs=>
  obtain ⟨vs,hown,_,hm⟩:=h;obtain ⟨ho,qk⟩:=hm b hb;refine ⟨ho,?_,qk⟩;rcases hown.2 with ⟨e1,_⟩|⟨g,cap,cur,e1,_,hg,_⟩
  ·rw [e1] at hb;simp [gi,bX] at hb
  ·rw [e1] at hb;simp [gi,bX] at hb;subst hb;exact (Array.getElem?_eq_some_iff.1 hg).1
 |mp k e ks es=>
  obtain ⟨b',bK,clock,hl,ho,hh,hm,_⟩:=h;rw [hl] at hb;rw [mU] at hb;subst hb;exact ⟨ho,(Array.getElem?_eq_some_iff.1 hh).1,hm⟩
 |mr k e sz ks vs=>
  obtain ⟨b',bK,clock,us,hl,ho,hh,hm,h1,h2,h3,h4,h5,h6⟩:=h;rw [hl] at hb;rcases iN.1 hb with rfl|⟨u,hu,hg⟩
  ·exact ⟨.inl ho,(Array.getElem?_eq_some_iff.1 hh).1,hm⟩
  ·obtain ⟨i,xs,k1,k2⟩:=Th h2 h5 hu hg
   obtain ⟨u',cells,k3,k4,k5,k6,k7⟩:=h4 i xs k1;rw [k2] at k3;injection k3 with k3
   subst k3;exact ⟨.inl (k7 b hg).1,Dq k5 hg,(k7 b hg).2⟩
 |it s pos=>
  obtain ⟨b',hl,ho,hh,hm⟩:=h;rw [hl] at hb;rw [jH] at hb;subst hb;exact ⟨ho,(Array.getElem?_eq_some_iff.1 hh).1,hm⟩
theorem gV.keep {n0:Nat} {id:Nat} {o:Ob} {w':World} {μ':Mu} (h:gV n0 L μ loc w id o) (hle:μ.le μ')
  (hb:∀b,gi (loc id) b→w'.heap[b]? =w.heap[b]? ∧∀j,μ' b j=none):gV n0 L μ' loc w' id o:=by
 cases o with
 |box t cells=>
  obtain ⟨b,vs,hl,ho,hh,hm,hs,h1⟩:=h;obtain ⟨e,hm'⟩:=hb b (by rw [hl];exact jH.2 rfl);exact ⟨b,vs,hl,ho,e.trans hh,hm',B6 hle _ _ hs,h1⟩
 |row e sz xs=>
  obtain ⟨vs,hown,hrc,hm⟩:=h;exact ⟨vs,rD hown (fun g hg=>(hb g (.inl hg)).1),qb hle hrc,fun g hg=>⟨(hm g hg).1,(hb g hg).2⟩⟩
 |mp k e ks es=>
  obtain ⟨b,bK,clock,hl,ho,hh,hm,h1,h2,hB⟩:=h;obtain ⟨e,hm'⟩:=hb b (by rw [hl];exact mU.2 rfl);exact ⟨b,bK,clock,hl,ho,e.trans hh,hm',dr hle _ _ h1,dr hle _ _ h2,hB⟩
 |mr k e sz ks vs=>
  obtain ⟨b,bK,clock,us,hl,ho,hh,hm,h1,h2,h3,h4,h5,h6⟩:=h;obtain ⟨e,hm'⟩:=hb b (by rw [hl];exact iN.2 (.inl rfl));refine ⟨b,bK,clock,us,hl,ho,e.trans hh,hm',dr hle _ _ h1,h2,h3,fun i xs hi=> ?_,h5,h6⟩;obtain ⟨u,cells,k1,k2,k3,k4,k5⟩:=h4 i xs hi;have hin:∀g,bX u=some g→gi (loc id) g:=fun g hg=>by rw [hl];exact iN.2 (.inr ⟨u,List.mem_of_getElem? k1,hg⟩)
  exact ⟨u,cells,k1,k2,rD k3 (fun g hg=>(hb g (hin g hg)).1),qb hle k4,fun g hg=>⟨(k5 g hg).1,(hb g (hin g hg)).2⟩⟩
 |it s pos=>
  obtain ⟨b,hl,ho,hh,hm⟩:=h;obtain ⟨e,hm'⟩:=hb b (by rw [hl];exact jH.2 rfl);exact ⟨b,hl,ho,e.trans hh,hm'⟩
theorem vl {n0:Nat} {L:lp} {loc:Nat→Value} {i id:Nat} {x:Value} {o:Ob} (h:gV n0 L μ loc w i o) (hne:i≠id):gV n0 L μ (uR loc id x) w i (o.bV id):=by
 cases o with
 |box t cells=>
  obtain ⟨b,vs,hl,ho,hh,hm,hs,h1⟩:=h;exact ⟨b,vs,by rw [cr _ _ hne];exact hl,ho,hh,hm,td _ _ hs,h1⟩
 |row e sz xs=>
  obtain ⟨vs,hown,hrc,hm⟩:=h;refine ⟨vs,by rw [cr _ _ hne];exact hown,hrc,fun g hg=>hm g (by rw [cr _ _ hne] at hg;exact hg)⟩
 |mp k e ks es=>
  obtain ⟨b,bK,clock,hl,ho,hh,hm,h1,h2,hB⟩:=h;exact ⟨b,bK,clock,by rw [cr _ _ hne];exact hl,ho,hh,hm,h1,h2,hB⟩
 |mr k e sz ks vs=>
  obtain ⟨b,bK,clock,us,hl,rest⟩:=h;exact ⟨b,bK,clock,us,by rw [cr _ _ hne];exact hl,rest⟩
 |it s pos=>
  obtain ⟨b,hl,rest⟩:=h;exact ⟨b,by rw [cr _ _ hne];exact hl,rest⟩
theorem Rel.world (hR:Rel N w0 μ0 L μ loc st a w) {w':World} {μ':Mu} (hle:μ.le μ') (Rg:∀b j v,μ' b j=some v→μ b j=some v∨w0.heap.size≤b) (fP:∀b j v,μ' b j=some v→Au w' b j=some v)
  (qU:∀id o,st.ob id=some o→∀b,gi (loc id) b→w'.heap[b]? =w.heap[b]? ∧∀j,μ' b j=none)
  (hkeep:∀b,b<w0.heap.size→¬Eh L b→w'.heap[b]? =w.heap[b]?)
  (hos:w'.os=w.os) (Im:w'.tape=w.tape) (hout:w'.output=w.output) (hsz:w.heap.size≤w'.heap.size) (Rf:L.q→w.drawn≤w'.drawn:=by exact fun _=>Nat.le_refl _):Rel N w0 μ0 L μ' loc st a w':=by
 refine ⟨hR.small,hR.names,hR.fix,hR.size,hR.defers,?_,fP,⟨hR.base.1.trans hle,?_⟩,?_,hR.apart,fun b hb hl=>(hkeep b hb hl).trans (hR.keep b hb hl),hos.trans hR.os,Im.trans hR.tape,hout.trans hR.output,Nat.le_trans hR.grown hsz,fun q=>Nat.le_trans (hR.drawn q) (Rf q)⟩
 ·intro i s hi
  obtain ⟨v,hv,hr⟩:=hR.env i s hi;exact ⟨v,hv,yJ hle hr⟩
 ·intro b j v h
  rcases Rg b j v h with h|h
  ·exact hR.base.2 b j v h
  ·exact .inr h
 ·intro id o ho
  exact (hR.obs id o ho).keep hle (qU id o ho)
theorem Rel.grow (hR:Rel N w0 μ0 L μ loc st a w) {w':World} {μ':Mu} (Rg:μ.ext w.heap.size μ') (fP:∀b j v,μ' b j=some v→Au w' b j=some v) (hb:Below w.heap.size w w') (Rf:L.q→w.drawn≤w'.drawn:=by exact fun _=>Nat.le_refl _):Rel N w0 μ0 L μ' loc st a w':=by
 refine hR.world Rg.1 (fun b j v h=> ?_) fP (fun id o ho b tV=> ?_) (fun b hlt hl=>hb.block b (Nat.lt_of_lt_of_le hlt hR.grown)) hb.os hb.tape hb.output hb.size Rf
 ·rcases Rg.2 b j v h with h|h
  ·exact .inl h
  ·exact .inr (Nat.le_trans hR.grown h)
 ·obtain ⟨_,hlt,qk⟩:=(hR.obs id o ho).block b tV
  refine ⟨hb.block b hlt,fun j=> ?_⟩;cases hj:μ' b j with
  |none=>rfl
  |some v=>
   rcases Rg.2 b j v hj with h|h
   ·rw [qk j] at h;cases h
   ·omega
theorem Rel.I1 (hR:Rel N w0 μ0 L μ loc st a w) {w':World} (hb:Below w.heap.size w w'):∀b j v,μ b j=some v→Au w' b j=some v:=fun b j v h=>by
 have hc:=hR.r7 b j v h;have hlt:=tu hc;rw [fT (hb.block b hlt)];exact hc
theorem Rel.MJ (hR:Rel N w0 μ0 L μ loc st a w) {w':World} (hb:Below w.heap.size w w') (Rf:L.q→w.drawn≤w'.drawn:=by exact fun _=>Nat.le_refl _):Rel N w0 μ0 L μ loc st a w':=
 hR.grow ⟨Mu.le.refl _,fun _ _ _ h=> .inl h⟩ (hR.I1 hb) hb Rf
theorem Rel.new (hR:Rel N w0 μ0 L μ loc st a w) {id:Nat} {val:Value} {o:Ob} (hid:id<10000∨20000≤id) (cU:gV w0.heap.size L μ (uR loc id val) w id o)
  (hap:∀j oj,st.ob j=some oj→j≠id→∀g,gi val g→¬gi (loc j) g):Rel N w0 μ0 L μ (uR loc id val) (st.new id o) a w:=by
 have hsub:∀i oi,(st.new id o).ob i=some oi→(i=id∧oi=o)∨(i≠id∧∃oj,st.ob i=some oj∧oi=oj.bV id):=fun i oi h=>by
  by_cases e:id=i
  ·subst e
   simp only [St.new,bT,Option.some.injEq] at h;exact .inl ⟨rfl,h.symm⟩
  ·simp only [St.new,St.bV,aX _ _ e] at h
   cases ho:st.ob i with
   |none=>simp [ho] at h
   |some oj=>simp [ho] at h;exact .inr ⟨fun e'=>e e'.symm,oj,rfl,h.symm⟩
 refine ⟨hR.small,hR.names,?_,hR.size,hR.defers,?_,hR.r7,hR.base,?_,?_,hR.keep,hR.os,hR.tape,hR.output,hR.grown,hR.drawn⟩
 ·intro i v hv hi
  have hne:i≠id:=fun e=>by
   subst e;rcases hid with h|h
   ·rw [hR.names i h] at hv;cases hv
   ·omega
  rw [cr _ _ hne];exact hR.fix i v hv hi
 ·intro i s hi
  simp only [St.new,St.bV] at hi;cases he:st.env i with
  |none=>simp [he] at hi
  |some s'=>
   simp [he] at hi;subst hi;obtain ⟨v,hv,hr⟩:=hR.env i s' he;exact ⟨v,hv,rG hr⟩
 ·intro i oi hi
  rcases hsub i oi hi with ⟨rfl,rfl⟩|⟨hne,oj,hj,rfl⟩
  ·exact cU
  ·exact vl (hR.obs i oj hj) hne
 ·intro i j oi oj hi hj hij g hg
  rcases hsub i oi hi with ⟨rfl,rfl⟩|⟨hni,PI,hi',rfl⟩
  ·rcases hsub j oj hj with ⟨rfl,_⟩|⟨Vv,Tm,hj',rfl⟩
   ·exact absurd rfl hij
   ·rw [cC] at hg
    rw [cr _ _ Vv];exact hap j Tm hj' Vv g hg
  ·rcases hsub j oj hj with ⟨rfl,rfl⟩|⟨Vv,Tm,hj',rfl⟩
   ·rw [cr _ _ hni] at hg
    rw [cC];intro hv;exact hap i PI hi' hni g hv hg
   ·rw [cr _ _ hni] at hg
    rw [cr _ _ Vv];exact hR.apart i j PI Tm hi' hj' hij g hg
theorem Rel.write (hR:Rel N w0 μ0 L μ loc st a w) {id:Nat} {o o':Ob} (ho:st.ob id=some o) {g:Nat} (hg:gi (loc id) g) {w':World}
  (hch:∀b,b≠g→w'.heap[b]? =w.heap[b]?) (hos:w'.os=w.os) (Im:w'.tape=w.tape) (hout:w'.output=w.output) (hsz:w'.heap.size=w.heap.size)
  (cU:gV w0.heap.size L μ loc w' id o') (Rf:L.q→w.drawn≤w'.drawn:=by exact fun _=>Nat.le_refl _):Rel N w0 μ0 L μ loc { st with ob:=put st.ob id (some o') } a w':=by
 obtain ⟨hown,hlt,qk⟩:=(hR.obs id o ho).block g hg
 have h1:=(hR.drop id).world (w':=w') (Mu.le.refl _) (fun _ _ _ h=> .inl h) (fun b j v h=>by
   have hne:b≠g:=fun e=>by subst e;rw [qk j] at h;cases h
   have:=hR.r7 b j v h
   rw [fT (hch b hne)];exact this) (fun i oi hi b hb=>by
   by_cases e:id=i
   ·subst e;simp [bT] at hi
   ·simp only [aX _ _ e] at hi
    have hne:b≠g:=fun e'=>by subst e';exact hR.apart id i o oi ho hi e b hg hb
    exact ⟨hch b hne,((hR.obs i oi hi).block b hb).2.2⟩) (fun b hb hl=>by
   refine hch b (fun e=> ?_);subst e;rcases hown with h|⟨v,hv,h⟩
   ·omega
   ·exact hl ⟨id,v,hv,h⟩) hos Im hout (by omega) Rf
 refine ⟨h1.small,h1.names,h1.fix,h1.size,h1.defers,h1.env,h1.r7,h1.base,?_,?_,h1.keep,h1.os,h1.tape,h1.output,h1.grown,h1.drawn⟩
 ·intro i oi hi
  by_cases e:id=i
  ·subst e;simp only [bT,Option.some.injEq] at hi;subst hi;exact cU
  ·exact h1.obs i oi (by simpa only [aX _ _ e] using hi)
 ·intro i j oi oj hi hj hij
  have get:∀k ok,put st.ob id (some o') k=some ok→∃ok',st.ob k=some ok':=fun k ok h=>by
   by_cases e:id=k
   ·subst e;exact ⟨o,ho⟩
   ·exact ⟨ok,by simpa only [aX _ _ e] using h⟩
  obtain ⟨PI,hi'⟩:=get i oi hi;obtain ⟨Tm,hj'⟩:=get j oj hj;exact hR.apart i j PI Tm hi' hj' hij
end
end Go.AM
