/- THE ABSTRACT MACHINE. -/
import Derived.Test.YtmidjldjkbljjaaGreatDoorAmPure
set_option linter.unusedVariables false
set_option linter.unusedSimpArgs false
namespace Go.AM
open Go.RowKit
theorem MJ {α:Type} (k:Ask α):∀w:World,w.drawn≤(w.ask k).2.drawn:=by
 induction k with
 |done a=>intro w;exact Nat.le_refl _
 |ask what range k ih=>
  intro w;unfold World.ask;dsimp only;split
  ·exact ih 0 w
  ·exact Nat.le_trans (Nat.le_succ _) (ih _ { w with drawn:=w.drawn+1 })
theorem NU (w:World) (c:Sys):w.drawn≤(w.sys c).2.drawn:=by
 unfold World.sys;have h:=MJ (Kernel.perform c w.os) w;split
 ·exact Nat.le_refl _
 ·rename_i e;rw [e] at h;exact h
theorem Ai {p:Program} {w w':World} {a:Addr} {v:Value} {at_:Bool} {l:List Addr} (h:w.farStore p a v at_= .ok (w',l)):w'.drawn=w.drawn:=by
 unfold World.farStore at h;split at h
 ·split at h
  ·rename_i u r e
   injection h with h;subst h
   unfold World.viewStore at e;simp only [bind,Except.bind,pure,Except.pure,throw,throwThe,MonadExceptOf.throw] at e
   repeat' split at e
   all_goals first|(cases e;done)|skip
   all_goals (injection e with e;simp only [Prod.mk.injEq] at e;rw [←e.1])
  ·cases h
 ·cases h
theorem NO {α:Type} {p:Program}:∀{m:Sem α} {w w':World} {v:α},m.run p w= .ok v w'→w.drawn≤w'.drawn:=by
 intro m
 induction m with
 |pure a=>intro w w' v h;simp only [Sem.run] at h;injection h with _ h;subst h;exact Nat.le_refl _
 |load m a k ih=>
  intro w w' v h;simp only [Sem.run] at h;split at h
  ·exact ih _ h
  ·split at h
   ·exact ih _ h
   ·cases h
 |store m a x k ih=>
  intro w w' v h;cases x<;>simp only [Sem.run] at h
  all_goals first|(cases h;done)|skip
  all_goals
   split at h
   ·split at h
    ·cases h
    ·have:=ih h
     rename_i x _ _ _;have e:∀y,(w.setCell a y).drawn=w.drawn:=fun y=>by unfold World.setCell;split<;>rfl
     rw [e] at this;exact this
   ·split at h
    ·rename_i e
     have:=ih h;have:=Ai e;omega
    ·cases h
 |new o k ih=>intro w w' v h;simp only [Sem.run] at h;have:=ih _ h;exact this
 |shape r k ih=>intro w w' v h;simp only [Sem.run] at h;exact ih _ h
 |freeze a n k ih=>
  intro w w' v h;simp only [Sem.run] at h;have:=ih h;have e:(w.freeze a n).drawn=w.drawn:=by unfold World.freeze;split<;>rfl
  omega
 |frozen a k ih=>intro w w' v h;simp only [Sem.run] at h;exact ih _ h
 |getObj r k ih=>
  intro w w' v h;simp only [Sem.run] at h;split at h
  ·cases h
  ·exact ih _ h
  ·cases h
 |setObj r o k ih=>
  intro w w' v h;simp only [Sem.run] at h;split at h
  ·cases h
  ·have:=ih h;exact this
  ·cases h
 |choose q k ih=>
  intro w w' v h;simp only [Sem.run] at h;split at h
  ·exact ih _ h
  ·exact Nat.le_trans (Nat.le_succ _) (ih _ h)
 |sys c k ih=>intro w w' v h;simp only [Sem.run] at h;exact Nat.le_trans (NU w c) (ih _ h)
 |program k ih=>intro w w' v h;simp only [Sem.run] at h;exact ih _ h
 |mark m k ih=>intro w w' v h;simp only [Sem.run] at h;exact ih h
 |halt h'=>intro w w' v h;simp only [Sem.run] at h;cases h
theorem beq_iff {a b:Nat}:Nat.beq a b=true↔a=b:=by
 constructor
 ·exact Nat.eq_of_beq_eq_true
 ·rintro rfl;exact Nat.beq_refl a
theorem I4 {a b:Nat} (h:a≠b):Nat.beq a b=false:=by
 cases e:Nat.beq a b with
 |false=>rfl
 |true=>exact absurd (beq_iff.1 e) h
theorem bO {α:Type} (m:Nat→Option α) (d:Nat) (v:Option α):put m d v d=v:=by simp [put,Nat.beq_refl]
theorem aV {α:Type} (m:Nat→Option α) {d i:Nat} (v:Option α) (h:d≠i):put m d v i=m i:=by simp [put,I4 h]
def tV (loc:Nat→Value) (id:Nat) (v:Value):Nat→Value:=fun i=>if i=id then v else loc i
theorem cA (loc:Nat→Value) (id:Nat) (v:Value):tV loc id v id=v:=by simp [tV]
theorem cm (loc:Nat→Value) {id i:Nat} (v:Value) (h:i≠id):tV loc id v i=loc i:=by simp [tV,h]
section
variable {μ μ':Mu} {loc loc':Nat→Value}
theorem qJ (h:μ.le μ'):∀(cs:List j3) (vs:List Value),iC μ loc cs vs→iC μ' loc cs vs
 |[],vs=>fun h=>h
 |c::cs,vs=>fun ⟨u,us,e,h1,h2⟩=>⟨u,us,e,by cases c<;>first|exact sj h _ _ h1|exact h1,qJ h cs us h2⟩
theorem xJ (h:μ.le μ') {s:SV} {v:Value} (k:cT μ loc s v):cT μ' loc s v:=by
 induction s generalizing v with
 |two s b ih=>obtain ⟨x,e,k⟩:=k;exact ⟨x,e,ih k⟩
 |undef=>exact k
 |any=>exact k
 |pv x=>exact sj h _ _ k
 |ptr id off=>exact k
 |row id=>exact k
 |rp id sz i off=>exact k
 |sub id sz lo hi=>exact k
 |cp cs=>
  obtain ⟨b,off,vs,e,hc,hm⟩:=k;exact ⟨b,off,vs,e,hc.mono h,fun j u hu=>h _ _ _ (hm j u hu)⟩
 |cl f caps=>obtain ⟨vs,e,hc⟩:=k;exact ⟨vs,e,qJ h _ _ hc⟩
 |ag caps=>obtain ⟨vs,e,hc,h1⟩:=k;exact ⟨vs,e,qJ h _ _ hc,h1⟩
theorem Be (h:μ.le μ'):∀(cs:List SV) (vs:List Value),ep μ loc cs vs→ep μ' loc cs vs
 |[],vs=>fun h=>h
 |c::cs,vs=>fun ⟨u,us,e,h1,h2⟩=>⟨u,us,e,xJ h h1,Be h cs us h2⟩
theorem sg {id:Nat} {x:Value}:∀(cs:List j3) (vs:List Value),cs.any (j3.mentions id)=false→iC μ loc cs vs→iC μ (tV loc id x) cs vs
 |[],vs=>fun _ h=>h
 |c::cs,vs=>fun hm ⟨u,us,e,h1,h2⟩=>by
  simp only [List.any_cons,Bool.or_eq_false_iff] at hm;refine ⟨u,us,e,?_,sg cs us hm.2 h2⟩;cases c with
  |v a=>exact h1
  |p j=>
   have:j≠id:=fun e=>by subst e;simp [j3.mentions,Nat.beq_refl] at hm
   obtain ⟨b,k1,k2⟩:=h1;exact ⟨b,by rw [cm _ _ this];exact k1,k2⟩
  |r j=>
   have:j≠id:=fun e=>by subst e;simp [j3.mentions,Nat.beq_refl] at hm
   show u=dL (tV loc id x j);rw [cm _ _ this];exact h1
theorem HO {id:Nat} {x:Value} {s:SV} {v:Value} (hm:s.mentions id=false) (k:cT μ loc s v):cT μ (tV loc id x) s v:=by
 have ne:∀{j:Nat},Nat.beq j id=false→j≠id:=fun h e=>by subst e;simp [Nat.beq_refl] at h
 induction s generalizing v with
 |undef=>exact k
 |any=>exact k
 |pv y=>exact k
 |ptr j off=>obtain ⟨b,h1,h2⟩:=k;exact ⟨b,by rw [cm _ _ (ne hm)];exact h1,h2⟩
 |row j=>show v=dL (tV loc id x j);rw [cm _ _ (ne hm)];exact k
 |rp j sz i off=>obtain ⟨g,n,c,h1,h2⟩:=k;exact ⟨g,n,c,by rw [cm _ _ (ne hm)];exact h1,h2⟩
 |sub j sz lo hi=>obtain ⟨A,n,c,A',c',h1,h2⟩:=k;exact ⟨A,n,c,A',c',by rw [cm _ _ (ne hm)];exact h1,h2⟩
 |cp cs=>exact k
 |cl f caps=>obtain ⟨vs,e,hc⟩:=k;exact ⟨vs,e,sg _ _ hm hc⟩
 |ag caps=>obtain ⟨vs,e,hc,h1⟩:=k;exact ⟨vs,e,sg _ _ hm hc,h1⟩
 |two s b ih=>obtain ⟨y,e,k⟩:=k;exact ⟨y,e,ih hm k⟩
theorem qK {id:Nat} {x:Value} {s:SV} {v:Value} (k:cT μ loc s v):cT μ (tV loc id x) (s.bR id) v:=by
 unfold SV.bR;cases hm:s.mentions id with
 |true=>trivial
 |false=>exact HO hm k
theorem si {id:Nat} {x:Value}:∀(cs:List SV) (vs:List Value),ep μ loc cs vs→ep μ (tV loc id x) (cs.map (SV.bR id)) vs
 |[],vs=>fun h=>h
 |c::cs,vs=>fun ⟨u,us,e,h1,h2⟩=>⟨u,us,e,qK h1,si cs us h2⟩
end
section
variable {P:Program} {N:Nat} {w0:World} {μ0:Mu} {L:kP} {μ:Mu} {loc:Nat→Value} {st:St} {a:Act} {w:World}
theorem Rel.set (hR:Rel N w0 μ0 L μ loc st a w) {d:Option Nat} {sv:SV} {v:Value} (hd:∀i,d=some i→i<N) (hs:cT μ loc sv v):
  Rel N w0 μ0 L μ loc (st.set d sv) (a.put d v) w:=by
 cases d with
 |none=>exact hR
 |some d=>
  have hlt:=hd d rfl;refine ⟨hR.small,hR.names,hR.fix,by simp [Act.put,hR.size],by simp [Act.put,hR.defers],?_,hR.q8,hR.base,hR.obs,hR.apart,hR.keep,hR.os,hR.tape,hR.output,hR.grown,hR.drawn⟩;intro i s hi;by_cases e:d=i
  ·subst e
   simp only [St.set,bO,Option.some.injEq] at hi;subst hi;exact ⟨v,by simp [Act.put,hR.size,hlt],hs⟩
  ·simp only [St.set,aV _ _ e] at hi
   obtain ⟨u,hu,hr⟩:=hR.env i s hi;exact ⟨u,by simp only [Act.put];rw [Array.getElem?_setIfInBounds_ne e];exact hu,hr⟩
theorem Rel.drop (hR:Rel N w0 μ0 L μ loc st a w) (id:Nat):Rel N w0 μ0 L μ loc { st with ob:=put st.ob id none } a w:=by
 have hsub:∀i o,put st.ob id none i=some o→st.ob i=some o∧i≠id:=fun i o h=>by
  by_cases e:id=i
  ·subst e;simp [bO] at h
  ·rw [aV _ _ e] at h;exact ⟨h,fun e'=>e e'.symm⟩
 exact ⟨hR.small,hR.names,hR.fix,hR.size,hR.defers,hR.env,hR.q8,hR.base,fun i o h=>hR.obs i o (hsub i o h).1,fun i j oi oj hi hj=>hR.apart i j oi oj (hsub i oi hi).1 (hsub j oj hj).1,hR.keep,hR.os,hR.tape,hR.output,hR.grown,hR.drawn⟩
theorem jE {b off g:Nat}:fV (.pointer (some ⟨b,off,none⟩)) g↔g=b:=by simp [fV,bV,eq_comm]
theorem mJ {b g:Nat}:fV (.map (some b)) g↔g=b:=by simp [fV,bV,eq_comm]
theorem fE {A:Option Addr} {n c g:Nat}:fV (.slice A n c) g↔bV (.slice A n c)=some g:=by simp [fV]
theorem iM {b:Nat} {us:List Value} {g:Nat}:fV (.tuple (.map (some b)::us).toArray) g↔g=b∨∃u∈us,bV u=some g:=by
 constructor
 ·rintro (h|⟨vs,e,u,hu,h⟩)
  ·simp [bV] at h
  ·injection e with e
   have:vs= .map (some b)::us:=by have:=congrArg Array.toList e;simpa using this.symm
   subst this;rcases List.mem_cons.1 hu with rfl|hu
   ·left;simpa [bV,eq_comm] using h
   ·exact .inr ⟨u,hu,h⟩
 ·rintro (rfl|⟨u,hu,h⟩)
  ·exact .inr ⟨_,rfl, .map (some g),by simp,rfl⟩
  ·exact .inr ⟨_,rfl,u,by simp [hu],h⟩
theorem Rr {α:Type} {us:List Value} {vs:List (Option α)} (hl:us.length=vs.length) (hno:∀i:Nat,vs[i]? =some none→us[i]? =some undef) {u:Value} (hu:u∈us) {g:Nat} (hg:bV u=some g):∃(i:Nat) (xs:α),vs[i]? =some (some xs)∧us[i]? =some u:=by
 obtain ⟨i,hi,e⟩:=List.mem_iff_getElem.1 hu;have h1:us[i]? =some u:=by rw [List.getElem?_eq_getElem hi,e]
 cases hv:vs[i]? with
 |none=>rw [List.getElem?_eq_none_iff] at hv;omega
 |some o=>
  cases o with
  |none=>
   have:=hno i hv;rw [h1] at this;injection this with this
   subst this;simp [undef,bV] at hg
  |some xs=>exact ⟨i,xs,hv,h1⟩
theorem Cl {w:World} {e:TypeId} {sz:Nat} {u:Value} {n:Nat} {cells:List Value} (h:w.ownsRow 0 e sz u n cells) {g:Nat} (hg:bV u=some g):g<w.heap.size:=by
 rcases h.2 with ⟨e1,_⟩|⟨g',cap,cur,e1,_,hg',_⟩
 ·rw [e1] at hg;simp [bV] at hg
 ·rw [e1] at hg;simp [bV] at hg;subst hg;exact (Array.getElem?_eq_some_iff.1 hg').1
theorem oU {μ':Mu} {sz:Nat} (hle:μ.le μ'):∀{xs:List (List AV)} {vs:List Value},cD μ sz xs vs→cD μ' sz xs vs
 |[],vs,h=>h
 |x::xs,vs,⟨us,ws,e,h1,h2,h3⟩=>⟨us,ws,e,h1.mono hle,h2,oU hle h3⟩
theorem qH {w w':World} {e:TypeId} {sz:Nat} {u:Value} {n:Nat} {cells:List Value} (h:w.ownsRow 0 e sz u n cells) (hb:∀g,bV u=some g→w'.heap[g]? =w.heap[g]?):w'.ownsRow 0 e sz u n cells:=by
 refine ⟨h.1,?_⟩;rcases h.2 with hn|⟨g,cap,cur,e1,h0,hg,rest⟩
 ·exact .inl hn
 ·exact .inr ⟨g,cap,cur,e1,h0,(hb g (by rw [e1];rfl)).trans hg,rest⟩
theorem gQ.block {n0:Nat} {id:Nat} {o:Ob} (h:gQ n0 L μ loc w id o):∀b,fV (loc id) b→Fa n0 L id b∧b<w.heap.size∧∀j,μ b j=none:=by
 intro b hb;cases o with
 |box t cells=>
  obtain ⟨b',vs,hl,ho,hh,hm,_⟩:=h;rw [hl] at hb;rw [jE] at hb;subst hb;exact ⟨ho,(Array.getElem?_eq_some_iff.1 hh).1,hm⟩
 |row e sz xs=>
  obtain ⟨vs,hown,_,hm⟩:=h;obtain ⟨ho,pH⟩:=hm b hb;refine ⟨ho,?_,pH⟩;rcases hown.2 with ⟨e1,_⟩|⟨g,cap,cur,e1,_,hg,_⟩
  ·rw [e1] at hb;simp [fV,bV] at hb
  ·rw [e1] at hb;simp [fV,bV] at hb;subst hb;exact (Array.getElem?_eq_some_iff.1 hg).1
 |mp k e ks es=>
  obtain ⟨b',bL,clock,hl,ho,hh,hm,_⟩:=h;rw [hl] at hb;rw [mJ] at hb;subst hb;exact ⟨ho,(Array.getElem?_eq_some_iff.1 hh).1,hm⟩
 |mr k e sz ks vs=>
  obtain ⟨b',bL,clock,us,hl,ho,hh,hm,h1,h2,h3,h4,h5,h6⟩:=h;rw [hl] at hb;rcases iM.1 hb with rfl|⟨u,hu,hg⟩
  ·exact ⟨.inl ho,(Array.getElem?_eq_some_iff.1 hh).1,hm⟩
  ·obtain ⟨i,xs,k1,k2⟩:=Rr h2 h5 hu hg
   obtain ⟨u',cells,k3,k4,k5,k6,k7⟩:=h4 i xs k1;rw [k2] at k3;injection k3 with k3
   subst k3;exact ⟨.inl (k7 b hg).1,Cl k5 hg,(k7 b hg).2⟩
 |it s pos=>
  obtain ⟨b',hl,ho,hh,hm⟩:=h;rw [hl] at hb;rw [jE] at hb;subst hb;exact ⟨ho,(Array.getElem?_eq_some_iff.1 hh).1,hm⟩
theorem gQ.keep {n0:Nat} {id:Nat} {o:Ob} {w':World} {μ':Mu} (h:gQ n0 L μ loc w id o) (hle:μ.le μ')
  (hb:∀b,fV (loc id) b→w'.heap[b]? =w.heap[b]? ∧∀j,μ' b j=none):gQ n0 L μ' loc w' id o:=by
 cases o with
 |box t cells=>
  obtain ⟨b,vs,hl,ho,hh,hm,hs,h1⟩:=h;obtain ⟨e,hm'⟩:=hb b (by rw [hl];exact jE.2 rfl);exact ⟨b,vs,hl,ho,e.trans hh,hm',Be hle _ _ hs,h1⟩
 |row e sz xs=>
  obtain ⟨vs,hown,hrc,hm⟩:=h;exact ⟨vs,qH hown (fun g hg=>(hb g (.inl hg)).1),oU hle hrc,fun g hg=>⟨(hm g hg).1,(hb g hg).2⟩⟩
 |mp k e ks es=>
  obtain ⟨b,bL,clock,hl,ho,hh,hm,h1,h2,hB⟩:=h;obtain ⟨e,hm'⟩:=hb b (by rw [hl];exact mJ.2 rfl);exact ⟨b,bL,clock,hl,ho,e.trans hh,hm',dg hle _ _ h1,dg hle _ _ h2,hB⟩
 |mr k e sz ks vs=>
  obtain ⟨b,bL,clock,us,hl,ho,hh,hm,h1,h2,h3,h4,h5,h6⟩:=h;obtain ⟨e,hm'⟩:=hb b (by rw [hl];exact iM.2 (.inl rfl));refine ⟨b,bL,clock,us,hl,ho,e.trans hh,hm',dg hle _ _ h1,h2,h3,fun i xs hi=> ?_,h5,h6⟩;obtain ⟨u,cells,k1,k2,k3,k4,k5⟩:=h4 i xs hi;have hin:∀g,bV u=some g→fV (loc id) g:=fun g hg=>by rw [hl];exact iM.2 (.inr ⟨u,List.mem_of_getElem? k1,hg⟩)
  exact ⟨u,cells,k1,k2,qH k3 (fun g hg=>(hb g (hin g hg)).1),oU hle k4,fun g hg=>⟨(k5 g hg).1,(hb g (hin g hg)).2⟩⟩
 |it s pos=>
  obtain ⟨b,hl,ho,hh,hm⟩:=h;obtain ⟨e,hm'⟩:=hb b (by rw [hl];exact jE.2 rfl);exact ⟨b,hl,ho,e.trans hh,hm'⟩
theorem uy {n0:Nat} {L:kP} {loc:Nat→Value} {i id:Nat} {x:Value} {o:Ob} (h:gQ n0 L μ loc w i o) (hne:i≠id):gQ n0 L μ (tV loc id x) w i (o.bR id):=by
 cases o with
 |box t cells=>
  obtain ⟨b,vs,hl,ho,hh,hm,hs,h1⟩:=h;exact ⟨b,vs,by rw [cm _ _ hne];exact hl,ho,hh,hm,si _ _ hs,h1⟩
 |row e sz xs=>
  obtain ⟨vs,hown,hrc,hm⟩:=h;refine ⟨vs,by rw [cm _ _ hne];exact hown,hrc,fun g hg=>hm g (by rw [cm _ _ hne] at hg;exact hg)⟩
 |mp k e ks es=>
  obtain ⟨b,bL,clock,hl,ho,hh,hm,h1,h2,hB⟩:=h;exact ⟨b,bL,clock,by rw [cm _ _ hne];exact hl,ho,hh,hm,h1,h2,hB⟩
 |mr k e sz ks vs=>
  obtain ⟨b,bL,clock,us,hl,rest⟩:=h;exact ⟨b,bL,clock,us,by rw [cm _ _ hne];exact hl,rest⟩
 |it s pos=>
  obtain ⟨b,hl,rest⟩:=h;exact ⟨b,by rw [cm _ _ hne];exact hl,rest⟩
theorem Rel.world (hR:Rel N w0 μ0 L μ loc st a w) {w':World} {μ':Mu} (hle:μ.le μ') (Pq:∀b j v,μ' b j=some v→μ b j=some v∨w0.heap.size≤b) (fJ:∀b j v,μ' b j=some v→zy w' b j=some v)
  (qp:∀id o,st.ob id=some o→∀b,fV (loc id) b→w'.heap[b]? =w.heap[b]? ∧∀j,μ' b j=none)
  (hkeep:∀b,b<w0.heap.size→¬Da L b→w'.heap[b]? =w.heap[b]?)
  (hos:w'.os=w.os) (GQ:w'.tape=w.tape) (hout:w'.output=w.output) (hsz:w.heap.size≤w'.heap.size) (Pp:L.q→w.drawn≤w'.drawn:=by exact fun _=>Nat.le_refl _):Rel N w0 μ0 L μ' loc st a w':=by
 refine ⟨hR.small,hR.names,hR.fix,hR.size,hR.defers,?_,fJ,⟨hR.base.1.trans hle,?_⟩,?_,hR.apart,fun b hb hl=>(hkeep b hb hl).trans (hR.keep b hb hl),hos.trans hR.os,GQ.trans hR.tape,hout.trans hR.output,Nat.le_trans hR.grown hsz,fun q=>Nat.le_trans (hR.drawn q) (Pp q)⟩
 ·intro i s hi
  obtain ⟨v,hv,hr⟩:=hR.env i s hi;exact ⟨v,hv,xJ hle hr⟩
 ·intro b j v h
  rcases Pq b j v h with h|h
  ·exact hR.base.2 b j v h
  ·exact .inr h
 ·intro id o ho
  exact (hR.obs id o ho).keep hle (qp id o ho)
theorem Rel.grow (hR:Rel N w0 μ0 L μ loc st a w) {w':World} {μ':Mu} (Pq:μ.ext w.heap.size μ') (fJ:∀b j v,μ' b j=some v→zy w' b j=some v) (hb:Below w.heap.size w w') (Pp:L.q→w.drawn≤w'.drawn:=by exact fun _=>Nat.le_refl _):Rel N w0 μ0 L μ' loc st a w':=by
 refine hR.world Pq.1 (fun b j v h=> ?_) fJ (fun id o ho b sX=> ?_) (fun b hlt hl=>hb.block b (Nat.lt_of_lt_of_le hlt hR.grown)) hb.os hb.tape hb.output hb.size Pp
 ·rcases Pq.2 b j v h with h|h
  ·exact .inl h
  ·exact .inr (Nat.le_trans hR.grown h)
 ·obtain ⟨_,hlt,pH⟩:=(hR.obs id o ho).block b sX
  refine ⟨hb.block b hlt,fun j=> ?_⟩;cases hj:μ' b j with
  |none=>rfl
  |some v=>
   rcases Pq.2 b j v hj with h|h
   ·rw [pH j] at h;cases h
   ·omega
theorem Rel.HD (hR:Rel N w0 μ0 L μ loc st a w) {w':World} (hb:Below w.heap.size w w'):∀b j v,μ b j=some v→zy w' b j=some v:=fun b j v h=>by
 have hc:=hR.q8 b j v h;have hlt:=su hc;rw [fN (hb.block b hlt)];exact hc
theorem Rel.Ls (hR:Rel N w0 μ0 L μ loc st a w) {w':World} (hb:Below w.heap.size w w') (Pp:L.q→w.drawn≤w'.drawn:=by exact fun _=>Nat.le_refl _):Rel N w0 μ0 L μ loc st a w':=
 hR.grow ⟨Mu.le.refl _,fun _ _ _ h=> .inl h⟩ (hR.HD hb) hb Pp
theorem Rel.new (hR:Rel N w0 μ0 L μ loc st a w) {id:Nat} {val:Value} {o:Ob} (hid:id<10000∨20000≤id) (cQ:gQ w0.heap.size L μ (tV loc id val) w id o)
  (hap:∀j oj,st.ob j=some oj→j≠id→∀g,fV val g→¬fV (loc j) g):Rel N w0 μ0 L μ (tV loc id val) (st.new id o) a w:=by
 have hsub:∀i oi,(st.new id o).ob i=some oi→(i=id∧oi=o)∨(i≠id∧∃oj,st.ob i=some oj∧oi=oj.bR id):=fun i oi h=>by
  by_cases e:id=i
  ·subst e
   simp only [St.new,bO,Option.some.injEq] at h;exact .inl ⟨rfl,h.symm⟩
  ·simp only [St.new,St.bR,aV _ _ e] at h
   cases ho:st.ob i with
   |none=>simp [ho] at h
   |some oj=>simp [ho] at h;exact .inr ⟨fun e'=>e e'.symm,oj,rfl,h.symm⟩
 refine ⟨hR.small,hR.names,?_,hR.size,hR.defers,?_,hR.q8,hR.base,?_,?_,hR.keep,hR.os,hR.tape,hR.output,hR.grown,hR.drawn⟩
 ·intro i v hv hi
  have hne:i≠id:=fun e=>by
   subst e;rcases hid with h|h
   ·rw [hR.names i h] at hv;cases hv
   ·omega
  rw [cm _ _ hne];exact hR.fix i v hv hi
 ·intro i s hi
  simp only [St.new,St.bR] at hi;cases he:st.env i with
  |none=>simp [he] at hi
  |some s'=>
   simp [he] at hi;subst hi;obtain ⟨v,hv,hr⟩:=hR.env i s' he;exact ⟨v,hv,qK hr⟩
 ·intro i oi hi
  rcases hsub i oi hi with ⟨rfl,rfl⟩|⟨hne,oj,hj,rfl⟩
  ·exact cQ
  ·exact uy (hR.obs i oj hj) hne
 ·intro i j oi oj hi hj hij g hg
  rcases hsub i oi hi with ⟨rfl,rfl⟩|⟨hni,N6,hi',rfl⟩
  ·rcases hsub j oj hj with ⟨rfl,_⟩|⟨TJ,Rv,hj',rfl⟩
   ·exact absurd rfl hij
   ·rw [cA] at hg
    rw [cm _ _ TJ];exact hap j Rv hj' TJ g hg
  ·rcases hsub j oj hj with ⟨rfl,rfl⟩|⟨TJ,Rv,hj',rfl⟩
   ·rw [cm _ _ hni] at hg
    rw [cA];intro hv;exact hap i N6 hi' hni g hv hg
   ·rw [cm _ _ hni] at hg
    rw [cm _ _ TJ];exact hR.apart i j N6 Rv hi' hj' hij g hg
theorem Rel.write (hR:Rel N w0 μ0 L μ loc st a w) {id:Nat} {o o':Ob} (ho:st.ob id=some o) {g:Nat} (hg:fV (loc id) g) {w':World}
  (hch:∀b,b≠g→w'.heap[b]? =w.heap[b]?) (hos:w'.os=w.os) (GQ:w'.tape=w.tape) (hout:w'.output=w.output) (hsz:w'.heap.size=w.heap.size)
  (cQ:gQ w0.heap.size L μ loc w' id o') (Pp:L.q→w.drawn≤w'.drawn:=by exact fun _=>Nat.le_refl _):Rel N w0 μ0 L μ loc { st with ob:=put st.ob id (some o') } a w':=by
 obtain ⟨hown,hlt,pH⟩:=(hR.obs id o ho).block g hg
 have h1:=(hR.drop id).world (w':=w') (Mu.le.refl _) (fun _ _ _ h=> .inl h) (fun b j v h=>by
   have hne:b≠g:=fun e=>by subst e;rw [pH j] at h;cases h
   have:=hR.q8 b j v h
   rw [fN (hch b hne)];exact this) (fun i oi hi b hb=>by
   by_cases e:id=i
   ·subst e;simp [bO] at hi
   ·simp only [aV _ _ e] at hi
    have hne:b≠g:=fun e'=>by subst e';exact hR.apart id i o oi ho hi e b hg hb
    exact ⟨hch b hne,((hR.obs i oi hi).block b hb).2.2⟩) (fun b hb hl=>by
   refine hch b (fun e=> ?_);subst e;rcases hown with h|⟨v,hv,h⟩
   ·omega
   ·exact hl ⟨id,v,hv,h⟩) hos GQ hout (by omega) Pp
 refine ⟨h1.small,h1.names,h1.fix,h1.size,h1.defers,h1.env,h1.q8,h1.base,?_,?_,h1.keep,h1.os,h1.tape,h1.output,h1.grown,h1.drawn⟩
 ·intro i oi hi
  by_cases e:id=i
  ·subst e;simp only [bO,Option.some.injEq] at hi;subst hi;exact cQ
  ·exact h1.obs i oi (by simpa only [aV _ _ e] using hi)
 ·intro i j oi oj hi hj hij
  have get:∀k ok,put st.ob id (some o') k=some ok→∃ok',st.ob k=some ok':=fun k ok h=>by
   by_cases e:id=k
   ·subst e;exact ⟨o,ho⟩
   ·exact ⟨ok,by simpa only [aV _ _ e] using h⟩
  obtain ⟨N6,hi'⟩:=get i oi hi;obtain ⟨Rv,hj'⟩:=get j oj hj;exact hR.apart i j N6 Rv hi' hj' hij
end
end Go.AM
