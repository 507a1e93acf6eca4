/- THE ABSTRACT MACHINE. -/
import Derived.Test.YtfoddgpndoeeaaaGreatDoorAmPure
set_option linter.unusedVariables false
set_option linter.unusedSimpArgs false
namespace Go.AM
open Go.RowKit
theorem KL {α:Type} (k:Ask α):∀w:World,w.drawn≤(w.ask k).2.drawn:=by
 induction k with
 |done a=>intro w;exact Nat.le_refl _
 |ask what range k ih=>
  intro w;unfold World.ask;dsimp only;split
  ·exact ih 0 w
  ·exact Nat.le_trans (Nat.le_succ _) (ih _ { w with drawn:=w.drawn+1 })
theorem L2 (w:World) (c:Sys):w.drawn≤(w.sys c).2.drawn:=by
 unfold World.sys;have h:=KL (Kernel.perform c w.os) w;split
 ·exact Nat.le_refl _
 ·rename_i e;rw [e] at h;exact h
theorem yZ {p:Program} {w w':World} {a:Addr} {v:Value} {at_:Bool} {l:List Addr} (h:w.farStore p a v at_= .ok (w',l)):w'.drawn=w.drawn:=by
 unfold World.farStore at h;split at h
 ·split at h
  ·rename_i u r e
   injection h with h;subst h
   unfold World.viewStore at e;simp only [bind,Except.bind,pure,Except.pure,throw,throwThe,MonadExceptOf.throw] at e
   repeat' split at e
   all_goals first|(cases e;done)|skip
   all_goals (injection e with e;simp only [Prod.mk.injEq] at e;rw [←e.1])
  ·cases h
 ·cases h
theorem LU {α:Type} {p:Program}:∀{m:Sem α} {w w':World} {v:α},m.run p w= .ok v w'→w.drawn≤w'.drawn:=by
 intro m
 induction m with
 |pure a=>intro w w' v h;simp only [Sem.run] at h;injection h with _ h;subst h;exact Nat.le_refl _
 |load m a k ih=>
  intro w w' v h;simp only [Sem.run] at h;split at h
  ·exact ih _ h
  ·split at h
   ·exact ih _ h
   ·cases h
 |store m a x k ih=>
  intro w w' v h;cases x<;>simp only [Sem.run] at h
  all_goals first|(cases h;done)|skip
  all_goals
   split at h
   ·split at h
    ·cases h
    ·have:=ih h
     rename_i x _ _ _;have e:∀y,(w.setCell a y).drawn=w.drawn:=fun y=>by unfold World.setCell;split<;>rfl
     rw [e] at this;exact this
   ·split at h
    ·rename_i e
     have:=ih h;have:=yZ e;omega
    ·cases h
 |new o k ih=>intro w w' v h;simp only [Sem.run] at h;have:=ih _ h;exact this
 |shape r k ih=>intro w w' v h;simp only [Sem.run] at h;exact ih _ h
 |freeze a n k ih=>
  intro w w' v h;simp only [Sem.run] at h;have:=ih h;have e:(w.freeze a n).drawn=w.drawn:=by unfold World.freeze;split<;>rfl
  omega
 |frozen a k ih=>intro w w' v h;simp only [Sem.run] at h;exact ih _ h
 |getObj r k ih=>
  intro w w' v h;simp only [Sem.run] at h;split at h
  ·cases h
  ·exact ih _ h
  ·cases h
 |setObj r o k ih=>
  intro w w' v h;simp only [Sem.run] at h;split at h
  ·cases h
  ·have:=ih h;exact this
  ·cases h
 |choose q k ih=>
  intro w w' v h;simp only [Sem.run] at h;split at h
  ·exact ih _ h
  ·exact Nat.le_trans (Nat.le_succ _) (ih _ h)
 |sys c k ih=>intro w w' v h;simp only [Sem.run] at h;exact Nat.le_trans (L2 w c) (ih _ h)
 |program k ih=>intro w w' v h;simp only [Sem.run] at h;exact ih _ h
 |mark m k ih=>intro w w' v h;simp only [Sem.run] at h;exact ih h
 |halt h'=>intro w w' v h;simp only [Sem.run] at h;cases h
theorem beq_iff {a b:Nat}:Nat.beq a b=true↔a=b:=by
 constructor
 ·exact Nat.eq_of_beq_eq_true
 ·rintro rfl;exact Nat.beq_refl a
theorem Mv {a b:Nat} (h:a≠b):Nat.beq a b=false:=by
 cases e:Nat.beq a b with
 |false=>rfl
 |true=>exact absurd (beq_iff.1 e) h
theorem bD {α:Type} (m:Nat→Option α) (d:Nat) (v:Option α):put m d v d=v:=by simp [put,Nat.beq_refl]
theorem aN {α:Type} (m:Nat→Option α) {d i:Nat} (v:Option α) (h:d≠i):put m d v i=m i:=by simp [put,Mv h]
def lW (loc:Nat→Value) (id:Nat) (v:Value):Nat→Value:=fun i=>if i=id then v else loc i
theorem bH (loc:Nat→Value) (id:Nat) (v:Value):lW loc id v id=v:=by simp [lW]
theorem bM (loc:Nat→Value) {id i:Nat} (v:Value) (h:i≠id):lW loc id v i=loc i:=by simp [lW,h]
section
variable {μ μ':Mu} {loc loc':Nat→Value}
theorem pX (h:μ.le μ'):∀(cs:List jl) (vs:List Value),fE μ loc cs vs→fE μ' loc cs vs
 |[],vs=>fun h=>h
 |c::cs,vs=>fun ⟨u,us,e,h1,h2⟩=>⟨u,us,e,by cases c<;>first|exact ri h _ _ h1|exact h1,pX h cs us h2⟩
theorem wm (h:μ.le μ') {s:SV} {v:Value} (k:cH μ loc s v):cH μ' loc s v:=by
 induction s generalizing v with
 |two s b ih=>obtain ⟨x,e,k⟩:=k;exact ⟨x,e,ih k⟩
 |undef=>exact k
 |any=>exact k
 |pv x=>exact ri h _ _ k
 |ptr id off=>exact k
 |row id=>exact k
 |rp id sz i off=>exact k
 |sub id sz lo hi=>exact k
 |cp cs=>
  obtain ⟨b,off,vs,e,hc,hm⟩:=k;exact ⟨b,off,vs,e,hc.mono h,fun j u hu=>h _ _ _ (hm j u hu)⟩
 |cl f caps=>obtain ⟨vs,e,hc⟩:=k;exact ⟨vs,e,pX h _ _ hc⟩
 |ag caps=>obtain ⟨vs,e,hc,h1⟩:=k;exact ⟨vs,e,pX h _ _ hc,h1⟩
theorem z7 (h:μ.le μ'):∀(cs:List SV) (vs:List Value),dZ μ loc cs vs→dZ μ' loc cs vs
 |[],vs=>fun h=>h
 |c::cs,vs=>fun ⟨u,us,e,h1,h2⟩=>⟨u,us,e,wm h h1,z7 h cs us h2⟩
theorem q9 {id:Nat} {x:Value}:∀(cs:List jl) (vs:List Value),cs.any (jl.mentions id)=false→fE μ loc cs vs→fE μ (lW loc id x) cs vs
 |[],vs=>fun _ h=>h
 |c::cs,vs=>fun hm ⟨u,us,e,h1,h2⟩=>by
  simp only [List.any_cons,Bool.or_eq_false_iff] at hm;refine ⟨u,us,e,?_,q9 cs us hm.2 h2⟩;cases c with
  |v a=>exact h1
  |p j=>
   have:j≠id:=fun e=>by subst e;simp [jl.mentions,Nat.beq_refl] at hm
   obtain ⟨b,k1,k2⟩:=h1;exact ⟨b,by rw [bM _ _ this];exact k1,k2⟩
  |r j=>
   have:j≠id:=fun e=>by subst e;simp [jl.mentions,Nat.beq_refl] at hm
   show u=c7 (lW loc id x j);rw [bM _ _ this];exact h1
theorem Gn {id:Nat} {x:Value} {s:SV} {v:Value} (hm:s.mentions id=false) (k:cH μ loc s v):cH μ (lW loc id x) s v:=by
 have ne:∀{j:Nat},Nat.beq j id=false→j≠id:=fun h e=>by subst e;simp [Nat.beq_refl] at h
 induction s generalizing v with
 |undef=>exact k
 |any=>exact k
 |pv y=>exact k
 |ptr j off=>obtain ⟨b,h1,h2⟩:=k;exact ⟨b,by rw [bM _ _ (ne hm)];exact h1,h2⟩
 |row j=>show v=c7 (lW loc id x j);rw [bM _ _ (ne hm)];exact k
 |rp j sz i off=>obtain ⟨g,n,c,h1,h2⟩:=k;exact ⟨g,n,c,by rw [bM _ _ (ne hm)];exact h1,h2⟩
 |sub j sz lo hi=>obtain ⟨A,n,c,A',c',h1,h2⟩:=k;exact ⟨A,n,c,A',c',by rw [bM _ _ (ne hm)];exact h1,h2⟩
 |cp cs=>exact k
 |cl f caps=>obtain ⟨vs,e,hc⟩:=k;exact ⟨vs,e,q9 _ _ hm hc⟩
 |ag caps=>obtain ⟨vs,e,hc,h1⟩:=k;exact ⟨vs,e,q9 _ _ hm hc,h1⟩
 |two s b ih=>obtain ⟨y,e,k⟩:=k;exact ⟨y,e,ih hm k⟩
theorem pY {id:Nat} {x:Value} {s:SV} {v:Value} (k:cH μ loc s v):cH μ (lW loc id x) (s.cA id) v:=by
 unfold SV.cA;cases hm:s.mentions id with
 |true=>trivial
 |false=>exact Gn hm k
theorem rf {id:Nat} {x:Value}:∀(cs:List SV) (vs:List Value),dZ μ loc cs vs→dZ μ (lW loc id x) (cs.map (SV.cA id)) vs
 |[],vs=>fun h=>h
 |c::cs,vs=>fun ⟨u,us,e,h1,h2⟩=>⟨u,us,e,pY h1,rf cs us h2⟩
end
section
variable {P:Program} {N:Nat} {w0:World} {μ0:Mu} {L:ku} {μ:Mu} {loc:Nat→Value} {st:St} {a:Act} {w:World}
theorem Rel.set (hR:Rel N w0 μ0 L μ loc st a w) {d:Option Nat} {sv:SV} {v:Value} (hd:∀i,d=some i→i<N) (hs:cH μ loc sv v):
  Rel N w0 μ0 L μ loc (st.set d sv) (a.put d v) w:=by
 cases d with
 |none=>exact hR
 |some d=>
  have hlt:=hd d rfl;refine ⟨hR.small,hR.names,hR.fix,by simp [Act.put,hR.size],by simp [Act.put,hR.defers],?_,hR.ou,hR.base,hR.obs,hR.apart,hR.keep,hR.os,hR.tape,hR.output,hR.grown,hR.drawn⟩;intro i s hi;by_cases e:d=i
  ·subst e
   simp only [St.set,bD,Option.some.injEq] at hi;subst hi;exact ⟨v,by simp [Act.put,hR.size,hlt],hs⟩
  ·simp only [St.set,aN _ _ e] at hi
   obtain ⟨u,hu,hr⟩:=hR.env i s hi;exact ⟨u,by simp only [Act.put];rw [Array.getElem?_setIfInBounds_ne e];exact hu,hr⟩
theorem Rel.drop (hR:Rel N w0 μ0 L μ loc st a w) (id:Nat):Rel N w0 μ0 L μ loc { st with ob:=put st.ob id none } a w:=by
 have hsub:∀i o,put st.ob id none i=some o→st.ob i=some o∧i≠id:=fun i o h=>by
  by_cases e:id=i
  ·subst e;simp [bD] at h
  ·rw [aN _ _ e] at h;exact ⟨h,fun e'=>e e'.symm⟩
 exact ⟨hR.small,hR.names,hR.fix,hR.size,hR.defers,hR.env,hR.ou,hR.base,fun i o h=>hR.obs i o (hsub i o h).1,fun i j oi oj hi hj=>hR.apart i j oi oj (hsub i oi hi).1 (hsub j oj hj).1,hR.keep,hR.os,hR.tape,hR.output,hR.grown,hR.drawn⟩
theorem jj {b off g:Nat}:ff (.pointer (some ⟨b,off,none⟩)) g↔g=b:=by simp [ff,aQ,eq_comm]
theorem lM {b g:Nat}:ff (.map (some b)) g↔g=b:=by simp [ff,aQ,eq_comm]
theorem eT {A:Option Addr} {n c g:Nat}:ff (.slice A n c) g↔aQ (.slice A n c)=some g:=by simp [ff]
theorem ig {b:Nat} {us:List Value} {g:Nat}:ff (.tuple (.map (some b)::us).toArray) g↔g=b∨∃u∈us,aQ u=some g:=by
 constructor
 ·rintro (h|⟨vs,e,u,hu,h⟩)
  ·simp [aQ] at h
  ·injection e with e
   have:vs= .map (some b)::us:=by have:=congrArg Array.toList e;simpa using this.symm
   subst this;rcases List.mem_cons.1 hu with rfl|hu
   ·left;simpa [aQ,eq_comm] using h
   ·exact .inr ⟨u,hu,h⟩
 ·rintro (rfl|⟨u,hu,h⟩)
  ·exact .inr ⟨_,rfl, .map (some g),by simp,rfl⟩
  ·exact .inr ⟨_,rfl,u,by simp [hu],h⟩
theorem gf {m:Value} {us:List Value} {g:Nat}:ff (.tuple (m::us).toArray) g↔aQ m=some g∨∃u∈us,aQ u=some g:=by
 constructor
 ·rintro (h|⟨vs,e,u,hu,h⟩)
  ·simp [aQ] at h
  ·injection e with e
   have:vs=m::us:=by have:=congrArg Array.toList e;simpa using this.symm
   subst this;rcases List.mem_cons.1 hu with rfl|hu
   ·exact .inl h
   ·exact .inr ⟨u,hu,h⟩
 ·rintro (h|⟨u,hu,h⟩)
  ·exact .inr ⟨_,rfl,m,by simp,h⟩
  ·exact .inr ⟨_,rfl,u,by simp [hu],h⟩
theorem I9 {α:Type} {us:List Value} {vs:List (Option α)} (hl:us.length=vs.length) (hno:∀i:Nat,vs[i]? =some none→us[i]? =some undef) {u:Value} (hu:u∈us) {g:Nat} (hg:aQ u=some g):∃(i:Nat) (xs:α),vs[i]? =some (some xs)∧us[i]? =some u:=by
 obtain ⟨i,hi,e⟩:=List.mem_iff_getElem.1 hu;have h1:us[i]? =some u:=by rw [List.getElem?_eq_getElem hi,e]
 cases hv:vs[i]? with
 |none=>rw [List.getElem?_eq_none_iff] at hv;omega
 |some o=>
  cases o with
  |none=>
   have:=hno i hv;rw [h1] at this;injection this with this
   subst this;simp [undef,aQ] at hg
  |some xs=>exact ⟨i,xs,hv,h1⟩
theorem nF {w:World} {e:TypeId} {sz:Nat} {u:Value} {n:Nat} {cells:List Value} (h:w.ownsRow 0 e sz u n cells) {g:Nat} (hg:aQ u=some g):g<w.heap.size:=by
 rcases h.2 with ⟨e1,_⟩|⟨g',cap,cur,e1,_,hg',_⟩
 ·rw [e1] at hg;simp [aQ] at hg
 ·rw [e1] at hg;simp [aQ] at hg;subst hg;exact (Array.getElem?_eq_some_iff.1 hg').1
theorem je {μ':Mu} {sz:Nat} (hle:μ.le μ'):∀{xs:List (List AV)} {vs:List Value},bV μ sz xs vs→bV μ' sz xs vs
 |[],vs,h=>h
 |x::xs,vs,⟨us,ws,e,h1,h2,h3⟩=>⟨us,ws,e,h1.mono hle,h2,je hle h3⟩
theorem gC {w w':World} {e:TypeId} {sz:Nat} {u:Value} {n:Nat} {cells:List Value} (h:w.ownsRow 0 e sz u n cells) (hb:∀g,aQ u=some g→w'.heap[g]? =w.heap[g]?):w'.ownsRow 0 e sz u n cells:=by
 refine ⟨h.1,?_⟩;rcases h.2 with hn|⟨g,cap,cur,e1,h0,hg,rest⟩
 ·exact .inl hn
 ·exact .inr ⟨g,cap,cur,e1,h0,(hb g (by rw [e1];rfl)).trans hg,rest⟩
theorem gB.block {n0:Nat} {id:Nat} {o:Ob} (h:gB n0 L μ loc w id o):∀b,ff (loc id) b→yd n0 L id b∧b<w.heap.size∧∀j,μ b j=none:=by
 intro b hb;cases o with
 |box t cells=>
  obtain ⟨b',vs,hl,ho,hh,hm,_⟩:=h;rw [hl] at hb;rw [jj] at hb;subst hb;exact ⟨ho,(Array.getElem?_eq_some_iff.1 hh).1,hm⟩
 |row e sz xs=>
  obtain ⟨vs,hown,_,hm⟩:=h;obtain ⟨ho,nR⟩:=hm b hb;refine ⟨ho,?_,nR⟩;rcases hown.2 with ⟨e1,_⟩|⟨g,cap,cur,e1,_,hg,_⟩
  ·rw [e1] at hb;simp [ff,aQ] at hb
  ·rw [e1] at hb;simp [ff,aQ] at hb;subst hb;exact (Array.getElem?_eq_some_iff.1 hg).1
 |mp k e ks es=>
  obtain ⟨b',bz,clock,hl,ho,hh,hm,_⟩:=h;rw [hl] at hb;rw [lM] at hb;subst hb;exact ⟨ho,(Array.getElem?_eq_some_iff.1 hh).1,hm⟩
 |mr k e sz ks vs=>
  obtain ⟨b',bz,clock,us,hl,ho,hh,hm,h1,h2,h3,h4,h5,h6⟩:=h;rw [hl] at hb;rcases ig.1 hb with rfl|⟨u,hu,hg⟩
  ·exact ⟨.inl ho,(Array.getElem?_eq_some_iff.1 hh).1,hm⟩
  ·obtain ⟨i,xs,k1,k2⟩:=I9 h2 h5 hu hg
   obtain ⟨u',cells,k3,k4,k5,k6,k7⟩:=h4 i xs k1;rw [k2] at k3;injection k3 with k3
   subst k3;exact ⟨.inl (k7 b hg).1,nF k5 hg,(k7 b hg).2⟩
 |it s pos=>
  obtain ⟨b',hl,ho,hh,hm⟩:=h;rw [hl] at hb;rw [jj] at hb;subst hb;exact ⟨ho,(Array.getElem?_eq_some_iff.1 hh).1,hm⟩
 |rn e sz k e' sz' xs ys=>
  obtain ⟨m,us,vs,hl,hm,hown,hrc,hk,h2,h3,h4,h5,h6,h7⟩:=h;rw [hl] at hb;rcases gf.1 hb with hg|⟨u,hu,hg⟩
  ·exact ⟨(hm b hg).1,nF hown hg,(hm b hg).2⟩
  ·obtain ⟨i,zs,k1,k2⟩:=I9 h2 h5 hu hg
   obtain ⟨u',cells,k3,_,k5,k6,k7⟩:=h4 i zs k1;rw [k2] at k3;injection k3 with k3
   subst k3;exact ⟨(k7 b hg).1,nF k5 hg,(k7 b hg).2⟩
theorem gB.keep {n0:Nat} {id:Nat} {o:Ob} {w':World} {μ':Mu} (h:gB n0 L μ loc w id o) (hle:μ.le μ')
  (hb:∀b,ff (loc id) b→w'.heap[b]? =w.heap[b]? ∧∀j,μ' b j=none):gB n0 L μ' loc w' id o:=by
 cases o with
 |box t cells=>
  obtain ⟨b,vs,hl,ho,hh,hm,hs,h1⟩:=h;obtain ⟨e,hm'⟩:=hb b (by rw [hl];exact jj.2 rfl);exact ⟨b,vs,hl,ho,e.trans hh,hm',z7 hle _ _ hs,h1⟩
 |row e sz xs=>
  obtain ⟨vs,hown,hrc,hm⟩:=h;exact ⟨vs,gC hown (fun g hg=>(hb g (.inl hg)).1),je hle hrc,fun g hg=>⟨(hm g hg).1,(hb g hg).2⟩⟩
 |mp k e ks es=>
  obtain ⟨b,bz,clock,hl,ho,hh,hm,h1,h2,hB⟩:=h;obtain ⟨e,hm'⟩:=hb b (by rw [hl];exact lM.2 rfl);exact ⟨b,bz,clock,hl,ho,e.trans hh,hm',cV hle _ _ h1,cV hle _ _ h2,hB⟩
 |mr k e sz ks vs=>
  obtain ⟨b,bz,clock,us,hl,ho,hh,hm,h1,h2,h3,h4,h5,h6⟩:=h;obtain ⟨e,hm'⟩:=hb b (by rw [hl];exact ig.2 (.inl rfl));refine ⟨b,bz,clock,us,hl,ho,e.trans hh,hm',cV hle _ _ h1,h2,h3,fun i xs hi=> ?_,h5,h6⟩;obtain ⟨u,cells,k1,k2,k3,k4,k5⟩:=h4 i xs hi;have hin:∀g,aQ u=some g→ff (loc id) g:=fun g hg=>by rw [hl];exact ig.2 (.inr ⟨u,List.mem_of_getElem? k1,hg⟩)
  exact ⟨u,cells,k1,k2,gC k3 (fun g hg=>(hb g (hin g hg)).1),je hle k4,fun g hg=>⟨(k5 g hg).1,(hb g (hin g hg)).2⟩⟩
 |it s pos=>
  obtain ⟨b,hl,ho,hh,hm⟩:=h;obtain ⟨e,hm'⟩:=hb b (by rw [hl];exact jj.2 rfl);exact ⟨b,hl,ho,e.trans hh,hm'⟩
 |rn e sz k e' sz' xs ys=>
  obtain ⟨m,us,vs,hl,hm,hown,hrc,hk,h2,h3,h4,h5,h6,h7⟩:=h;have him:∀g,aQ m=some g→ff (loc id) g:=fun g hg=>by rw [hl];exact gf.2 (.inl hg)
  refine ⟨m,us,vs,hl,fun g hg=>⟨(hm g hg).1,(hb g (him g hg)).2⟩,gC hown (fun g hg=>(hb g (him g hg)).1),je hle hrc,hk,h2,h3,fun i zs hi=> ?_,h5,h6,h7⟩;obtain ⟨u,cells,k1,k2,k3,k4,k5⟩:=h4 i zs hi;have hin:∀g,aQ u=some g→ff (loc id) g:=fun g hg=>by rw [hl];exact gf.2 (.inr ⟨u,List.mem_of_getElem? k1,hg⟩)
  exact ⟨u,cells,k1,k2,gC k3 (fun g hg=>(hb g (hin g hg)).1),je hle k4,fun g hg=>⟨(k5 g hg).1,(hb g (hin g hg)).2⟩⟩
theorem tI {n0:Nat} {L:ku} {loc:Nat→Value} {i id:Nat} {x:Value} {o:Ob} (h:gB n0 L μ loc w i o) (hne:i≠id):gB n0 L μ (lW loc id x) w i (o.cA id):=by
 cases o with
 |box t cells=>
  obtain ⟨b,vs,hl,ho,hh,hm,hs,h1⟩:=h;exact ⟨b,vs,by rw [bM _ _ hne];exact hl,ho,hh,hm,rf _ _ hs,h1⟩
 |row e sz xs=>
  obtain ⟨vs,hown,hrc,hm⟩:=h;refine ⟨vs,by rw [bM _ _ hne];exact hown,hrc,fun g hg=>hm g (by rw [bM _ _ hne] at hg;exact hg)⟩
 |mp k e ks es=>
  obtain ⟨b,bz,clock,hl,ho,hh,hm,h1,h2,hB⟩:=h;exact ⟨b,bz,clock,by rw [bM _ _ hne];exact hl,ho,hh,hm,h1,h2,hB⟩
 |mr k e sz ks vs=>
  obtain ⟨b,bz,clock,us,hl,rest⟩:=h;exact ⟨b,bz,clock,us,by rw [bM _ _ hne];exact hl,rest⟩
 |it s pos=>
  obtain ⟨b,hl,rest⟩:=h;exact ⟨b,by rw [bM _ _ hne];exact hl,rest⟩
 |rn e sz k e' sz' xs ys=>
  obtain ⟨m,us,vs,hl,rest⟩:=h;exact ⟨m,us,vs,by rw [bM _ _ hne];exact hl,rest⟩
theorem Rel.world (hR:Rel N w0 μ0 L μ loc st a w) {w':World} {μ':Mu} (hle:μ.le μ') (Nw:∀b j v,μ' b j=some v→μ b j=some v∨w0.heap.size≤b) (fm:∀b j v,μ' b j=some v→yg w' b j=some v)
  (qP:∀id o,st.ob id=some o→∀b,ff (loc id) b→w'.heap[b]? =w.heap[b]? ∧∀j,μ' b j=none)
  (hkeep:∀b,b<w0.heap.size→¬BM L b→w'.heap[b]? =w.heap[b]?)
  (hos:w'.os=w.os) (zh:w'.tape=w.tape) (hout:w'.output=w.output) (hsz:w.heap.size≤w'.heap.size) (Lg:L.q→w.drawn≤w'.drawn:=by exact fun _=>Nat.le_refl _):Rel N w0 μ0 L μ' loc st a w':=by
 refine ⟨hR.small,hR.names,hR.fix,hR.size,hR.defers,?_,fm,⟨hR.base.1.trans hle,?_⟩,?_,hR.apart,fun b hb hl=>(hkeep b hb hl).trans (hR.keep b hb hl),hos.trans hR.os,zh.trans hR.tape,hout.trans hR.output,Nat.le_trans hR.grown hsz,fun q=>Nat.le_trans (hR.drawn q) (Lg q)⟩
 ·intro i s hi
  obtain ⟨v,hv,hr⟩:=hR.env i s hi;exact ⟨v,hv,wm hle hr⟩
 ·intro b j v h
  rcases Nw b j v h with h|h
  ·exact hR.base.2 b j v h
  ·exact .inr h
 ·intro id o ho
  exact (hR.obs id o ho).keep hle (qP id o ho)
theorem Rel.grow (hR:Rel N w0 μ0 L μ loc st a w) {w':World} {μ':Mu} (Nw:μ.ext w.heap.size μ') (fm:∀b j v,μ' b j=some v→yg w' b j=some v) (hb:Below w.heap.size w w') (Lg:L.q→w.drawn≤w'.drawn:=by exact fun _=>Nat.le_refl _):Rel N w0 μ0 L μ' loc st a w':=by
 refine hR.world Nw.1 (fun b j v h=> ?_) fm (fun id o ho b rX=> ?_) (fun b hlt hl=>hb.block b (Nat.lt_of_lt_of_le hlt hR.grown)) hb.os hb.tape hb.output hb.size Lg
 ·rcases Nw.2 b j v h with h|h
  ·exact .inl h
  ·exact .inr (Nat.le_trans hR.grown h)
 ·obtain ⟨_,hlt,nR⟩:=(hR.obs id o ho).block b rX
  refine ⟨hb.block b hlt,fun j=> ?_⟩;cases hj:μ' b j with
  |none=>rfl
  |some v=>
   rcases Nw.2 b j v hj with h|h
   ·rw [nR j] at h;cases h
   ·omega
theorem Rel.Gb (hR:Rel N w0 μ0 L μ loc st a w) {w':World} (hb:Below w.heap.size w w'):∀b j v,μ b j=some v→yg w' b j=some v:=fun b j v h=>by
 have hc:=hR.ou b j v h;have hlt:=rD hc;rw [fG (hb.block b hlt)];exact hc
theorem Rel.Fy (hR:Rel N w0 μ0 L μ loc st a w) {w':World} (hb:Below w.heap.size w w') (Lg:L.q→w.drawn≤w'.drawn:=by exact fun _=>Nat.le_refl _):Rel N w0 μ0 L μ loc st a w':=
 hR.grow ⟨Mu.le.refl _,fun _ _ _ h=> .inl h⟩ (hR.Gb hb) hb Lg
theorem Rel.new (hR:Rel N w0 μ0 L μ loc st a w) {id:Nat} {val:Value} {o:Ob} (hid:id<10000∨20000≤id) (cz:gB w0.heap.size L μ (lW loc id val) w id o)
  (hap:∀j oj,st.ob j=some oj→j≠id→∀g,ff val g→¬ff (loc j) g):Rel N w0 μ0 L μ (lW loc id val) (st.new id o) a w:=by
 have hsub:∀i oi,(st.new id o).ob i=some oi→(i=id∧oi=o)∨(i≠id∧∃oj,st.ob i=some oj∧oi=oj.cA id):=fun i oi h=>by
  by_cases e:id=i
  ·subst e
   simp only [St.new,bD,Option.some.injEq] at h;exact .inl ⟨rfl,h.symm⟩
  ·simp only [St.new,St.cA,aN _ _ e] at h
   cases ho:st.ob i with
   |none=>simp [ho] at h
   |some oj=>simp [ho] at h;exact .inr ⟨fun e'=>e e'.symm,oj,rfl,h.symm⟩
 refine ⟨hR.small,hR.names,?_,hR.size,hR.defers,?_,hR.ou,hR.base,?_,?_,hR.keep,hR.os,hR.tape,hR.output,hR.grown,hR.drawn⟩
 ·intro i v hv hi
  have hne:i≠id:=fun e=>by
   subst e;rcases hid with h|h
   ·rw [hR.names i h] at hv;cases hv
   ·omega
  rw [bM _ _ hne];exact hR.fix i v hv hi
 ·intro i s hi
  simp only [St.new,St.cA] at hi;cases he:st.env i with
  |none=>simp [he] at hi
  |some s'=>
   simp [he] at hi;subst hi;obtain ⟨v,hv,hr⟩:=hR.env i s' he;exact ⟨v,hv,pY hr⟩
 ·intro i oi hi
  rcases hsub i oi hi with ⟨rfl,rfl⟩|⟨hne,oj,hj,rfl⟩
  ·exact cz
  ·exact tI (hR.obs i oj hj) hne
 ·intro i j oi oj hi hj hij g hg
  rcases hsub i oi hi with ⟨rfl,rfl⟩|⟨hni,Mf,hi',rfl⟩
  ·rcases hsub j oj hj with ⟨rfl,_⟩|⟨Rw,Jh,hj',rfl⟩
   ·exact absurd rfl hij
   ·rw [bH] at hg
    rw [bM _ _ Rw];exact hap j Jh hj' Rw g hg
  ·rcases hsub j oj hj with ⟨rfl,rfl⟩|⟨Rw,Jh,hj',rfl⟩
   ·rw [bM _ _ hni] at hg
    rw [bH];intro hv;exact hap i Mf hi' hni g hv hg
   ·rw [bM _ _ hni] at hg
    rw [bM _ _ Rw];exact hR.apart i j Mf Jh hi' hj' hij g hg
theorem Rel.write (hR:Rel N w0 μ0 L μ loc st a w) {id:Nat} {o o':Ob} (ho:st.ob id=some o) {g:Nat} (hg:ff (loc id) g) {w':World}
  (hch:∀b,b≠g→w'.heap[b]? =w.heap[b]?) (hos:w'.os=w.os) (zh:w'.tape=w.tape) (hout:w'.output=w.output) (hsz:w'.heap.size=w.heap.size)
  (cz:gB w0.heap.size L μ loc w' id o') (Lg:L.q→w.drawn≤w'.drawn:=by exact fun _=>Nat.le_refl _):Rel N w0 μ0 L μ loc { st with ob:=put st.ob id (some o') } a w':=by
 obtain ⟨hown,hlt,nR⟩:=(hR.obs id o ho).block g hg
 have h1:=(hR.drop id).world (w':=w') (Mu.le.refl _) (fun _ _ _ h=> .inl h) (fun b j v h=>by
   have hne:b≠g:=fun e=>by subst e;rw [nR j] at h;cases h
   have:=hR.ou b j v h
   rw [fG (hch b hne)];exact this) (fun i oi hi b hb=>by
   by_cases e:id=i
   ·subst e;simp [bD] at hi
   ·simp only [aN _ _ e] at hi
    have hne:b≠g:=fun e'=>by subst e';exact hR.apart id i o oi ho hi e b hg hb
    exact ⟨hch b hne,((hR.obs i oi hi).block b hb).2.2⟩) (fun b hb hl=>by
   refine hch b (fun e=> ?_);subst e;rcases hown with h|⟨v,hv,h⟩
   ·omega
   ·exact hl ⟨id,v,hv,h⟩) hos zh hout (by omega) Lg
 refine ⟨h1.small,h1.names,h1.fix,h1.size,h1.defers,h1.env,h1.ou,h1.base,?_,?_,h1.keep,h1.os,h1.tape,h1.output,h1.grown,h1.drawn⟩
 ·intro i oi hi
  by_cases e:id=i
  ·subst e;simp only [bD,Option.some.injEq] at hi;subst hi;exact cz
  ·exact h1.obs i oi (by simpa only [aN _ _ e] using hi)
 ·intro i j oi oj hi hj hij
  have get:∀k ok,put st.ob id (some o') k=some ok→∃ok',st.ob k=some ok':=fun k ok h=>by
   by_cases e:id=k
   ·subst e;exact ⟨o,ho⟩
   ·exact ⟨ok,by simpa only [aN _ _ e] using h⟩
  obtain ⟨Mf,hi'⟩:=get i oi hi;obtain ⟨Jh,hj'⟩:=get j oj hj;exact hR.apart i j Mf Jh hi' hj' hij
end
end Go.AM
