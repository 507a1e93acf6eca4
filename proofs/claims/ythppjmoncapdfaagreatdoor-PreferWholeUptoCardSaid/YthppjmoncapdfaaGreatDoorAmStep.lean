/- THE ABSTRACT MACHINE. -/
import Derived.Test.YthppjmoncapdfaaGreatDoorAmPure
set_option linter.all false
namespace Go.AM
open Go.RowKit
theorem Xb {α:Type} (k:Ask α):∀w:World,w.drawn≤(w.ask k).2.drawn:=by
 induction k with
 |done a=>intro w;exact aS _
 |ask what range k ih=>
  intro w;unfold World.ask;dsimp only;split
  ·exact ih 0 w
  ·exact dB (zL _) (ih _ { w with drawn:=w.drawn+1 })
theorem Yz (w:World) (c:Sys):w.drawn≤(w.sys c).2.drawn:=by
 unfold World.sys;have h:=Xb (Kernel.perform c w.os) w;split
 ·exact aS _
 ·rename_i e;rw [e] at h;exact h
theorem IP {p:Program} {w w':World} {a:Addr} {v:Value} {at_:Bool} {l:List Addr} (h:w.farStore p a v at_= .ok (w',l)):w'.drawn=w.drawn:=by
 unfold World.farStore at h;split at h
 ·split at h
  ·rename_i u r e
   injection h with h;subst h
   unfold World.viewStore at e;simp only [bind,Except.bind,pure,Except.pure,throw,throwThe,MonadExceptOf.throw] at e
   repeat' split at e
   all_goals first|(cases e;done)|skip
   all_goals (injection e with e;simp only [br] at e;rw [←e.1])
  ·cases h
 ·cases h
theorem Fo {α:Type} {p:Program}:∀{m:Sem α} {w w':World} {v:α},m.run p w= .ok v w'→w.drawn≤w'.drawn:=by
 intro m
 induction m with
 |pure a=>intro w w' v h;simp only [Sem.run] at h;injection h with _ h;subst h;exact aS _
 |load m a k ih=>
  intro w w' v h;simp only [Sem.run] at h;split at h
  ·exact ih _ h
  ·split at h
   ·exact ih _ h
   ·cases h
 |store m a x k ih=>
  intro w w' v h;cases x<;>simp only [Sem.run] at h
  all_goals first|(cases h;done)|skip
  all_goals
   split at h
   ·split at h
    ·cases h
    ·have:=ih h
     rename_i x _ _ _;have e:∀y,(w.setCell a y).drawn=w.drawn:=fun y=>by unfold World.setCell;split<;>rfl
     rw [e] at this;exact this
   ·split at h
    ·rename_i e
     have:=ih h;have:=IP e;omega
    ·cases h
 |new o k ih=>intro w w' v h;simp only [Sem.run] at h;have:=ih _ h;exact this
 |shape r k ih=>intro w w' v h;simp only [Sem.run] at h;exact ih _ h
 |freeze a n k ih=>
  intro w w' v h;simp only [Sem.run] at h;have:=ih h;have e:(w.freeze a n).drawn=w.drawn:=by unfold World.freeze;split<;>rfl
  omega
 |frozen a k ih=>intro w w' v h;simp only [Sem.run] at h;exact ih _ h
 |getObj r k ih=>
  intro w w' v h;simp only [Sem.run] at h;split at h
  ·cases h
  ·exact ih _ h
  ·cases h
 |setObj r o k ih=>
  intro w w' v h;simp only [Sem.run] at h;split at h
  ·cases h
  ·have:=ih h;exact this
  ·cases h
 |choose q k ih=>
  intro w w' v h;simp only [Sem.run] at h;split at h
  ·exact ih _ h
  ·exact dB (zL _) (ih _ h)
 |sys c k ih=>intro w w' v h;simp only [Sem.run] at h;exact dB (Yz w c) (ih _ h)
 |program k ih=>intro w w' v h;simp only [Sem.run] at h;exact ih _ h
 |mark m k ih=>intro w w' v h;simp only [Sem.run] at h;exact ih h
 |halt h'=>intro w w' v h;simp only [Sem.run] at h;cases h
theorem beq_iff {a b:Nat}:Nat.beq a b=true↔a=b:=by
 constructor
 ·exact gF
 ·rintro rfl;exact fS a
theorem Zh {a b:Nat} (h:a≠b):Nat.beq a b=false:=by
 cases e:Nat.beq a b with
 |false=>rfl
 |true=>exact absurd (beq_iff.1 e) h
theorem cu {α:Type} (m:Nat→Option α) (d:Nat) (v:Option α):put m d v d=v:=by simp [put,fS]
theorem bl {α:Type} (m:Nat→Option α) {d i:Nat} (v:Option α) (h:d≠i):put m d v i=m i:=by simp [put,Zh h]
def r6 (loc:Nat→Value) (id:Nat) (v:Value):Nat→Value:=fun i=>if i=id then v else loc i
theorem cv (loc:Nat→Value) (id:Nat) (v:Value):r6 loc id v id=v:=by simp [r6]
theorem cE (loc:Nat→Value) {id i:Nat} (v:Value) (h:i≠id):r6 loc id v i=loc i:=by simp [r6,h]
section
variable {μ μ':Mu} {loc loc':Nat→Value}
theorem yS (h:μ.le μ'):∀(cs:List qm) (vs:List Value),kz μ loc cs vs→kz μ' loc cs vs
 |[],vs=>fun h=>h
 |c::cs,vs=>fun ⟨u,us,e,h1,h2⟩=>⟨u,us,e,by cases c<;>first|exact vt h _ _ h1|exact h1,yS h cs us h2⟩
theorem Fk (h:μ.le μ') {s:SV} {v:Value} (k:gy μ loc s v):gy μ' loc s v:=by
 induction s generalizing v with
 |two s b ih=>obtain ⟨x,e,k⟩:=k;exact ⟨x,e,ih k⟩
 |undef=>exact k
 |any=>exact k
 |pv x=>exact vt h _ _ k
 |ptr id off=>exact k
 |row id=>exact k
 |rp id sz i off=>exact k
 |sub id sz lo hi=>exact k
 |cp cs=>
  obtain ⟨b,off,vs,e,hc,hm⟩:=k;exact ⟨b,off,vs,e,hc.mono h,fun j u hu=>h _ _ _ (hm j u hu)⟩
 |cl f caps=>obtain ⟨vs,e,hc⟩:=k;exact ⟨vs,e,yS h _ _ hc⟩
 |ag caps=>obtain ⟨vs,e,hc,h1⟩:=k;exact ⟨vs,e,yS h _ _ hc,h1⟩
 | «at» id q=>exact k
theorem JK (h:μ.le μ'):∀(cs:List SV) (vs:List Value),iQ μ loc cs vs→iQ μ' loc cs vs
 |[],vs=>fun h=>h
 |c::cs,vs=>fun ⟨u,us,e,h1,h2⟩=>⟨u,us,e,Fk h h1,JK h cs us h2⟩
theorem Av {id:Nat} {x:Value}:∀(cs:List qm) (vs:List Value),cs.any (qm.mentions id)=false→kz μ loc cs vs→kz μ (r6 loc id x) cs vs
 |[],vs=>fun _ h=>h
 |c::cs,vs=>fun hm ⟨u,us,e,h1,h2⟩=>by
  simp only [oD,mX] at hm;refine ⟨u,us,e,?_,Av cs us hm.2 h2⟩;cases c with
  |v a=>exact h1
  |p j=>
   have:j≠id:=fun e=>by subst e;simp [qm.mentions,fS] at hm
   obtain ⟨b,k1,k2⟩:=h1;exact ⟨b,by rw [cE _ _ this];exact k1,k2⟩
  |r j=>
   have:j≠id:=fun e=>by subst e;simp [qm.mentions,fS] at hm
   show u=fM (r6 loc id x j);rw [cE _ _ this];exact h1
theorem RE {id:Nat} {x:Value} {s:SV} {v:Value} (hm:s.mentions id=false) (k:gy μ loc s v):gy μ (r6 loc id x) s v:=by
 have ne:∀{j:Nat},Nat.beq j id=false→j≠id:=fun h e=>by subst e;simp [fS] at h
 induction s generalizing v with
 |undef=>exact k
 |any=>exact k
 |pv y=>exact k
 |ptr j off=>obtain ⟨b,h1,h2⟩:=k;exact ⟨b,by rw [cE _ _ (ne hm)];exact h1,h2⟩
 |row j=>show v=fM (r6 loc id x j);rw [cE _ _ (ne hm)];exact k
 |rp j sz i off=>obtain ⟨g,n,c,h1,h2⟩:=k;exact ⟨g,n,c,by rw [cE _ _ (ne hm)];exact h1,h2⟩
 |sub j sz lo hi=>obtain ⟨A,n,c,A',c',h1,h2⟩:=k;exact ⟨A,n,c,A',c',by rw [cE _ _ (ne hm)];exact h1,h2⟩
 |cp cs=>exact k
 |cl f caps=>obtain ⟨vs,e,hc⟩:=k;exact ⟨vs,e,Av _ _ hm hc⟩
 |ag caps=>obtain ⟨vs,e,hc,h1⟩:=k;exact ⟨vs,e,Av _ _ hm hc,h1⟩
 | «at» j q=>simp only [SV.mentions,mX] at hm;show xx q (r6 loc id x j) v;rw [cE _ _ (ne hm.1)];exact k
 |two s b ih=>obtain ⟨y,e,k⟩:=k;exact ⟨y,e,ih hm k⟩
theorem yT {id:Nat} {x:Value} {s:SV} {v:Value} (k:gy μ loc s v):gy μ (r6 loc id x) (s.dm id) v:=by
 unfold SV.dm;cases hm:s.mentions id with
 |true=>trivial
 |false=>exact RE hm k
theorem Aw {id:Nat} {x:Value}:∀(cs:List SV) (vs:List Value),iQ μ loc cs vs→iQ μ (r6 loc id x) (cs.map (SV.dm id)) vs
 |[],vs=>fun h=>h
 |c::cs,vs=>fun ⟨u,us,e,h1,h2⟩=>⟨u,us,e,yT h1,Aw cs us h2⟩
end
section
variable {P:Program} {N:Nat} {w0:World} {μ0:Mu} {L:sq} {μ:Mu} {loc:Nat→Value} {st:St} {a:Act} {w:World}
theorem Rel.set (hR:Rel N w0 μ0 L μ loc st a w) {d:Option Nat} {sv:SV} {v:Value} (hd:∀i,d=some i→i<N) (hs:gy μ loc sv v):
  Rel N w0 μ0 L μ loc (st.set d sv) (a.put d v) w:=by
 cases d with
 |none=>exact hR
 |some d=>
  have hlt:=hd d rfl;refine ⟨hR.small,hR.names,hR.fix,by simp [Act.put,hR.size],by simp [Act.put,hR.defers],?_,hR.uI,hR.base,hR.obs,hR.apart,hR.keep,hR.os,hR.tape,hR.output,hR.grown,hR.drawn⟩;intro i s hi;by_cases e:d=i
  ·subst e
   simp only [St.set,cu,aG] at hi;subst hi;exact ⟨v,by simp [Act.put,hR.size,hlt],hs⟩
  ·simp only [St.set,bl _ _ e] at hi
   obtain ⟨u,hu,hr⟩:=hR.env i s hi;exact ⟨u,by simp only [Act.put];rw [vH e];exact hu,hr⟩
theorem Rel.drop (hR:Rel N w0 μ0 L μ loc st a w) (id:Nat):Rel N w0 μ0 L μ loc { st with ob:=put st.ob id none } a w:=by
 have hsub:∀i o,put st.ob id none i=some o→st.ob i=some o∧i≠id:=fun i o h=>by
  by_cases e:id=i
  ·subst e;simp [cu] at h
  ·rw [bl _ _ e] at h;exact ⟨h,fun e'=>e e'.symm⟩
 exact ⟨hR.small,hR.names,hR.fix,hR.size,hR.defers,hR.env,hR.uI,hR.base,fun i o h=>hR.obs i o (hsub i o h).1,fun i j oi oj hi hj=>hR.apart i j oi oj (hsub i oi hi).1 (hsub j oj hj).1,hR.keep,hR.os,hR.tape,hR.output,hR.grown,hR.drawn⟩
theorem qy {b off g:Nat}:jH (.pointer (some ⟨b,off,none⟩)) g↔g=b:=by simp [jH,bu,eq_comm]
theorem uC {b g:Nat}:jH (.map (some b)) g↔g=b:=by simp [jH,bu,eq_comm]
theorem iC {A:Option Addr} {n c g:Nat}:jH (.slice A n c) g↔bu (.slice A n c)=some g:=by simp [jH]
theorem oI {b:Nat} {us:List Value} {g:Nat}:jH (.tuple (.map (some b)::us).toArray) g↔g=b∨∃u∈us,bu u=some g:=by
 constructor
 ·rintro (h|⟨vs,e,u,hu,h⟩)
  ·simp [bu] at h
  ·injection e with e
   have:vs= .map (some b)::us:=by have:=aI Array.toList e;simpa using this.symm
   subst this;rcases aD.1 hu with rfl|hu
   ·left;simpa [bu,eq_comm] using h
   ·exact .inr ⟨u,hu,h⟩
 ·rintro (rfl|⟨u,hu,h⟩)
  ·exact .inr ⟨_,rfl, .map (some g),by simp,rfl⟩
  ·exact .inr ⟨_,rfl,u,by simp [hu],h⟩
theorem jZ {m:Value} {us:List Value} {g:Nat}:jH (.tuple (m::us).toArray) g↔bu m=some g∨∃u∈us,bu u=some g:=by
 constructor
 ·rintro (h|⟨vs,e,u,hu,h⟩)
  ·simp [bu] at h
  ·injection e with e
   have:vs=m::us:=by have:=aI Array.toList e;simpa using this.symm
   subst this;rcases aD.1 hu with rfl|hu
   ·exact .inl h
   ·exact .inr ⟨u,hu,h⟩
 ·rintro (h|⟨u,hu,h⟩)
  ·exact .inr ⟨_,rfl,m,by simp,h⟩
  ·exact .inr ⟨_,rfl,u,by simp [hu],h⟩
theorem Uf {α:Type} {us:List Value} {vs:List (Option α)} (hl:us.length=vs.length) (hno:∀i:Nat,vs[i]? =some none→us[i]? =some undef) {u:Value} (hu:u∈us) {g:Nat} (hg:bu u=some g):∃(i:Nat) (xs:α),vs[i]? =some (some xs)∧us[i]? =some u:=by
 obtain ⟨i,hi,e⟩:=iL.1 hu;have h1:us[i]? =some u:=by rw [aH hi,e]
 cases hv:vs[i]? with
 |none=>rw [FM] at hv;omega
 |some o=>
  cases o with
  |none=>
   have:=hno i hv;rw [h1] at this;injection this with this
   subst this;simp [undef,bu] at hg
  |some xs=>exact ⟨i,xs,hv,h1⟩
theorem sS {w:World} {e:TypeId} {sz:Nat} {u:Value} {n:Nat} {cells:List Value} (h:w.ownsRow 0 e sz u n cells) {g:Nat} (hg:bu u=some g):g<w.heap.size:=by
 rcases h.2 with ⟨e1,_⟩|⟨g',cap,cur,e1,_,hg',_⟩
 ·rw [e1] at hg;simp [bu] at hg
 ·rw [e1] at hg;simp [bu] at hg;subst hg;exact (eG.1 hg').1
theorem qv {μ':Mu} {sz:Nat} (hle:μ.le μ'):∀{xs:List (List AV)} {vs:List Value},c4 μ sz xs vs→c4 μ' sz xs vs
 |[],vs,h=>h
 |x::xs,vs,⟨us,ws,e,h1,h2,h3⟩=>⟨us,ws,e,h1.mono hle,h2,qv hle h3⟩
theorem lW {w w':World} {e:TypeId} {sz:Nat} {u:Value} {n:Nat} {cells:List Value} (h:w.ownsRow 0 e sz u n cells) (hb:∀g,bu u=some g→w'.heap[g]? =w.heap[g]?):w'.ownsRow 0 e sz u n cells:=by
 refine ⟨h.1,?_⟩;rcases h.2 with hn|⟨g,cap,cur,e1,h0,hg,rest⟩
 ·exact .inl hn
 ·exact .inr ⟨g,cap,cur,e1,h0,(hb g (by rw [e1];rfl)).trans hg,rest⟩
theorem mE.block {n0:Nat} {id:Nat} {o:Ob} (h:mE n0 L μ loc w id o):∀b,jH (loc id) b→Fh n0 L id b∧b<w.heap.size∧∀j,μ b j=none:=by
 intro b hb;cases o with
 |box t cells=>
  obtain ⟨b',vs,hl,ho,hh,hm,_⟩:=h;rw [hl] at hb;rw [qy] at hb;subst hb;exact ⟨ho,(eG.1 hh).1,hm⟩
 |row e sz xs=>
  obtain ⟨vs,hown,_,hm⟩:=h;obtain ⟨ho,tR⟩:=hm b hb;refine ⟨ho,?_,tR⟩;rcases hown.2 with ⟨e1,_⟩|⟨g,cap,cur,e1,_,hg,_⟩
  ·rw [e1] at hb;simp [jH,bu] at hb
  ·rw [e1] at hb;simp [jH,bu] at hb;subst hb;exact (eG.1 hg).1
 |mp k e ks es=>
  obtain ⟨b',cN,clock,hl,ho,hh,hm,_⟩:=h;rw [hl] at hb;rw [uC] at hb;subst hb;exact ⟨ho,(eG.1 hh).1,hm⟩
 |mr k e sz ks vs=>
  obtain ⟨b',cN,clock,us,hl,ho,hh,hm,h1,h2,h3,h4,h5,h6⟩:=h;rw [hl] at hb;rcases oI.1 hb with rfl|⟨u,hu,hg⟩
  ·exact ⟨.inl ho,(eG.1 hh).1,hm⟩
  ·obtain ⟨i,xs,k1,k2⟩:=Uf h2 h5 hu hg
   obtain ⟨u',cells,k3,k4,k5,k6,k7⟩:=h4 i xs k1;rw [k2] at k3;injection k3 with k3
   subst k3;exact ⟨.inl (k7 b hg).1,sS k5 hg,(k7 b hg).2⟩
 |it s pos=>
  obtain ⟨b',hl,ho,hh,hm⟩:=h;rw [hl] at hb;rw [qy] at hb;subst hb;exact ⟨ho,(eG.1 hh).1,hm⟩
 |lp xs=>
  obtain ⟨us,hl,h1,h2⟩:=h;exact h1 b hb
 |rn e sz k e' sz' xs ys=>
  obtain ⟨m,us,vs,hl,hm,hown,hrc,hk,h2,h3,h4,h5,h6,h7⟩:=h;rw [hl] at hb;rcases jZ.1 hb with hg|⟨u,hu,hg⟩
  ·exact ⟨(hm b hg).1,sS hown hg,(hm b hg).2⟩
  ·obtain ⟨i,zs,k1,k2⟩:=Uf h2 h5 hu hg
   obtain ⟨u',cells,k3,_,k5,k6,k7⟩:=h4 i zs k1;rw [k2] at k3;injection k3 with k3
   subst k3;exact ⟨(k7 b hg).1,sS k5 hg,(k7 b hg).2⟩
theorem mE.keep {n0:Nat} {id:Nat} {o:Ob} {w':World} {μ':Mu} (h:mE n0 L μ loc w id o) (hle:μ.le μ')
  (hb:∀b,jH (loc id) b→w'.heap[b]? =w.heap[b]? ∧∀j,μ' b j=none):mE n0 L μ' loc w' id o:=by
 cases o with
 |box t cells=>
  obtain ⟨b,vs,hl,ho,hh,hm,hs,h1⟩:=h;obtain ⟨e,hm'⟩:=hb b (by rw [hl];exact qy.2 rfl);exact ⟨b,vs,hl,ho,e.trans hh,hm',JK hle _ _ hs,h1⟩
 |row e sz xs=>
  obtain ⟨vs,hown,hrc,hm⟩:=h;exact ⟨vs,lW hown (fun g hg=>(hb g (.inl hg)).1),qv hle hrc,fun g hg=>⟨(hm g hg).1,(hb g hg).2⟩⟩
 |mp k e ks es=>
  obtain ⟨b,cN,clock,hl,ho,hh,hm,h1,h2,hB⟩:=h;obtain ⟨e,hm'⟩:=hb b (by rw [hl];exact uC.2 rfl);exact ⟨b,cN,clock,hl,ho,e.trans hh,hm',fJ hle _ _ h1,fJ hle _ _ h2,hB⟩
 |mr k e sz ks vs=>
  obtain ⟨b,cN,clock,us,hl,ho,hh,hm,h1,h2,h3,h4,h5,h6⟩:=h;obtain ⟨e,hm'⟩:=hb b (by rw [hl];exact oI.2 (.inl rfl));refine ⟨b,cN,clock,us,hl,ho,e.trans hh,hm',fJ hle _ _ h1,h2,h3,fun i xs hi=> ?_,h5,h6⟩;obtain ⟨u,cells,k1,k2,k3,k4,k5⟩:=h4 i xs hi;have hin:∀g,bu u=some g→jH (loc id) g:=fun g hg=>by rw [hl];exact oI.2 (.inr ⟨u,aT k1,hg⟩)
  exact ⟨u,cells,k1,k2,lW k3 (fun g hg=>(hb g (hin g hg)).1),qv hle k4,fun g hg=>⟨(k5 g hg).1,(hb g (hin g hg)).2⟩⟩
 |it s pos=>
  obtain ⟨b,hl,ho,hh,hm⟩:=h;obtain ⟨e,hm'⟩:=hb b (by rw [hl];exact qy.2 rfl);exact ⟨b,hl,ho,e.trans hh,hm'⟩
 |lp xs=>
  obtain ⟨us,hl,h1,h2⟩:=h;refine ⟨us,hl,fun g hg=>⟨(h1 g hg).1,?_,(hb g hg).2⟩,L.q.mono hle (L.q.keep (fun b hu=>(hb b (by rw [hl];exact .inr ⟨us,rfl,hu⟩)).1) h2)⟩;have h3:=(h1 g hg).2.1;have h4:=(hb g hg).1;rw [vI h3] at h4;exact (eG.1 h4).1
 |rn e sz k e' sz' xs ys=>
  obtain ⟨m,us,vs,hl,hm,hown,hrc,hk,h2,h3,h4,h5,h6,h7⟩:=h;have him:∀g,bu m=some g→jH (loc id) g:=fun g hg=>by rw [hl];exact jZ.2 (.inl hg)
  refine ⟨m,us,vs,hl,fun g hg=>⟨(hm g hg).1,(hb g (him g hg)).2⟩,lW hown (fun g hg=>(hb g (him g hg)).1),qv hle hrc,hk,h2,h3,fun i zs hi=> ?_,h5,h6,h7⟩;obtain ⟨u,cells,k1,k2,k3,k4,k5⟩:=h4 i zs hi;have hin:∀g,bu u=some g→jH (loc id) g:=fun g hg=>by rw [hl];exact jZ.2 (.inr ⟨u,aT k1,hg⟩)
  exact ⟨u,cells,k1,k2,lW k3 (fun g hg=>(hb g (hin g hg)).1),qv hle k4,fun g hg=>⟨(k5 g hg).1,(hb g (hin g hg)).2⟩⟩
theorem Cv {n0:Nat} {L:sq} {loc:Nat→Value} {i id:Nat} {x:Value} {o:Ob} (h:mE n0 L μ loc w i o) (hne:i≠id):mE n0 L μ (r6 loc id x) w i (o.dm id):=by
 cases o with
 |box t cells=>
  obtain ⟨b,vs,hl,ho,hh,hm,hs,h1⟩:=h;exact ⟨b,vs,by rw [cE _ _ hne];exact hl,ho,hh,hm,Aw _ _ hs,h1⟩
 |row e sz xs=>
  obtain ⟨vs,hown,hrc,hm⟩:=h;refine ⟨vs,by rw [cE _ _ hne];exact hown,hrc,fun g hg=>hm g (by rw [cE _ _ hne] at hg;exact hg)⟩
 |mp k e ks es=>
  obtain ⟨b,cN,clock,hl,ho,hh,hm,h1,h2,hB⟩:=h;exact ⟨b,cN,clock,by rw [cE _ _ hne];exact hl,ho,hh,hm,h1,h2,hB⟩
 |mr k e sz ks vs=>
  obtain ⟨b,cN,clock,us,hl,rest⟩:=h;exact ⟨b,cN,clock,us,by rw [cE _ _ hne];exact hl,rest⟩
 |it s pos=>
  obtain ⟨b,hl,rest⟩:=h;exact ⟨b,by rw [cE _ _ hne];exact hl,rest⟩
 |lp xs=>
  obtain ⟨us,hl,h1,h2⟩:=h;exact ⟨us,by rw [cE _ _ hne];exact hl,fun g hg=>h1 g (by rw [cE _ _ hne] at hg;exact hg),h2⟩
 |rn e sz k e' sz' xs ys=>
  obtain ⟨m,us,vs,hl,rest⟩:=h;exact ⟨m,us,vs,by rw [cE _ _ hne];exact hl,rest⟩
theorem Rel.world (hR:Rel N w0 μ0 L μ loc st a w) {w':World} {μ':Mu} (hle:μ.le μ') (KX:∀b j v,μ' b j=some v→μ b j=some v∨w0.heap.size≤b) (gp:∀b j v,μ' b j=some v→EH w' b j=some v)
  (yG:∀id o,st.ob id=some o→∀b,jH (loc id) b→w'.heap[b]? =w.heap[b]? ∧∀j,μ' b j=none)
  (hkeep:∀b,b<w0.heap.size→¬LB L b→w'.heap[b]? =w.heap[b]?)
  (hos:w'.os=w.os) (I6:w'.tape=w.tape) (hout:w'.output=w.output) (hsz:w.heap.size≤w'.heap.size) (YP:L.q→w.drawn≤w'.drawn:=by exact fun _=>aS _):Rel N w0 μ0 L μ' loc st a w':=by
 refine ⟨hR.small,hR.names,hR.fix,hR.size,hR.defers,?_,gp,⟨hR.base.1.trans hle,?_⟩,?_,hR.apart,fun b hb hl=>(hkeep b hb hl).trans (hR.keep b hb hl),hos.trans hR.os,I6.trans hR.tape,hout.trans hR.output,dB hR.grown hsz,fun q=>dB (hR.drawn q) (YP q)⟩
 ·intro i s hi
  obtain ⟨v,hv,hr⟩:=hR.env i s hi;exact ⟨v,hv,Fk hle hr⟩
 ·intro b j v h
  rcases KX b j v h with h|h
  ·exact hR.base.2 b j v h
  ·exact .inr h
 ·intro id o ho
  exact (hR.obs id o ho).keep hle (yG id o ho)
theorem Rel.grow (hR:Rel N w0 μ0 L μ loc st a w) {w':World} {μ':Mu} (KX:μ.ext w.heap.size μ') (gp:∀b j v,μ' b j=some v→EH w' b j=some v) (hb:Below w.heap.size w w') (YP:L.q→w.drawn≤w'.drawn:=by exact fun _=>aS _):Rel N w0 μ0 L μ' loc st a w':=by
 refine hR.world KX.1 (fun b j v h=> ?_) gp (fun id o ho b wC=> ?_) (fun b hlt hl=>hb.block b (eX hlt hR.grown)) hb.os hb.tape hb.output hb.size YP
 ·rcases KX.2 b j v h with h|h
  ·exact .inl h
  ·exact .inr (dB hR.grown h)
 ·obtain ⟨_,hlt,tR⟩:=(hR.obs id o ho).block b wC
  refine ⟨hb.block b hlt,fun j=> ?_⟩;cases hj:μ' b j with
  |none=>rfl
  |some v=>
   rcases KX.2 b j v hj with h|h
   ·rw [tR j] at h;cases h
   ·omega
theorem Rel.Rp (hR:Rel N w0 μ0 L μ loc st a w) {w':World} (hb:Below w.heap.size w w'):∀b j v,μ b j=some v→EH w' b j=some v:=fun b j v h=>by
 have hc:=hR.uI b j v h;have hlt:=mq hc;rw [fZ (hb.block b hlt)];exact hc
theorem Rel.Qm (hR:Rel N w0 μ0 L μ loc st a w) {w':World} (hb:Below w.heap.size w w') (YP:L.q→w.drawn≤w'.drawn:=by exact fun _=>aS _):Rel N w0 μ0 L μ loc st a w':=
 hR.grow ⟨Mu.le.refl _,fun _ _ _ h=> .inl h⟩ (hR.Rp hb) hb YP
theorem Rel.new (hR:Rel N w0 μ0 L μ loc st a w) {id:Nat} {val:Value} {o:Ob} (hid:id<10000∨20000≤id) (dG:mE w0.heap.size L μ (r6 loc id val) w id o)
  (hap:∀j oj,st.ob j=some oj→j≠id→∀g,jH val g→¬jH (loc j) g):Rel N w0 μ0 L μ (r6 loc id val) (st.new id o) a w:=by
 have hsub:∀i oi,(st.new id o).ob i=some oi→(i=id∧oi=o)∨(i≠id∧∃oj,st.ob i=some oj∧oi=oj.dm id):=fun i oi h=>by
  by_cases e:id=i
  ·subst e
   simp only [St.new,cu,aG] at h;exact .inl ⟨rfl,h.symm⟩
  ·simp only [St.new,St.dm,bl _ _ e] at h
   cases ho:st.ob i with
   |none=>simp [ho] at h
   |some oj=>simp [ho] at h;exact .inr ⟨fun e'=>e e'.symm,oj,rfl,h.symm⟩
 refine ⟨hR.small,hR.names,?_,hR.size,hR.defers,?_,hR.uI,hR.base,?_,?_,hR.keep,hR.os,hR.tape,hR.output,hR.grown,hR.drawn⟩
 ·intro i v hv hi
  have hne:i≠id:=fun e=>by
   subst e;rcases hid with h|h
   ·rw [hR.names i h] at hv;cases hv
   ·omega
  rw [cE _ _ hne];exact hR.fix i v hv hi
 ·intro i s hi
  simp only [St.new,St.dm] at hi;cases he:st.env i with
  |none=>simp [he] at hi
  |some s'=>
   simp [he] at hi;subst hi;obtain ⟨v,hv,hr⟩:=hR.env i s' he;exact ⟨v,hv,yT hr⟩
 ·intro i oi hi
  rcases hsub i oi hi with ⟨rfl,rfl⟩|⟨hne,oj,hj,rfl⟩
  ·exact dG
  ·exact Cv (hR.obs i oj hj) hne
 ·intro i j oi oj hi hj hij g hg
  rcases hsub i oi hi with ⟨rfl,rfl⟩|⟨hni,oi',hi',rfl⟩
  ·rcases hsub j oj hj with ⟨rfl,_⟩|⟨hnj,oj',hj',rfl⟩
   ·exact absurd rfl hij
   ·rw [cv] at hg
    rw [cE _ _ hnj];exact hap j oj' hj' hnj g hg
  ·rcases hsub j oj hj with ⟨rfl,rfl⟩|⟨hnj,oj',hj',rfl⟩
   ·rw [cE _ _ hni] at hg
    rw [cv];intro hv;exact hap i oi' hi' hni g hv hg
   ·rw [cE _ _ hni] at hg
    rw [cE _ _ hnj];exact hR.apart i j oi' oj' hi' hj' hij g hg
theorem Rel.write (hR:Rel N w0 μ0 L μ loc st a w) {id:Nat} {o o':Ob} (ho:st.ob id=some o) {g:Nat} (hg:jH (loc id) g) {w':World}
  (hch:∀b,b≠g→w'.heap[b]? =w.heap[b]?) (hos:w'.os=w.os) (I6:w'.tape=w.tape) (hout:w'.output=w.output) (hsz:w'.heap.size=w.heap.size)
  (dG:mE w0.heap.size L μ loc w' id o') (YP:L.q→w.drawn≤w'.drawn:=by exact fun _=>aS _):Rel N w0 μ0 L μ loc { st with ob:=put st.ob id (some o') } a w':=by
 obtain ⟨hown,hlt,tR⟩:=(hR.obs id o ho).block g hg
 have h1:=(hR.drop id).world (w':=w') (Mu.le.refl _) (fun _ _ _ h=> .inl h) (fun b j v h=>by
   have hne:b≠g:=fun e=>by subst e;rw [tR j] at h;cases h
   have:=hR.uI b j v h
   rw [fZ (hch b hne)];exact this) (fun i oi hi b hb=>by
   by_cases e:id=i
   ·subst e;simp [cu] at hi
   ·simp only [bl _ _ e] at hi
    have hne:b≠g:=fun e'=>by subst e';exact hR.apart id i o oi ho hi e b hg hb
    exact ⟨hch b hne,((hR.obs i oi hi).block b hb).2.2⟩) (fun b hb hl=>by
   refine hch b (fun e=> ?_);subst e;rcases hown with h|⟨v,hv,h⟩
   ·omega
   ·exact hl ⟨id,v,hv,h⟩) hos I6 hout (by omega) YP
 refine ⟨h1.small,h1.names,h1.fix,h1.size,h1.defers,h1.env,h1.uI,h1.base,?_,?_,h1.keep,h1.os,h1.tape,h1.output,h1.grown,h1.drawn⟩
 ·intro i oi hi
  by_cases e:id=i
  ·subst e;simp only [cu,aG] at hi;subst hi;exact dG
  ·exact h1.obs i oi (by simpa only [bl _ _ e] using hi)
 ·intro i j oi oj hi hj hij
  have get:∀k ok,put st.ob id (some o') k=some ok→∃ok',st.ob k=some ok':=fun k ok h=>by
   by_cases e:id=k
   ·subst e;exact ⟨o,ho⟩
   ·exact ⟨ok,by simpa only [bl _ _ e] using h⟩
  obtain ⟨oi',hi'⟩:=get i oi hi;obtain ⟨oj',hj'⟩:=get j oj hj;exact hR.apart i j oi' oj' hi' hj' hij
end
end Go.AM
