/- THE ABSTRACT MACHINE. -/
import Derived.Test.YtfoddgpndoeeaaaGreatDoorAmFin
import Derived.Maps.RangeRun
set_option linter.unusedVariables false
set_option linter.unusedSimpArgs false
namespace Go.AM
open Go.RowKit
section
variable {P:Program} {N:Nat} {w0:World} {μ0 μ μ':Mu} {L:ku} {loc loc':Nat→Value} {st st' st1:St} {a a':Act} {w w':World}
theorem Oper.L8 {F:Fence} {n:Nat} {o:Oper} {K K':Act→World→Prop} {Q Q':Exit→Act→World→Prop} {i:Nat} (hd:o.dst≠some i) (h:o.wpIn F n P a w K Q) (hK:∀a' w',a'.tmps[i]? =a.tmps[i]? →K a' w'→K' a' w')
  (hQ:∀ch w',Q (.panic ch) a w'→Q' (.panic ch) a w') (hL:LetsOut Q→LetsOut Q'):o.wpIn F n P a w K' Q':=by
 have put:∀v,(a.put o.dst v).tmps[i]? =a.tmps[i]? :=by
  intro v;unfold Act.put;split
  ·rename_i d hd'
   rw [hd'] at hd;have:d≠i:=fun e=>hd (by rw [e])
   simp [Array.getElem?_setIfInBounds,this]
  ·rfl
 refine ⟨h.1,?_⟩;have h:=h.2;generalize (o.semAt F.round a.eval).run P w=r at h⊢;unfold Oper.uponIn at h⊢;split at h
 ·exact hK _ _ (put _) h
 ·exact hK _ _ (put _) h
 ·rename_i d w'
  refine hK _ _ ?_ h;have:=put;unfold Act.put;split
  ·rename_i e hd'
   rw [hd'] at hd;have:e≠i:=fun h=>hd (by rw [h])
   simp [Array.getElem?_setIfInBounds,this]
  ·rfl
 ·refine ⟨h.1,h.2.mono ?_⟩
  intro e w2 h2;cases e with
  |returned v=>exact hK _ _ (put _) h2
  |panicked ch=>exact hQ _ _ h2
  |outgrown=>exact hL h2
 ·exact ⟨h.1,h.2.mono fun v w2 h2=>hK _ _ (put _) h2⟩
 ·refine ⟨h.1,h.2.mono ?_⟩
  intro e w2 h2;cases e with
  |returned v=>exact hK _ _ (put _) h2
  |panicked ch=>exact hQ _ _ h2
  |outgrown=>exact hL h2
 ·exact hQ _ _ h
 ·exact h.elim
theorem GY {F:Fence} {n:Nat} {ops:Array Oper} {Q:Exit→Act→World→Prop} {i:Nat} {x:Option Value}:∀(l:List Oper) (a:Act) (w:World),(∀o∈l,o.dst≠some i)→a.tmps[i]? =x→wpListIn F n P ops Q l a w→
  wpListIn F n P ops (fun e a' w'=>Q e a' w'∧(e= .normal→a'.tmps[i]? =x)) l a w:=by
 have hL:LetsOut Q→LetsOut (fun e a' w'=>Q e a' w'∧(e= .normal→a'.tmps[i]? =x)):=fun ⟨a,w,h⟩=>⟨a,w,h,fun e=>by cases e⟩
 intro l
 induction l with
 |nil=>intro a w _ hx h;exact ⟨h,fun _=>hx⟩
 |cons o l ih=>
  intro a w hd hx h;have hd0:=hd o (by simp);unfold wpListIn at h⊢;split at h
  ·rename_i hw
   rw [if_pos hw];exact Oper.L8 hd0 h (fun a' w' e hk=>ih a' w' (fun o ho=>hd o (by simp [ho])) (e.trans hx) hk) (fun ch w' hq=>⟨hq,fun e=>by cases e⟩) hL
  ·rename_i hw
   rw [if_neg hw];refine ⟨h.1,ih _ _ (fun o ho=>hd o (by simp [ho])) ?_ h.2⟩;rw [←hx];unfold Act.put;split
   ·rename_i d hd'
    rw [hd'] at hd0;have:d≠i:=fun e=>hd0 (by rw [e])
    simp [Array.getElem?_setIfInBounds,this]
   ·rfl
def Eb (ob:Nat→Option Ob) (loc:Nat→Value) (q:Prop):ku:=⟨fun id=>if (ob id).isSome=true then some (loc id) else none,q⟩
theorem oy {ob:Nat→Option Ob} {loc:Nat→Value} {q:Prop} {id:Nat} {v:Value} (h:(Eb ob loc q) id=some v):(∃o,ob id=some o)∧v=loc id:=by
 have h':(if (ob id).isSome=true then some (loc id) else none)=some v:=h;split at h'
 ·rename_i hs
  injection h' with h'
  exact ⟨Option.isSome_iff_exists.1 hs,h'.symm⟩
 ·cases h'
theorem KA {ob:Nat→Option Ob} {loc:Nat→Value} {q:Prop} {id:Nat} {o:Ob} (h:ob id=some o):(Eb ob loc q) id=some (loc id):=by
 show (if (ob id).isSome=true then some (loc id) else none)=_;rw [h];rfl
theorem gB.own {n0 n1:Nat} {L1:ku} {id:Nat} {o:Ob} (h:gB n0 L μ loc w id o) (hm:∀k e s ks vs,o≠ .mr k e s ks vs) (ho:∀b,ff (loc id) b→yd n1 L1 id b):gB n1 L1 μ loc w id o:=by
 cases o with
 |box t cells=>
  obtain ⟨b,vs,hl,_,rest⟩:=h;exact ⟨b,vs,hl,ho b (by rw [hl];exact jj.2 rfl),rest⟩
 |row e sz xs=>
  obtain ⟨vs,hw,hrc,hg⟩:=h;exact ⟨vs,hw,hrc,fun g Vn=>⟨ho g Vn,(hg g Vn).2⟩⟩
 |mp k e ks es=>
  obtain ⟨b,bz,clock,hl,_,rest⟩:=h;exact ⟨b,bz,clock,hl,ho b (by rw [hl];exact lM.2 rfl),rest⟩
 |mr k e sz ks vs=>exact absurd rfl (hm k e sz ks vs)
 |it s pos=>
  obtain ⟨b,hl,_,rest⟩:=h;exact ⟨b,hl,ho b (by rw [hl];exact jj.2 rfl),rest⟩
 |rn e sz k e' sz' xs ys=>
  obtain ⟨m,us,vs,hl,hm',hown,hrc,hk,h2,h3,h4,rest⟩:=h;refine ⟨m,us,vs,hl,fun g hg=>⟨ho g (by rw [hl];exact gf.2 (.inl hg)),(hm' g hg).2⟩,hown,hrc,hk,h2,h3,fun i zs hi=> ?_,rest⟩;obtain ⟨u,cells,k1,k2,k3,k4,k5⟩:=h4 i zs hi;exact ⟨u,cells,k1,k2,k3,k4,fun g hg=>⟨ho g (by rw [hl];exact gf.2 (.inr ⟨u,List.mem_of_getElem? k1,hg⟩)),(k5 g hg).2⟩⟩
theorem Rel.re (hR:Rel N w0 μ0 L μ loc st a w) (hs:a'.tmps.size=N) (hd:a'.defers=[]) (he:∀i sv,st1.env i=some sv→∃v,a'.tmps[i]? =some v∧cH μ loc sv v) (ho:∀id o,st1.ob id=some o→st.ob id=some o):Rel N w0 μ0 L μ loc st1 a' w:=
 ⟨hR.small,hR.names,hR.fix,hs,hd,he,hR.ou,hR.base,fun id o h=>hR.obs id o (ho id o h),fun i j oi oj hi hj=>hR.apart i j oi oj (ho i oi hi) (ho j oj hj),hR.keep,hR.os,hR.tape,hR.output,hR.grown,hR.drawn⟩
theorem Rel.sub (hR:Rel N w0 μ0 L μ loc st a w) (he:∀i sv,st1.env i=some sv→st.env i=some sv) (ho:∀id o,st1.ob id=some o→st.ob id=some o):Rel N w0 μ0 L μ loc st1 a w:=
 hR.re hR.size hR.defers (fun i sv h=>hR.env i sv (he i sv h)) ho
theorem Rel.into (hR:Rel N w0 μ0 L μ loc st a w) (h1:∀id o,st.ob id=some o→10000≤id∧∀k e s ks vs,o≠ .mr k e s ks vs):Rel N w μ (Eb st.ob loc L.q) μ loc st a w:=by
 refine ⟨hR.small,fun id h=> ?_,fun id v h _=>(oy h).2.symm,hR.size,hR.defers,hR.env,hR.ou,⟨Mu.le.refl _,fun _ _ _ h=> .inl h⟩,fun id o h=> ?_,hR.apart,fun _ _ _=>rfl,rfl,rfl,rfl,Nat.le_refl _,fun _=>Nat.le_refl _⟩
 ·cases hs:(Eb st.ob loc L.q) id with
  |none=>rfl
  |some v=>
   obtain ⟨⟨o,ho⟩,_⟩:=oy hs;have:=(h1 id o ho).1;omega
 ·exact (hR.obs id o h).own (h1 id o h).2 fun b hb=> .inr ⟨loc id,KA h,hb⟩
theorem Rel.back (hR:Rel N w0 μ0 L μ loc st a w) (qN:Rel N w μ (Eb st.ob loc L.q) μ' loc' st' a' w') {names:List Nat} (hn:∀id,(st.ob id).isSome=true↔id∈names)
  (ho:∀id o,st'.ob id=some o→id∈names∧o.closed names=true∧o.lq (fun i=>i)=o) (he:∀i sv,st'.env i=some sv→sv.closed names=true∧sv.lq (fun i=>i)=sv):
  (∃iF,Rel N w0 μ0 L μ' iF st' a' w'∧∀id o,st'.ob id=some o→∀g,ff (iF id) g→w.heap.size≤g∨∃id' o',st.ob id'=some o'∧ff (loc id') g)∧(∀b,b<w.heap.size→(∀id o,st.ob id=some o→¬ff (loc id) b)→w'.heap[b]? =w.heap[b]?):=by
 have hown:∀id o,st.ob id=some o→∀b,ff (loc id) b→yd w0.heap.size L id b:=fun id o h b hb=>((hR.obs id o h).block b hb).1
 have uA:∀b,BM (Eb st.ob loc L.q) b→∃id o,st.ob id=some o∧ff (loc id) b:=by
  rintro b ⟨id,v,h,hb⟩
  obtain ⟨⟨o,h1⟩,rfl⟩:=oy h;exact ⟨id,o,h1,hb⟩
 refine ⟨⟨fun id=>if id∈names then loc' id else loc id,⟨hR.small,hR.names,fun id v h h2=> ?_,qN.size,qN.defers,fun i sv h=> ?_,qN.ou,⟨hR.base.1.trans qN.base.1,fun b j v h=> ?_⟩,fun id o h=> ?_,fun i j oi oj hi hj hne=> ?_,fun b hb hl=> ?_,
  qN.os.trans hR.os,qN.tape.trans hR.tape,qN.output.trans hR.output,Nat.le_trans hR.grown qN.grown,fun q=>Nat.le_trans (hR.drawn q) (qN.drawn q)⟩,fun id o h g hg=> ?_⟩,fun b hb hno=> ?_⟩
 ·show (if id∈names then loc' id else loc id)=v
  split
  ·rename_i hm
   obtain ⟨o,ho'⟩:=Option.isSome_iff_exists.1 ((hn id).2 hm);rw [qN.fix id _ (KA ho') h2];exact hR.fix id v h h2
  ·exact hR.fix id v h h2
 ·obtain ⟨v,hv,hr⟩:=qN.env i sv h
  obtain ⟨c1,c2⟩:=he i sv h;refine ⟨v,hv,?_⟩;have:=Gm (loc':=fun id=>if id∈names then loc' id else loc id) (ρ:=fun i=>i) (names:=names) (fun j hj=>if_pos hj) c1 hr
  rwa [c2] at this
 ·rcases qN.base.2 b j v h with h|h
  ·exact hR.base.2 b j v h
  ·exact .inr (Nat.le_trans hR.grown h)
 ·obtain ⟨c0,c1,c2⟩:=ho id o h
  have:=zM (n0':=w0.heap.size) (L':=L) (loc':=fun id=>if id∈names then loc' id else loc id) (ρ:=fun i=>i) (names:=names) (id':=id) (fun j hj=>if_pos hj) c1 (qN.obs id o h) (if_pos c0) (fun b hb=>by
   rcases ((qN.obs id o h).block b hb).1 with h1|⟨v,h1,h2⟩
   ·exact .inl (Nat.le_trans hR.grown h1)
   ·obtain ⟨⟨o',h3⟩,rfl⟩:=oy h1
    exact hown id o' h3 b h2)
  rwa [c2] at this
 ·intro g hg
  show¬ff (if j∈names then loc' j else loc j) g;rw [if_pos (ho j oj hj).1];have hg':ff (if i∈names then loc' i else loc i) g:=hg;rw [if_pos (ho i oi hi).1] at hg';exact qN.apart i j oi oj hi hj hne g hg'
 ·refine (qN.keep b (Nat.lt_of_lt_of_le hb hR.grown) fun hc=> ?_).trans (hR.keep b hb hl)
  obtain ⟨id,o,h1,h2⟩:=uA b hc;rcases hown id o h1 b h2 with h3|⟨v,h3,h4⟩
  ·omega
  ·exact hl ⟨id,v,h3,h4⟩
 ·have hg':ff (if id∈names then loc' id else loc id) g:=hg
  rw [if_pos (ho id o h).1] at hg';rcases ((qN.obs id o h).block g hg').1 with h1|⟨v,h1,h2⟩
  ·exact .inl h1
  ·obtain ⟨⟨o',h3⟩,rfl⟩:=oy h1
   exact .inr ⟨id,o',h3,h2⟩
 ·refine qN.keep b hb fun hc=> ?_
  obtain ⟨id,o,h1,h2⟩:=uA b hc;exact hno id o h1 h2
theorem DZ {h:Hint} {aV:cQ} (eB:dD L.q μ0 P aV) {ops:Array Oper} {id n:Nat} {e:Ex} (hd:∀o∈ops.toList,∀i,o.dst=some i→i<N) (hx:exec P h aV n (.region id ops false) st=some (e,st')) (hR:Rel N w0 μ0 L μ loc st a w)
  {Q:Exit→Act→World→Prop} (hQ:∀a' w' μ' loc',Rel N w0 μ0 L μ' loc' st' a' w'→Q .normal a' w'):wpListIn Fence.wide 0 P ops Q ops.toList a w:=by
 simp only [exec] at hx;obtain ⟨s1,fm,hx⟩:=Option.bind_eq_some_iff.1 hx;obtain ⟨μ1,zd⟩:=zP hR fm;simp only [cond_false] at hx;cases hr:iT P h aV ops ops.toList s1 with
 |none=>simp [hr] at hx
 |some s=>
  simp [hr] at hx;obtain ⟨rfl,rfl⟩:=hx;exact va eB zd hd hr hQ _ Wd.wide
theorem Rel.aside (hR:Rel N w0 μ0 L μ loc st a w) {r:Nat} (hr:w0.heap.size≤r) (nR:∀j,μ r j=none) (hno:∀id o,st.ob id=some o→¬ff (loc id) r) (hb:∀b,b≠r→w'.heap[b]? =w.heap[b]?)
  (hos:w'.os=w.os) (ht:w'.tape=w.tape) (hout:w'.output=w.output) (hsz:w'.heap.size=w.heap.size) (Lg:w.drawn≤w'.drawn):Rel N w0 μ0 L μ loc st a w':=by
 refine hR.world (Mu.le.refl _) (fun _ _ _ h=> .inl h) (fun b j v h=> ?_) (fun id o h b hin=>⟨hb b fun e=>hno id o h (e▸hin),((hR.obs id o h).block b hin).2.2⟩) (fun b h1 _=>hb b (by omega)) hos ht hout (by omega) (fun _=>Lg);have hne:b≠r:=fun e=>by rw [e,nR j] at h;cases h
 rw [fG (hb b hne) j];exact hR.ou b j v h
end
end Go.AM
