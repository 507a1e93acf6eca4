/- THE ABSTRACT MACHINE. -/
import Derived.Test.YtmidjldjkbljjaaGreatDoorAmFin
import Derived.Maps.RangeRun
set_option linter.unusedVariables false
set_option linter.unusedSimpArgs false
namespace Go.AM
open Go.RowKit
section
variable {P:Program} {N:Nat} {w0:World} {μ0 μ μ':Mu} {L:lp} {loc loc':Nat→Value} {st st' st1:St} {a a':Act} {w w':World}
theorem Oper.Va {o:Oper} {K K':Act→World→Prop} {Q Q':Exit→Act→World→Prop} {i:Nat} (hd:o.dst≠some i) (h:o.wp P a w K Q) (hK:∀a' w',a'.tmps[i]? =a.tmps[i]? →K a' w'→K' a' w')
  (hQ:∀ch w',Q (.panic ch) a w'→Q' (.panic ch) a w') (hL:LetsOut Q→LetsOut Q'):o.wp P a w K' Q':=by
 have put:∀v,(a.put o.dst v).tmps[i]? =a.tmps[i]? :=by
  intro v;unfold Act.put;split
  ·rename_i d hd'
   rw [hd'] at hd;have:d≠i:=fun e=>hd (by rw [e])
   simp [Array.getElem?_setIfInBounds,this]
  ·rfl
 unfold Oper.wp at h⊢;generalize (execOp a.eval o).run P w=r at h⊢;unfold Oper.upon at h⊢;split at h
 ·exact hK _ _ (put _) h
 ·exact hK _ _ (put _) h
 ·rename_i d w'
  refine hK _ _ ?_ h;have:=put;unfold Act.put;split
  ·rename_i e hd'
   rw [hd'] at hd;have:e≠i:=fun h=>hd (by rw [h])
   simp [Array.getElem?_setIfInBounds,this]
  ·rfl
 ·refine h.mono ?_
  intro e w2 h2;cases e with
  |returned v=>exact hK _ _ (put _) h2
  |panicked ch=>exact hQ _ _ h2
  |outgrown=>exact hL h2
 ·exact h.mono fun v w2 h2=>hK _ _ (put _) h2
 ·exact hQ _ _ h
 ·exact h.elim
theorem JO {ops:Array Oper} {Q:Exit→Act→World→Prop} {i:Nat} {x:Option Value}:∀(l:List Oper) (a:Act) (w:World),(∀o∈l,o.dst≠some i)→a.tmps[i]? =x→wpList P ops Q l a w→
  wpList P ops (fun e a' w'=>Q e a' w'∧(e= .normal→a'.tmps[i]? =x)) l a w:=by
 have hL:LetsOut Q→LetsOut (fun e a' w'=>Q e a' w'∧(e= .normal→a'.tmps[i]? =x)):=fun ⟨a,w,h⟩=>⟨a,w,h,fun e=>by cases e⟩
 intro l
 induction l with
 |nil=>intro a w _ hx h;exact ⟨h,fun _=>hx⟩
 |cons o l ih=>
  intro a w hd hx h;have hd0:=hd o (by simp);unfold wpList at h⊢;split at h
  ·rename_i hw
   rw [if_pos hw];rcases h with h|⟨h1,h2⟩
   ·refine .inl (Oper.Va hd0 h (fun a' w' e hk=>ih a' w' (fun o ho=>hd o (by simp [ho])) (e.trans hx) hk) (fun ch w' hq=>⟨hq,fun e=>by cases e⟩) hL)
   ·exact .inr ⟨h1,hL h2⟩
  ·rename_i hw
   rw [if_neg hw];refine ih _ _ (fun o ho=>hd o (by simp [ho])) ?_ h;rw [←hx];unfold Act.put;split
   ·rename_i d hd'
    rw [hd'] at hd0;have:d≠i:=fun e=>hd0 (by rw [e])
    simp [Array.getElem?_setIfInBounds,this]
   ·rfl
def Gx (ob:Nat→Option Ob) (loc:Nat→Value) (q:Prop):lp:=⟨fun id=>if (ob id).isSome=true then some (loc id) else none,q⟩
theorem qG {ob:Nat→Option Ob} {loc:Nat→Value} {q:Prop} {id:Nat} {v:Value} (h:(Gx ob loc q) id=some v):(∃o,ob id=some o)∧v=loc id:=by
 have h':(if (ob id).isSome=true then some (loc id) else none)=some v:=h;split at h'
 ·rename_i hs
  injection h' with h'
  exact ⟨Option.isSome_iff_exists.1 hs,h'.symm⟩
 ·cases h'
theorem NJ {ob:Nat→Option Ob} {loc:Nat→Value} {q:Prop} {id:Nat} {o:Ob} (h:ob id=some o):(Gx ob loc q) id=some (loc id):=by
 show (if (ob id).isSome=true then some (loc id) else none)=_;rw [h];rfl
theorem gV.own {n0 n1:Nat} {L1:lp} {id:Nat} {o:Ob} (h:gV n0 L μ loc w id o) (hm:∀k e s ks vs,o≠ .mr k e s ks vs) (ho:∀b,gi (loc id) b→Gi n1 L1 id b):gV n1 L1 μ loc w id o:=by
 cases o with
 |box t cells=>
  obtain ⟨b,vs,hl,_,rest⟩:=h;exact ⟨b,vs,hl,ho b (by rw [hl];exact jH.2 rfl),rest⟩
 |row e sz xs=>
  obtain ⟨vs,hw,hrc,hg⟩:=h;exact ⟨vs,hw,hrc,fun g hgin=>⟨ho g hgin,(hg g hgin).2⟩⟩
 |mp k e ks es=>
  obtain ⟨b,bK,clock,hl,_,rest⟩:=h;exact ⟨b,bK,clock,hl,ho b (by rw [hl];exact mU.2 rfl),rest⟩
 |mr k e sz ks vs=>exact absurd rfl (hm k e sz ks vs)
 |it s pos=>
  obtain ⟨b,hl,_,rest⟩:=h;exact ⟨b,hl,ho b (by rw [hl];exact jH.2 rfl),rest⟩
theorem Rel.re (hR:Rel N w0 μ0 L μ loc st a w) (hs:a'.tmps.size=N) (hd:a'.defers=[]) (he:∀i sv,st1.env i=some sv→∃v,a'.tmps[i]? =some v∧cW μ loc sv v) (ho:∀id o,st1.ob id=some o→st.ob id=some o):Rel N w0 μ0 L μ loc st1 a' w:=
 ⟨hR.small,hR.names,hR.fix,hs,hd,he,hR.r7,hR.base,fun id o h=>hR.obs id o (ho id o h),fun i j oi oj hi hj=>hR.apart i j oi oj (ho i oi hi) (ho j oj hj),hR.keep,hR.os,hR.tape,hR.output,hR.grown,hR.drawn⟩
theorem Rel.sub (hR:Rel N w0 μ0 L μ loc st a w) (he:∀i sv,st1.env i=some sv→st.env i=some sv) (ho:∀id o,st1.ob id=some o→st.ob id=some o):Rel N w0 μ0 L μ loc st1 a w:=
 hR.re hR.size hR.defers (fun i sv h=>hR.env i sv (he i sv h)) ho
theorem Rel.into (hR:Rel N w0 μ0 L μ loc st a w) (h1:∀id o,st.ob id=some o→10000≤id∧∀k e s ks vs,o≠ .mr k e s ks vs):Rel N w μ (Gx st.ob loc L.q) μ loc st a w:=by
 refine ⟨hR.small,fun id h=> ?_,fun id v h _=>(qG h).2.symm,hR.size,hR.defers,hR.env,hR.r7,⟨Mu.le.refl _,fun _ _ _ h=> .inl h⟩,fun id o h=> ?_,hR.apart,fun _ _ _=>rfl,rfl,rfl,rfl,Nat.le_refl _,fun _=>Nat.le_refl _⟩
 ·cases hs:(Gx st.ob loc L.q) id with
  |none=>rfl
  |some v=>
   obtain ⟨⟨o,ho⟩,_⟩:=qG hs;have:=(h1 id o ho).1;omega
 ·exact (hR.obs id o h).own (h1 id o h).2 fun b hb=> .inr ⟨loc id,NJ h,hb⟩
theorem Rel.back (hR:Rel N w0 μ0 L μ loc st a w) (sL:Rel N w μ (Gx st.ob loc L.q) μ' loc' st' a' w') {names:List Nat} (hn:∀id,(st.ob id).isSome=true↔id∈names)
  (ho:∀id o,st'.ob id=some o→id∈names∧o.closed names=true∧o.mw (fun i=>i)=o) (he:∀i sv,st'.env i=some sv→sv.closed names=true∧sv.mw (fun i=>i)=sv):
  (∃jl,Rel N w0 μ0 L μ' jl st' a' w'∧∀id o,st'.ob id=some o→∀g,gi (jl id) g→w.heap.size≤g∨∃id' o',st.ob id'=some o'∧gi (loc id') g)∧(∀b,b<w.heap.size→(∀id o,st.ob id=some o→¬gi (loc id) b)→w'.heap[b]? =w.heap[b]?):=by
 have hown:∀id o,st.ob id=some o→∀b,gi (loc id) b→Gi w0.heap.size L id b:=fun id o h b hb=>((hR.obs id o h).block b hb).1
 have wj:∀b,Eh (Gx st.ob loc L.q) b→∃id o,st.ob id=some o∧gi (loc id) b:=by
  rintro b ⟨id,v,h,hb⟩
  obtain ⟨⟨o,h1⟩,rfl⟩:=qG h;exact ⟨id,o,h1,hb⟩
 refine ⟨⟨fun id=>if id∈names then loc' id else loc id,⟨hR.small,hR.names,fun id v h h2=> ?_,sL.size,sL.defers,fun i sv h=> ?_,sL.r7,⟨hR.base.1.trans sL.base.1,fun b j v h=> ?_⟩,fun id o h=> ?_,fun i j oi oj hi hj hne=> ?_,fun b hb hl=> ?_,
  sL.os.trans hR.os,sL.tape.trans hR.tape,sL.output.trans hR.output,Nat.le_trans hR.grown sL.grown,fun q=>Nat.le_trans (hR.drawn q) (sL.drawn q)⟩,fun id o h g hg=> ?_⟩,fun b hb hno=> ?_⟩
 ·show (if id∈names then loc' id else loc id)=v
  split
  ·rename_i hm
   obtain ⟨o,ho'⟩:=Option.isSome_iff_exists.1 ((hn id).2 hm);rw [sL.fix id _ (NJ ho') h2];exact hR.fix id v h h2
  ·exact hR.fix id v h h2
 ·obtain ⟨v,hv,hr⟩:=sL.env i sv h
  obtain ⟨c1,c2⟩:=he i sv h;refine ⟨v,hv,?_⟩;have:=Jd (loc':=fun id=>if id∈names then loc' id else loc id) (ρ:=fun i=>i) (names:=names) (fun j hj=>if_pos hj) c1 hr
  rwa [c2] at this
 ·rcases sL.base.2 b j v h with h|h
  ·exact hR.base.2 b j v h
  ·exact .inr (Nat.le_trans hR.grown h)
 ·obtain ⟨c0,c1,c2⟩:=ho id o h
  have:=BP (n0':=w0.heap.size) (L':=L) (loc':=fun id=>if id∈names then loc' id else loc id) (ρ:=fun i=>i) (names:=names) (id':=id) (fun j hj=>if_pos hj) c1 (sL.obs id o h) (if_pos c0) (fun b hb=>by
   rcases ((sL.obs id o h).block b hb).1 with h1|⟨v,h1,h2⟩
   ·exact .inl (Nat.le_trans hR.grown h1)
   ·obtain ⟨⟨o',h3⟩,rfl⟩:=qG h1
    exact hown id o' h3 b h2)
  rwa [c2] at this
 ·intro g hg
  show¬gi (if j∈names then loc' j else loc j) g;rw [if_pos (ho j oj hj).1];have hg':gi (if i∈names then loc' i else loc i) g:=hg;rw [if_pos (ho i oi hi).1] at hg';exact sL.apart i j oi oj hi hj hne g hg'
 ·refine (sL.keep b (Nat.lt_of_lt_of_le hb hR.grown) fun hc=> ?_).trans (hR.keep b hb hl)
  obtain ⟨id,o,h1,h2⟩:=wj b hc;rcases hown id o h1 b h2 with h3|⟨v,h3,h4⟩
  ·omega
  ·exact hl ⟨id,v,h3,h4⟩
 ·have hg':gi (if id∈names then loc' id else loc id) g:=hg
  rw [if_pos (ho id o h).1] at hg';rcases ((sL.obs id o h).block g hg').1 with h1|⟨v,h1,h2⟩
  ·exact .inl h1
  ·obtain ⟨⟨o',h3⟩,rfl⟩:=qG h1
   exact .inr ⟨id,o',h3,h2⟩
 ·refine sL.keep b hb fun hc=> ?_
  obtain ⟨id,o,h1,h2⟩:=wj b hc;exact hno id o h1 h2
theorem Gq {h:Hint} {bN:dm} (fm:eF L.q μ0 P bN) {ops:Array Oper} {id n:Nat} {e:Ex} (hd:∀o∈ops.toList,∀i,o.dst=some i→i<N) (hx:exec P h bN n (.region id ops false) st=some (e,st')) (hR:Rel N w0 μ0 L μ loc st a w)
  {Q:Exit→Act→World→Prop} (hQ:∀a' w' μ' loc',Rel N w0 μ0 L μ' loc' st' a' w'→Q .normal a' w'):wpList P ops Q ops.toList a w:=by
 simp only [exec] at hx;obtain ⟨s1,fP,hx⟩:=Option.bind_eq_some_iff.1 hx;obtain ⟨μ1,Fy⟩:=BS hR fP;simp only [cond_false] at hx;cases hr:jq P h bN ops ops.toList s1 with
 |none=>simp [hr] at hx
 |some s=>
  simp [hr] at hx;obtain ⟨rfl,rfl⟩:=hx;exact xb fm Fy hd hr hQ
theorem Rel.aside (hR:Rel N w0 μ0 L μ loc st a w) {r:Nat} (hr:w0.heap.size≤r) (qk:∀j,μ r j=none) (hno:∀id o,st.ob id=some o→¬gi (loc id) r) (hb:∀b,b≠r→w'.heap[b]? =w.heap[b]?)
  (hos:w'.os=w.os) (ht:w'.tape=w.tape) (hout:w'.output=w.output) (hsz:w'.heap.size=w.heap.size) (Rf:w.drawn≤w'.drawn):Rel N w0 μ0 L μ loc st a w':=by
 refine hR.world (Mu.le.refl _) (fun _ _ _ h=> .inl h) (fun b j v h=> ?_) (fun id o h b hin=>⟨hb b fun e=>hno id o h (e▸hin),((hR.obs id o h).block b hin).2.2⟩) (fun b h1 _=>hb b (by omega)) hos ht hout (by omega) (fun _=>Rf);have hne:b≠r:=fun e=>by rw [e,qk j] at h;cases h
 rw [fT (hb b hne) j];exact hR.r7 b j v h
end
end Go.AM
