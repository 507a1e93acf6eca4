/- THE ABSTRACT MACHINE. -/
import Derived.Test.YthppjmoncapdfaaGreatDoorAmEff
set_option linter.all false
namespace Go.AM
open Go.RowKit
def HW (μ:Mu) (w:World):Prop:=∀b j v,μ b j=some v→EH w b j=some v
def jV (q:Qp) (loc:Nat→Value) (names:List Nat):sq:=⟨fun id=>if id∈names then some (loc id) else none,q⟩
def UY (loc:Nat→Value) (cD:List (Nat×Ob)):Prop:=∀i j oi oj,find cD i=some oi→find cD j=some oj→i≠j→∀g,jH (loc i) g→¬jH (loc j) g
structure gd (q:Qp) (μ:Mu) (loc:Nat→Value) (names:List Nat) (r:AV) (gm:List (Nat×Ob)) (w:World) (v:Value) (μ':Mu) (loc':Nat→Value) (w':World):Prop where
 ext:μ.ext w.heap.size μ'
 uI:HW μ' w'
 res:rep μ' r v∨(∃n A m c,r= .self n∧10000∈names∧loc' 10000= .slice A m c∧n≤m∧v= .slice A n c)∨
  ∃e sz xs vs,r= .mu [.mu [.self e, .eH sz xs]]∧w'.ownsRow 0 e sz v xs.length vs∧c4 μ' sz xs vs∧∀g,bu v=some g→w.heap.size≤g∧(∀j,μ' g j=none)∧∀id o,find gm id=some o→¬jH (loc' id) g
 obs:∀id o,find gm id=some o→mE w.heap.size (jV q loc names) μ' loc' w' id o
 apart:UY loc' gm
 keep:∀b,b<w.heap.size→¬LB (jV q loc names) b→w'.heap[b]? =w.heap[b]?
 fix:∀id,id∈names→id<20000→loc' id=loc id
 os:w'.os=w.os
 tape:w'.tape=w.tape
 output:w'.output=w.output
 grown:w.heap.size≤w'.heap.size
 drawn:q→w.drawn≤w'.drawn
theorem gd.pure {q:Qp} {μ:Mu} {loc:Nat→Value} {names:List Nat} {r:AV} {gm:List (Nat×Ob)} {w:World} {v:Value} {μ':Mu} {loc':Nat→Value} {w':World} (h:gd q μ loc names r gm w v μ' loc' w') (hn:r.kN=true):rep μ' r v:=by
 rcases h.res with h|⟨n,A,m,c,rfl,_⟩|⟨e,sz,xs,vs,rfl,_⟩<;>try cases hn
 ·exact h
theorem Ny {r:AV} (h:r.plain=true):r.kN=true:=by
 cases r with
 |self n=>cases h
 |mu vs=>
  have:vs.any AV.aax=false:=by
   rw [qZ];intro x hx ht;have:=cg.1 (h) x hx;cases x<;>simp [AV.aax,AV.scalar] at ht this
  simp [AV.kN,this]
 |_=>rfl
def HY (P:Program) (u:Value) (args:Array Value) (w:World) (R:Ending→World→Prop):Prop:=
 ∃(l:Nat) (f:FuncId) (tmps:Array Value) (assign body:Code),u= .func (.yield l) #[] #[]∧(Instr.yield l args).run P w= .ok (.round l f tmps assign body) w∧∀F,Wd F→RoundIn F (0-1) P l f tmps assign body w R
def ga (q:Qp) (B:Mu) (P:Program) (bM:dQ):Prop:=∀g args cD r gm,bM g args cD=some (r,gm)→∀(w:World) (μ:Mu) (loc:Nat→Value) (us:List Value),B.le μ→HW μ w→
 (∀id o,find cD id=some o→mE w.heap.size (jV q loc (cD.map (·.1))) μ loc w id o)→UY loc cD→iQ μ loc args us→
 (g<2000000∧(∀w2,(callFunc g us.toArray).run P w2= .ok (.enter g us.toArray) w2)∧
  Calls P g us.toArray w fun e w'=>∃v μ' loc',e= .returned v∧gd q μ loc (cD.map (·.1)) r gm w v μ' loc' w')∨
 (2000000≤g∧(∃xs,find cD 10000=some (.lp xs))∧∃as v,us=as++[v]∧
  HY P (clV g [v]) as.toArray w fun e w'=>∃v μ' loc',e= .returned v∧gd q μ loc (cD.map (·.1)) r gm w v μ' loc' w')
theorem ga.noY {A B C R:Prop} {cD:List (Nat×Ob)} {D:Prop} (h:(A∧B∧C)∨(D∧(∃xs,find cD 10000=some (.lp xs))∧R)) (hn:∀xs,find cD 10000≠some (.lp xs)):B∧C:=by
 simp_all
theorem ga.mono {q:Qp} {B B':Mu} {P:Program} {bM:dQ} (h:ga q B P bM) (hB:B.le B'):ga q B' P bM:=
 fun g args cD r gm hv w μ loc us hle=>h g _ _ r _ hv w _ _ _ (hB.trans hle)
section
variable {P:Program} {N:Nat} {w0:World} {μ0:Mu} {L:sq} {μ:Mu} {loc:Nat→Value} {st st':St} {a:Act} {w:World} {Q:Exit→Act→World→Prop} {K:Act→World→Prop} {h:Hint} {bM:dQ}
theorem Ff {α:Type} {c:Bool} {x:Option α} {v:α} (h:(bif c then none else x)=some v):x=some v:=by
 grind
theorem lT {α:Type} {j i:Nat} {x v:α} (hf:find [(j,x)] i=some v):i=j:=by
 grind [find,beq_iff]
theorem ve (hR:Rel N w0 μ0 L μ loc st a w) {μ':Mu} (hle:μ.le μ'):∀{cs:List qm} {vs:List AV} {us:List Value},j6 st cs=some vs→kz μ loc cs us→
  (∀id,qm.r id∈cs→∀b j x,jH (loc id) b→EH w b j=some x→μ' b j=some x)→bV μ' vs us
 |[],vs,us,h,k,_=>by
  simp [j6,aG] at h;subst h
  assumption
 | .v a::cs,vs,us,h,⟨u,_,e,h1,h2⟩,hr=>by
  subst e;simp [j6,bS] at h;obtain ⟨vs',hv,rfl⟩:=h;exact bY (vt hle _ _ h1) (ve hR hle hv h2 fun id hi=>hr _ (by simp [hi]))
 | .r _::cs,vs,us,h,⟨u,_,e,h1,h2⟩,hr=>by
  subst e;simp [j6] at h;split at h
  ·rename_i v vs' hv hvs
   injection h with h;subst h
   obtain ⟨ob,dG,hval⟩:=dw.1 hv;refine bY ?_ (ve hR hle hvs h2 fun id hi=>hr _ (by simp [hi]));have e :=h1;rw [e];exact O0 (hR.obs _ _ dG) hval hle (fun b j x hb hc=>hr _ (by simp) b j x hb hc)
  grind
 | .p _::cs,vs,us,h,_,_=>by simp [j6] at h
theorem T0 (hR:Rel N w0 μ0 L μ loc st a w) {s:SV} {v:AV} {u:Value} (hl:mK st s=some v) (hs:gy μ loc s u) {μ':Mu} (hle:μ.le μ')
  (hrow:∀id∈s.NQ,∀b j x,jH (loc id) b→EH w b j=some x→μ' b j=some x):rep μ' v u:=by
 cases s with
 |pv x=>simp [mK,aG] at hl;subst hl;exact vt hle _ _ hs
 |row id=>
  obtain ⟨ob,dG,hval⟩:=dw.1 hl;have e :=hs;rw [e];exact O0 (hR.obs _ _ dG) hval hle (fun b j x hb hc=>hrow _ (by simp [SV.NQ,SV.ids]) b j x hb hc)
 |ag cs=>
  simp [mK,bS] at hl;obtain ⟨vs,hv,rfl⟩:=hl;obtain ⟨us,rfl,hc,h1⟩:=hs;exact ⟨us,rfl,ve hR hle hv hc (fun id hi=>hrow _ (fV.2 ⟨_,hi,rfl⟩)),h1⟩
 | «at» id q=>
  cases q with
  |full=>simp [mK] at hl
  |nr i=>
   simp [mK] at hl;split at hl
   ·rename_i e sz k e' s' xs ys dG
    split at hl
    ·rename_i zs hy
     obtain ⟨m,us,vs,IY,hm,hown,hrc,hk,h2,h3,h4,h5,h6,h7⟩:=hR.obs _ _ dG;obtain ⟨u',cells,k1,k2,k3,k4,k5⟩:=h4 i _ hy;obtain ⟨m',us',e1,_,e3⟩:=hs;rw [IY] at e1;have e':=aI Array.toList (Value.tuple.inj e1);obtain ⟨rfl,rfl⟩:=e';have hu:u'=u:=by
      rcases e3 _ k1 with e3|e3
      ·subst e3;rcases k3.2 with ⟨e1,_⟩|⟨g,cap,cur,e1,_⟩<;>simp [undef] at e1
      ·exact e3
     grind [Az,SV.NQ,jZ]
    simp_all
   simp_all
 |_=>simp [mK] at hl
theorem Ad {id:Nat}:∀{cs:List qm} {vs:List AV},j6 st cs=some vs→id∈(SV.ag cs).ids→∃ob,st.ob id=some ob
 |[],_,_,h=>by simp [SV.ids] at h
 | .v a::cs,vs,h,hi=>by
  simp only [j6,bS] at h;obtain ⟨vs',hv,rfl⟩:=h;exact Ad hv (by simpa [SV.ids] using hi)
 | .r j::cs,vs,h,hi=>by
  simp only [j6] at h;split at h
  ·rename_i v vs' hv hvs
   simp only [SV.ids,xG,aD] at hi;rcases hi with rfl|hi
   ·obtain ⟨ob,dG,_⟩:=dw.1 hv;exact ⟨ob,dG⟩
   ·exact Ad hvs (by simpa [SV.ids] using hi)
  ·cases h
 | .p j::cs,vs,h,_=>by simp [j6] at h
theorem lend_ob {s:SV} {v:AV} (h:mK st s=some v) {id:Nat} (hi:id∈s.NQ):∃ob,st.ob id=some ob:=by
 cases s with
 |pv x=>simp [SV.NQ,SV.ids] at hi
 |row j=>
  simp only [SV.NQ,SV.ids,bP] at hi;subst hi;obtain ⟨ob,dG,_⟩:=dw.1 (h:(st.ob id).bind Ob.val=some v);exact ⟨ob,dG⟩
 |ag cs=>
  simp only [mK,bS] at h;obtain ⟨vs,hv,_⟩:=h;exact Ad hv hi
 | «at» j q=>
  simp only [SV.NQ,bP] at hi;subst hi;cases q with
  |full=>simp [mK] at h
  |nr i=>
   simp only [mK] at h;split at h
   ·rename_i dG;exact ⟨_,dG⟩
   ·cases h
 |_=>simp [mK] at h
theorem BE (hR:Rel N w0 μ0 L μ loc st a w) {μ':Mu} (hle:μ.le μ') {xs:List Operand} {ts:List TypeId} {vs:List AV} (h:jI P st xs ts=some vs)
  (hrow:∀x∈xs,∀t s v,bq P t st x=some s→mK st s=some v→∀id∈s.NQ,∀b j x,jH (loc id) b→EH w b j=some x→μ' b j=some x):bV μ' vs (xs.map a.eval):=by
 induction xs generalizing ts vs with
 |nil=>simp [jI] at h;subst h;exact ef
 |cons x xs ih=>
  simp only [jI] at h;split at h
  ·rename_i v vs' hv hvs
   injection h with h;subst h
   cases ho:bq P (ts.headD 0) st x with
   |none=>rw [ho] at hv;cases hv
   |some sv=>
    rw [ho] at hv;simp only [fD] at hv;exact bY (T0 hR hv (aU hR ho) hle (hrow x (by simp) _ sv _ ho hv)) (ih hvs (fun y hy=>hrow y (by simp [hy])))
  ·cases h
theorem Yi {μ μ':Mu} {r:AV} {v:Value} (h:r.plain=true) (k:rep μ r v):rep μ' r v:=by
 have sc:∀(r:AV) (v:Value),r.scalar=true→rep μ r v→rep μ' r v:=fun r v h k=>by
  cases r<;>simp [AV.scalar] at h<;>simpa [rep] using k
 cases r with
 |mu vs=>
  rw [rep] at k⊢;obtain ⟨us,e,hall⟩:=k;refine ⟨us,e,?_⟩;simp only [AV.plain] at h;clear e
  induction vs generalizing us with
  |nil=>simpa [bV] using hall
  |cons x xs ih=>
   rw [bV] at hall;obtain ⟨u,us',rfl,h1,h2⟩:=hall;simp only [gU,aF] at h;exact bY (sc _ _ h.1 h1) (ih h.2 us' h2)
 |bool b=>exact sc _ _ rfl k
 |int b n=>exact sc _ _ rfl k
 |str s=>exact sc _ _ rfl k
 |eH sz xs=>simp [AV.plain,AV.scalar] at h
 |agg cs=>simp [AV.plain,AV.scalar] at h
 |fn f caps=>simp [AV.plain,AV.scalar] at h
 |ref cs=>simp [AV.plain,AV.scalar] at h
 |mp ks es=>simp [AV.plain,AV.scalar] at h
 |self n=>simp [AV.plain,AV.scalar] at h
 |DZ=>simp [AV.plain,AV.scalar] at h
 |rK=>simp [AV.plain,AV.scalar] at h
 |hole=>simp [AV.plain,AV.scalar] at h
theorem Dr {μ':Mu} {loc':Nat→Value} {r:AV} {gm:List (Nat×Ob)} {u:Value} {w':World} {q:Qp} (hP:gd q μ loc [] r gm w u μ' loc' w'):Below w.heap.size w w':=
 ⟨hP.os,hP.tape,hP.output,hP.grown,fun b hb=>hP.keep b hb (by rintro ⟨id,v,h,_⟩;simp [jV] at h)⟩
theorem HN {o:Oper} {c:Call} {f:Operand} {g:Nat} {us caps:List Value} {r:AV} {gm:List (Nat×Ob)} (ho:o.op= .call c) (hc:c.callee= .value f) (hf:a.eval f= .func (.func g) #[] caps.toArray)
  (qW:c.args.toList.map a.eval=us) (he:∀w2,(callFunc g (us++caps).toArray).run P w2= .ok (.enter g (us++caps).toArray) w2)
  {R:Value→World→Prop} (iO:Calls P g (us++caps).toArray w fun e w'=>∃v,e= .returned v∧R v w') (hK:∀v w',R v w'→K (a.put o.dst v) w'):o.uM P a w K Q:=by
 have hargs:c.args.map a.eval=us.toArray:=by rw [←qW,←Array.toList_map]
 refine KF (fun c' uB=>by rw [ho] at uB;cases uB) (x:= .enter g (us++caps).toArray) (w':=w) ?_ fun F hF=> ?_
 ·unfold execOp
  rw [ho];simp only [resolve,hc,hf,Deferred.ofValue,invoke,fQ,kC,gC,hargs];have e:(#[]++us.toArray)++caps.toArray=(us++caps).toArray:=by simp
  rw [e,he w]
 ·refine ⟨hF.one,?_⟩
  have h1:CallsIn Fence.wide (0-1) P g (us++caps).toArray w _:=oQ.2 iO;have h2:CallsIn F (0-1) P g (us++caps).toArray w (fun e w'=>∃v,e= .returned v∧R v w'):=by
   have:=hF;unfold Wd at this;rw [←this] at h1;exact h1
  refine h2.mono ?_
  rintro e w' ⟨v,rfl,hr⟩
  exact hK v w' hr
theorem acT {o:Oper} {c:Call} {f:Operand} {g:Nat} {ps us caps:List Value} (ho:o.op= .call c) (hc:c.callee= .value f) (hf:a.eval f= .func (.func g) ps.toArray caps.toArray)
  (qW:c.args.toList.map a.eval=us) (he:∀w2,(callFunc g (ps++(us++caps)).toArray).run P w2= .ok (.enter g (ps++(us++caps)).toArray) w2)
  {R:Value→World→Prop} (iO:Calls P g (ps++(us++caps)).toArray w fun e w'=>∃v,e= .returned v∧R v w') (hK:∀v w',R v w'→K (a.put o.dst v) w'):o.uM P a w K Q:=by
 have hargs:c.args.map a.eval=us.toArray:=by rw [←qW,←Array.toList_map]
 refine KF (fun c' uB=>by rw [ho] at uB;cases uB) (x:= .enter g (ps++(us++caps)).toArray) (w':=w) ?_ fun F hF=> ?_
 ·unfold execOp
  rw [ho];simp only [resolve,hc,hf,Deferred.ofValue,invoke,fQ,kC,gC,hargs];have e:(ps.toArray++us.toArray)++caps.toArray=(ps++(us++caps)).toArray:=by simp
  rw [e,he w]
 ·refine ⟨hF.one,?_⟩
  have h1:CallsIn Fence.wide (0-1) P g (ps++(us++caps)).toArray w _:=oQ.2 iO;have h2:CallsIn F (0-1) P g (ps++(us++caps)).toArray w (fun e w'=>∃v,e= .returned v∧R v w'):=by
   have:=hF;unfold Wd at this;rw [←this] at h1;exact h1
  refine h2.mono ?_
  rintro e w' ⟨v,rfl,hr⟩
  exact hK v w' hr
theorem HY.mono {u:Value} {args:Array Value} {R R':Ending→World→Prop} (h:HY P u args w R) (hr:∀e w',R e w'→R' e w'):HY P u args w R':=by
 obtain ⟨l,f,tmps,assign,body,h1,h2,h3⟩:=h;exact ⟨l,f,tmps,assign,body,h1,h2,fun F hF=>(h3 F hF).mono hr⟩
theorem acU {o:Oper} {c:Call} {f:Operand} (ho:o.op= .call c) (hc:c.callee= .value f) {R:Value→World→Prop}
  (hY:HY P (a.eval f) (c.args.toList.map a.eval).toArray w fun e w'=>∃v,e= .returned v∧R v w') (hK:∀v w',R v w'→K (a.put o.dst v) w'):o.uM P a w K Q:=by
 obtain ⟨l,g,tmps,assign,body,hf,hrun,Ck⟩:=hY;have hargs:c.args.map a.eval=(c.args.toList.map a.eval).toArray:=by grind
 refine KF (fun c' uB=>by simp_all) (x:= .round l g tmps assign body) (w':=w) ?_ fun F hF=> ?_
 ·simp_all [execOp,resolve,Deferred.ofValue,invoke]
 ·refine ⟨hF.one,(Ck F hF).mono ?_⟩
  simp_all
theorem IS (hR:Rel N w0 μ0 L μ loc st a w) {f:Operand} {g:Nat} {caps:List AV} (h:bq P 0 st f=some (.pv (.fn g caps))):∃cs:List Value,a.eval f= .func (.func g) #[] cs.toArray∧bV μ caps cs:=by
 have:=aU hR h
 assumption
theorem RG {x:Operand} (h:kT st x=false) {t:TypeId} {s:SV} {v:AV} (e:bq P t st x=some s) (hl:mK st s=some v):s.NQ=[]:=by
 cases x with
 |tmp i=>
  simp [bq] at e;cases s with
  |pv x=>rfl
  |row j=>simp [kT,e] at h
  |ag cs=>simp [kT,e] at h
  | «at» j q=>simp [kT,e] at h
  |_=>simp [mK] at hl
 |const v=>
  simp [bq] at e;cases hc:ofConst P t v<;>simp_all;subst e;rfl
 |func f=>simp [bq] at e;subst e;rfl
 |global g=>simp [bq] at e
theorem Iw (hR:Rel N w0 μ0 L μ loc st a w) (iO:ga L.q μ0 P bM) {o:Oper} {c:Call} {f:Operand} {g:Nat} {caps vs:List AV} {r:AV} (hd:∀i,o.dst=some i→i<N) (ho:o.op= .call c) (hc:c.callee= .value f)
  (hf:bq P 0 st f=some (.pv (.fn g caps))) (hvs:jI P st c.args.toList c.argTypes.toList=some vs) (hr:bM g ((vs++caps).map .pv) []=some (r,[]))
  (hp:(r.plain|| !(c.args.toList.any (kT st)))=true) (Hi:r.kN=true) (hK:nk N w0 μ0 L (st.set o.dst (.pv r)) K):o.uM P a w K Q:=by
 obtain ⟨cs,XK,hcs⟩:=IS hR hf;cases E0:c.args.toList.any (kT st) with
 |false=>
  have hall:=BE hR (Mu.le.refl _) hvs (fun x hx t s v e hl id hi=>by
   grind [RG])
  obtain ⟨he,hC⟩:=ga.noY (iO g _ _ r _ hr w _ loc _ hR.base.1 hR.uI (by simp [find]) (by intro i j oi oj hi;simp [find] at hi) (rS (nZ hall hcs))) fun xs=>by simp [find]
  refine HN (R:=fun v w'=>∃μ' loc',gd L.q μ loc [] r [] w v μ' loc' w') (r:=r) (gm:=[]) ho hc XK rfl he (hC.mono ?_) ?_
  ·simp
  ·rintro v w' ⟨μ',loc',hP⟩
   exact hK _ _ _ _ ((hR.grow hP.ext hP.uI (Dr hP) hP.drawn).set hd (hP.pure Hi))
 |true=>
  have hplain :=by simpa [E0] using hp
  let F5 :=fun b=>∃id ob,st.ob id=some ob∧jH (loc id) b
  have:∀b,Decidable (F5 b):=fun b=>Classical.propDecidable _
  let μ1 :=fun b j=>if F5 b then EH w b j else μ b j
  have hle:μ.le μ1:=fun b j v hv=>by
   by_cases hb:F5 b
   ·obtain ⟨id,ob,dG,wC⟩:=hb
    have:=((hR.obs _ _ dG).block b wC).2.2 j;simp_all
   grind
  have I1:HW μ1 w:=fun b j v hv=>by
   by_cases hb:F5 b
   ·simpa [μ1,hb] using hv
   ·exact hR.uI b j v (by grind)
  have hall:=BE hR hle hvs (fun x hx t s v e hl id hi b j u hb hcell=>by
   obtain ⟨ob,dG⟩:=lend_ob hl hi;have hrow:F5 b:=⟨id,ob,dG,hb⟩
   simpa [μ1,hrow] using hcell)
  obtain ⟨he,hC⟩:=ga.noY (iO g _ _ r _ hr w _ loc _ (hR.base.1.trans hle) I1 (by simp [find]) (by intro i j oi oj hi;simp [find] at hi) (rS (nZ hall (fJ hle _ _ hcs)))) fun xs=>by simp [find]
  refine HN (R:=fun v w'=>∃μ' loc',gd L.q μ1 loc [] r [] w v μ' loc' w') (r:=r) (gm:=[]) ho hc XK rfl he (hC.mono ?_) ?_
  ·simp
  ·rintro v w' ⟨μ',loc',hP⟩
   exact hK _ _ _ _ ((hR.Qm (Dr hP) hP.drawn).set hd (Yi hplain (hP.pure Hi)))
theorem Dy (hR:Rel N w0 μ0 L μ loc st a w) {xs:List Operand} {vs:List AV} (h:tN st xs=some vs):bV μ vs (xs.map a.eval):=by
 induction xs generalizing vs with
 |nil=>simp_all [tN,ef]
 |cons x xs ih=>
  cases x with
  |tmp i=>
   simp [tN] at h;split at h
   ·rename_i v vs' hv hvs
    injection h with h;subst h
    obtain ⟨u,hu,hr⟩:=hR.env i _ hv;have:a.eval (.tmp i)=u:=by simp [Act.eval,hu]
    exact bY (by rw [this];exact hr) (ih hvs)
   ·rename_i cs vs' hv hvs
    injection h with h;subst h
    obtain ⟨u,hu,hr⟩:=hR.env i _ hv;have:a.eval (.tmp i)=u:=by simp [Act.eval,hu]
    obtain ⟨b,off,us,e,hc,hm⟩:=hr;exact bY (by rw [this];exact ⟨b,_,us,e,hc.1,hc.2,hm⟩) (ih hvs)
   grind
  |_=>simp [tN] at h
theorem Dx (hR:Rel N w0 μ0 L μ loc st a w) {xs:List Operand} {cs:List qm} (h:qE st xs=some cs):kz μ loc cs (xs.map a.eval):=by
 induction xs generalizing cs with
 |nil=>simp [qE] at h;subst h;rfl
 |cons x xs ih=>
  cases x with
  |tmp i=>
   simp [qE] at h;split at h
   ·rename_i v vs' hv hvs
    injection h with h;subst h
    obtain ⟨u,hu,hr⟩:=hR.env i _ hv;have:a.eval (.tmp i)=u:=by simp [Act.eval,hu]
    exact ⟨_,_,rfl,by rw [this];exact hr,ih hvs⟩
   ·rename_i cs' vs' hv hvs
    injection h with h;subst h
    obtain ⟨u,hu,hr⟩:=hR.env i _ hv;have:a.eval (.tmp i)=u:=by simp [Act.eval,hu]
    obtain ⟨b,off,us,e,hc,hm⟩:=hr;refine ⟨_,_,rfl,?_,ih hvs⟩;rw [this];exact ⟨b,_,us,e,hc.1,hc.2,hm⟩
   ·rename_i id vs' hv hvs
    injection h with h;subst h
    obtain ⟨u,hu,hr⟩:=hR.env i _ hv;have:a.eval (.tmp i)=u:=by simp [Act.eval,hu]
    obtain ⟨b,h1,h2⟩:=hr;exact ⟨_,_,rfl,⟨b,h1,by simp_all⟩,ih hvs⟩
   grind
  |_=>simp [qE] at h
theorem Mv (hR:Rel N w0 μ0 L μ loc st a w) {o:Oper} {g:Nat} {first caps:Array Operand} {d:Nat} {vs:List AV} (hd:d<N) (dc:o.dst=some d) (ho:o.op= .makeFunc (.func g) first caps) (Vw:first.isEmpty=true)
  (hp:vZ st caps.toList=some st') (hcs:tN st' caps.toList=some vs) (hK:nk N w0 μ0 L (st'.set (some d) (.pv (.fn g vs))) K):o.uM P a w K Q:=by
 obtain ⟨μ',hle,z6⟩:=K1 hR hR hp;have hall:=Dy z6 hcs;have hf0 :=by simpa using Vw
 refine oM z6 (fun i hi=>by simp_all) ⟨.func (.func g) #[] (caps.toList.map a.eval).toArray,?_,?_⟩ (by rw [dc];omega)
 ·unfold execOp;rw [ho,hf0]
  have e:caps.map a.eval=(caps.toList.map a.eval).toArray:=by grind
  simp [Instr.makeFunc,e]
 ·show rep _ _ _
  rw [rep];simp_all
theorem Eb (hR:Rel N w0 μ0 L μ loc st a w) {xs:List Operand} (h:mS.iA st xs=some st'):∃μ',Rel N w0 μ0 L μ' loc st' a w:=by
 induction xs generalizing st μ with
 |nil=>grind [mS.iA]
 |cons x xs ih=>
  cases x with
  |tmp i=>
   simp [mS.iA] at h;split at h
   ·rename_i id hi
    cases hp:st.dD id with
    |none=>simp_all
    |some st1=>
     obtain ⟨μ1,_,h1⟩:=hR.dD hp
     grind
   grind
  |_=>grind [mS.iA]
theorem Fi (hR:Rel N w0 μ0 L μ loc st a w) {xs:List Operand} (h:mS.jv st xs=some st'):∃μ',Rel N w0 μ0 L μ' loc st' a w:=by
 unfold mS.jv at h;cases ha:xs.any (vC st) with
 |true=>rw [ha] at h;cases h
 |false=>rw [ha] at h;exact Eb hR h
theorem Rel.addOb (hR:Rel N w0 μ0 L μ loc st a w) {id:Nat} {o:Ob} (hnone:st.ob id=none) (dG:mE w0.heap.size L μ loc w id o)
  (hap:∀j oj,st.ob j=some oj→∀g,jH (loc id) g→¬jH (loc j) g):Rel N w0 μ0 L μ loc { st with ob:=put st.ob id (some o) } a w:=by
 refine ⟨hR.small,hR.names,hR.fix,hR.size,hR.defers,hR.env,hR.uI,hR.base,?_,?_,hR.keep,hR.os,hR.tape,hR.output,hR.grown,hR.drawn⟩
 ·intro i oi hi
  by_cases e:id=i
  ·subst e;simp only [cu,aG] at hi;subst hi;exact dG
  ·exact hR.obs i oi (by simpa only [bl _ _ e] using hi)
 ·intro i j oi oj hi hj hij g hg
  by_cases ei:id=i
  ·subst ei
   simp only [bl _ _ hij] at hj;exact hap j oj hj g hg
  ·simp only [bl _ _ ei] at hi
   by_cases ej:id=j
   ·subst ej;intro hg';exact hap i oi hi g hg' hg
   ·simp only [bl _ _ ej] at hj
    exact hR.apart i j oi oj hi hj hij g hg
theorem K0 (hR:Rel N w0 μ0 L μ loc st a w) {uD:Nat→Value}:∀{xs:List Operand} {ts:List TypeId} {vs:List SV} {ids:List Nat},Ba P h st xs ts=some (vs,ids)→(∀id∈ids,uD 10000=loc id)→iQ μ uD vs (xs.map a.eval):=by
 intro xs
 induction xs with
 |nil=>intro ts vs ids hv _;simp only [Ba,aG,br] at hv;obtain ⟨rfl,rfl⟩:=hv;rfl
 |cons x xs ih=>
  intro ts vs ids hv nQ;simp only [Ba] at hv;split at hv
  ·rename_i id vs' ids' mU z8
   simp only [aG,br] at hv;obtain ⟨rfl,rfl⟩:=hv;refine ⟨_,_,rfl,?_,ih z8 (fun i hi=>nQ i (by simp [hi]))⟩;show a.eval x=fM (uD 10000);rw [nQ id (by simp)];cases x with
   |tmp t=>
    simp only [oK] at mU;cases hb:h.j5.contains t with
    |false=>rw [hb] at mU;cases mU
    |true=>
     simp only [hb,ai] at mU;split at mU
     ·rename_i id' he
      injection mU with mU;subst mU
      obtain ⟨v,hv,hr⟩:=hR.env t _ he;have:a.eval (.tmp t)=v:=by simp [Act.eval,hv]
      rw [this];exact hr
     ·cases mU
   |_=>simp [oK] at mU
  ·rename_i vs' ids' mU z8
   split at hv
   ·rename_i v hv1
    simp only [aG,br] at hv;obtain ⟨rfl,rfl⟩:=hv;exact ⟨_,_,rfl,fC hR hv1,ih z8 nQ⟩
   ·cases hv
  ·cases hv
theorem KO (hR:Rel N w0 μ0 L μ loc st a w) (iO:ga L.q μ0 P bM) {o:Oper} {c:Call} {f:Operand} {st1:St} (hd:∀i,o.dst=some i→i<N) (ho:o.op= .call c) (hc:c.callee= .value f)
  (hv:pR P h bM st c f o.dst=some st1) (hK:nk N w0 μ0 L st1 K):o.uM P a w K Q:=by
 unfold pR at hv;split at hv
 ·rename_i g caps vs id hf hvs
  split at hv
  ·rename_i e sz xs dG
   split at hv
   ·rename_i r' nm e' sz' xs' hr
    cases hb:(Nat.beq e e'&&Nat.beq sz sz'&&Nat.beq nm 10000) with
    |false=>simp [hb] at hv
    |true=>
     simp only [hb,ai] at hv;simp only [aF] at hb;obtain ⟨cs,XK,hcs⟩:=IS hR hf
     let uD:Nat→Value:=fun _=>loc id
     have hok:=hR.obs id _ dG;have hargs:=K0 hR (uD:=uD) hvs (fun i hi=>by simp at hi;subst hi;rfl);have zf:∀i oi,find [(10000,Ob.row e sz xs)] i=some oi→mE w.heap.size (jV L.q uD ([(10000,Ob.row e sz xs)].map (·.1))) μ uD w i oi:=by
      intro i oi hi;simp only [find] at hi;cases hb':Nat.beq 10000 i with
      |false=>simp [hb'] at hi
      |true=>
       simp only [hb',ai,aG] at hi;subst hi;have:=beq_iff.1 hb';subst this;obtain ⟨us,hown,hrc,hm⟩:=hok;refine ⟨us,hown,hrc,fun q hq=>⟨.inr ⟨loc id,by simp [jV,uD],hq⟩,(hm q hq).2⟩⟩
     obtain ⟨he,hC⟩:=ga.noY (iO g _ _ r' _ hr w μ uD (c.args.toList.map a.eval++cs) hR.base.1 hR.uI zf (by
      intro i j oi oj hi hj hij;have h1:=lT hi;have h2:=lT hj
      omega) (pX hargs (rS hcs))) fun xs h=>by simp [find] at h
     refine HN (R:=fun v w'=>∃μ' loc',gd L.q μ uD ([(10000,Ob.row e sz xs)].map (·.1)) r' [(nm,Ob.row e' sz' xs')] w v μ' loc' w') (r:=r') (gm:=[]) ho hc XK rfl he (hC.mono ?_) ?_
     ·rintro e w' ⟨v,μ',loc',rfl,hP⟩
      exact ⟨v,rfl,μ',loc',hP⟩
     ·rintro v w' ⟨μ',loc',hP⟩
      have hlb:∀b,LB (jV L.q uD ([(10000,Ob.row e sz xs)].map (·.1))) b→jH (loc id) b:=by
       rintro b ⟨i,x,hx,Sb⟩
       simp only [jV] at hx;split at hx
       ·injection hx with hx;subst hx;exact Sb
       ·cases hx
      have h1:=(hR.drop id).world (w':=w') (μ':=μ') hP.ext.1 (fun b j x hx=>by
        rcases hP.ext.2 b j x hx with hx|hx
        ·exact .inl hx
        ·exact .inr (dB hR.grown hx)) hP.uI (fun k ok hk b hbk=>by
        by_cases e':id=k
        ·subst e';simp [cu] at hk
        ·simp only [bl _ _ e'] at hk
         obtain ⟨_,hlt,tR⟩:=(hR.obs k ok hk).block b hbk;refine ⟨hP.keep b hlt (fun hl=>hR.apart id k _ ok dG hk e' b (hlb b hl) hbk),fun j=> ?_⟩;cases hj:μ' b j with
         |none=>rfl
         |some x=>
          rcases hP.ext.2 b j x hj with hx|hx
          ·rw [tR j] at hx;cases hx
          ·omega) (fun b hb' hl=>hP.keep b (eX hb' hR.grown) (fun hl'=>by
        have hbb:=hlb b hl';rcases (hok.block b hbb).1 with hx|⟨x,hx,Sb⟩
        ·omega
        ·exact hl ⟨id,x,hx,Sb⟩)) hP.os hP.tape hP.output hP.grown hP.drawn
      have hnm:loc' nm=loc id:=by
       have:=beq_iff.1 hb.2;exact hP.fix nm (by simp [this]) (by omega)
      obtain ⟨us,hown,hrc,hm⟩:=hP.obs nm (.row e' sz' xs') (by simp [find,fS]);rw [hnm] at hown hm;split at hv
      ·rename_i n
       cases Pb:(Nat.ble n xs'.length&&iT id) with
       |false=>rw [Pb] at hv;cases hv
       |true=>
       simp only [Pb,ai,aG] at hv;subst hv;simp only [aF] at Pb;have hnl:n≤xs'.length:=cV Pb.1;obtain ⟨A,m,cp,hl10,hnm',hvv⟩:∃A m cp,loc' 10000= .slice A m cp∧n≤m∧v= .slice A n cp:=by
        rcases hP.res with hx|⟨n',A,m,cp,e1,_,h1,h2,h3⟩|⟨_,_,_,_,e1,_⟩
        ·rw [rep] at hx;exact hx.elim
        ·injection e1 with e1;subst e1;exact ⟨A,m,cp,h1,h2,h3⟩
        ·cases e1
       have e10:=beq_iff.1 hb.2;rw [e10] at hnm;rw [hnm] at hl10;have hid:id<10000∨20000≤id:=by
        have vB:=Pb.2;simp only [iT,eY] at vB;rcases vB with hm|hm
        ·left;simpa [cr] using hm
        ·right;exact cV (aF _ _▸hm).1
       have hblk:∀q,jH v q↔jH (loc id) q:=fun q=>by rw [hvv,hl10,iC,iC];cases A<;>rfl
       have h2:=h1.new (id:=id) (val:=v) (o:= .row e' sz' (xs'.take n)) hid ?_ (fun j oj hj hne q hq=>by
        simp only [bl _ _ (cR hne)] at hj
        exact hR.apart id j _ oj dG hj (cR hne) q ((hblk q).1 hq))
       ·have heq:(St.new { env:=st.env,ob:=put st.ob id none } id (.row e' sz' (xs'.take n)))=st.new id (.row e' sz' (xs'.take n)):=by
         simp only [St.new,St.dm]
         congr 1
         funext k
         by_cases e':id=k
         ·subst e';simp [cu]
         ·simp only [bl _ _ e']
        rw [heq] at h2;exact hK _ _ _ _ (h2.set hd (sv:= .row id) (JM (by rw [hvv];rfl)))
       ·have hlen:(xs'.take n).length=n:=by simp;omega
        have MW:=sX hrc n;refine ⟨us.take (n *sz'),⟨by rw [dr MW],?_⟩,MW,fun q hq=> ?_⟩
        ·rw [cv,hlen,hvv]
         rcases hown.2 with ⟨e1,e2⟩|⟨q,cap,cur,e1,k1,k2,k3,k4,k5,k6⟩
         ·rw [hl10] at e1
          simp only [Value.slice.injEq] at e1;obtain ⟨rfl,rfl,rfl⟩:=e1;have:n=0:=by omega
          subst this;exact .inl ⟨rfl,rfl⟩
         ·rw [hl10] at e1
          simp only [Value.slice.injEq] at e1;obtain ⟨rfl,rfl,rfl⟩:=e1;refine .inr ⟨q,cp,cur,rfl,k1,k2,by omega,k4,k5,?_⟩;rw [←k6,List.take_take,zP (lN _ hnl)]
        ·rw [cv,hblk q] at hq
         exact ⟨(hok.block q hq).1,(hm q hq).2⟩
      ·rename_i Hi
       cases CL:r'.plain with
       |false=>rw [CL] at hv;cases hv
       |true=>
       simp only [CL,ai,aG] at hv;subst hv;have vD:mE w0.heap.size L μ' loc w' id (.row e' sz' xs'):=⟨us,hown,hrc,fun q hq=>⟨(hok.block q hq).1,(hm q hq).2⟩⟩
       have h2:=h1.addOb (id:=id) (o:= .row e' sz' xs') (by simp [cu]) vD (fun j oj hj q hq=>by
        by_cases e':id=j
        ·subst e';simp [cu] at hj
        ·simp only [bl _ _ e'] at hj
         exact hR.apart id j _ oj dG hj e' q hq)
       have heq:({ env:=st.env,ob:=put (put st.ob id none) id (some (.row e' sz' xs')) }:St)={ env:=st.env,ob:=put st.ob id (some (.row e' sz' xs')) }:=by
        congr 1
        funext k
        by_cases e':id=k
        ·subst e';simp [cu]
        ·simp only [bl _ _ e']
       rw [heq] at h2;exact hK _ _ _ _ (h2.set hd (hP.pure (Ny CL)))
   ·cases hv
  ·cases hv
 ·cases hv
theorem Qe {n0:Nat} {nst:List (Nat×Nat×TypeId×Nat)} {id:Nat} {e:TypeId} {sz:Nat} {loc:Nat→Value}:∃val,fM val= .slice none 0 0∧(∀g,¬jH val g)∧mE n0 L μ (r6 loc id val) w id (DN nst id e sz):=by
 have r:∃val,fM val= .slice none 0 0∧(∀g,¬jH val g)∧mE n0 L μ (r6 loc id val) w id (.row e sz []):=
  ⟨.slice none 0 0,rfl,fun g hg=>by simp [jH,bu] at hg,[],⟨by simp, .inl ⟨cv _ _ _,rfl⟩⟩,rfl,fun g hg=>by rw [cv] at hg;simp [jH,bu] at hg⟩
 unfold DN;split
 ·rename_i k e' s' _
  cases hk:Nat.blt k sz with
  |false=>exact r
  |true=>
   refine ⟨.tuple (.slice none 0 0::([]:List Value)).toArray,rfl,fun g hg=> ?_, .slice none 0 0,[],[],cv _ _ _,fun q hq=>(by simp [bu] at hq),⟨by simp, .inl ⟨rfl,rfl⟩⟩,rfl,⟨cr.mp hk,by simp⟩,rfl,rfl,by simp,by simp,by simp,by simp⟩;rcases jZ.1 hg with h|⟨u,hu,_⟩
   ·simp [bu] at h
   ·simp at hu
 ·exact r
theorem sP (hR:Rel N w0 μ0 L μ loc st a w) {nst:List (Nat×Nat×TypeId×Nat)}:∀(l:List (Nat×TypeId×Nat)) (st:St) (loc:Nat→Value),Rel N w0 μ0 L μ loc st a w→(∀x∈l,x.1<10000)→
  ∃loc',Rel N w0 μ0 L μ loc' (uF nst l st) a w∧(∀x∈l,fM (loc' x.1)= .slice none 0 0)∧∀i,fM (loc i)= .slice none 0 0→fM (loc' i)= .slice none 0 0
 |[],st,loc,h,_=>⟨loc,h,by simp,fun _ h=>h⟩
 |(id,e,s)::l,st,loc,h,hl=>by
  obtain ⟨val,hb,hin,hok⟩:=Qe (L:=L) (μ:=μ) (w:=w) (n0:=w0.heap.size) (nst:=nst) (id:=id) (e:=e) (sz:=s) (loc:=loc);have h1:=h.new (id:=id) (val:=val) (o:=DN nst id e s) (.inl (hl (id,e,s) (by simp))) hok (fun j oj hj _ g hg=>absurd hg (hin g));obtain ⟨loc',h2,h3,h4⟩:=sP hR l _ _ h1 (fun x hx=>hl x (by simp [hx]));refine ⟨loc',h2,fun x hx=> ?_,fun i hi=>h4 i ?_⟩
  ·rcases aD.1 hx with rfl|hx
   ·exact h4 _ (by rw [cv];exact hb)
   ·exact h3 x hx
  ·by_cases e:i=id
   ·subst e;rw [cv];exact hb
   ·rw [cE _ _ e];exact hi
theorem wv {d:Nat}:∀(j:Nat) (ts:List TypeId) (vs:List Value) (Pc:List SV) (l:List (Nat×TypeId×Nat)),uA P d j ts vs=some (Pc,l)→
  (∀x∈l,x.1<10000)∧(∀u∈vs,u.oneCell'=true)∧∀(loc:Nat→Value),(∀x∈l,fM (loc x.1)= .slice none 0 0)→iQ μ loc Pc vs
 |j,[],[],Pc,l,hv=>by
  simp only [uA,aG,br] at hv;obtain ⟨rfl,rfl⟩:=hv;exact ⟨by simp,by simp,fun _ _=>rfl⟩
 |j,[],_::_,Pc,l,hv=>by simp [uA] at hv
 |j,_::_,[],Pc,l,hv=>by simp [uA] at hv
 |j,t::ts,v::vs,Pc,l,hv=>by
  simp only [uA] at hv;split at hv
  ·rename_i svs' l' z8
   obtain ⟨i1,i2,i3⟩:=wv (j+1) ts vs svs' l' z8;split at hv
   ·rename_i e s hs
    cases hb:(Nat.blt 0 s&&Nat.blt (5000+16 *d+j) 10000) with
    |false=>rw [hb] at hv;cases hv
    |true=>
     simp only [hb,ai,aG,br] at hv;obtain ⟨rfl,rfl⟩:=hv;simp only [aF] at hb;have hlt:5000+16 *d+j<10000:=by have:=hb.2;simpa [cr] using this
     refine ⟨fun x hx=> ?_,fun u hu=> ?_,fun loc hl=> ?_⟩
     ·rcases aD.1 hx with rfl|hx
      ·exact hlt
      ·exact i1 x hx
     ·rcases aD.1 hu with rfl|hu
      ·rfl
      ·exact i2 u hu
     ·exact ⟨_,_,rfl,(by show _=fM (loc _);rw [hl (5000+16 *d+j,e,s) (by simp)]),i3 loc (fun x hx=>hl x (by simp [hx]))⟩
   ·simp only [bS,br] at hv
    obtain ⟨av,hc,rfl,rfl⟩:=hv;have hr:=vY (μ:=μ) hc;refine ⟨i1,fun u hu=> ?_,fun loc hl=>⟨_,_,rfl,hr,i3 loc hl⟩⟩;rcases aD.1 hu with rfl|hu
    ·unfold ofConst at hc
     split at hc<;>first|rfl|cases hc
    ·exact i2 u hu
  ·cases hv
theorem KQ (hR:Rel N w0 μ0 L μ loc st a w) {o:Oper} {d:Nat} {t:TypeId} {Pc:List SV} {l:List (Nat×TypeId×Nat)} (hd:d<N) (dc:o.dst=some d) (ho:o.op= .alloc t)
  (hz:((AT P t).bind fun vs=>uA P d 0 (vN P 8 t) vs)=some (Pc,l)) (hK:nk N w0 μ0 L (((uF h.nest l st).new d (.box t (Pc.map (SV.dm d)))).set (some d) (.ptr d 0)) K):o.uM P a w K Q:=by
 obtain ⟨vs,hvs,hcs⟩:=dw.1 hz;unfold AT at hvs;split at hvs
 ·rename_i i hi
  simp only [bS] at hvs;obtain ⟨v,hzv,rfl⟩:=hvs;obtain ⟨h1,h2,h3⟩:=wv (μ:=μ) 0 _ _ _ _ hcs;obtain ⟨loc',z6,h4,_⟩:=sP hR l st loc hR h1;refine DE (v:=v) z6 hd dc ?_ (Aw _ _ (h3 loc' h4)) h2 hK;unfold execOp;rw [ho];simp [Instr.alloc,zeroValue,typeInfo,hi,hzv,newVar,newRow]
 ·cases hvs
theorem Nw (hR:Rel N w0 μ0 L μ loc st a w) {s:SV} {l:List SV} {u:Value} (h:Uo st s=some l) (k:gy μ loc s u):iQ μ loc l u.cells.toList∧∀x∈u.cells.toList,x.oneCell'=true:=by
 unfold Uo at h;split at h
 ·injection h with h;subst h
  obtain ⟨vs,rfl,h1,h2⟩:=k;simp_all [Value.cells,rS]
 ·cases ho:rN st s with
  |false=>simp_all
  |true=>
   rw [ho] at h;simp at h;subst h;obtain ⟨h1,h2⟩:=Uk hR ho k;rw [h2];exact ⟨⟨_,[],rfl,k,rfl⟩,by simp_all⟩
theorem FW (hR:Rel N w0 μ0 L μ loc st a w) {place:Nat→Option (Nat×Nat)} {ty:Nat→TypeId}:∀{parts:List (Nat×Operand)} {ps:List (Nat×List SV)} {cells cs:List SV} {vs:List Value},D6 P ty st parts=some ps→P6 place cells ps=some cs→iQ μ loc cells vs→(∀u∈vs,u.oneCell'=true)→
  ∃ws:List Value,Instr.fill place vs.toArray (parts.map fun p=>(p.1,a.eval p.2))=some ws.toArray∧iQ μ loc cs ws∧∀u∈ws,u.oneCell'=true
 |[],ps,cells,cs,vs=>fun h1 h2 h3 h4=>by
  simp_all [D6,P6,Instr.fill]
 |(i,x)::parts,ps,cells,cs,vs=>fun h1 h2 h3 h4=>by
  simp [D6] at h1;split at h1
  ·rename_i l rest hx z8
   injection h1 with h1;subst h1
   obtain ⟨sx,hsx,hl⟩:=dw.1 hx;obtain ⟨hc,hone⟩:=Nw hR hl (aU hR hsx);simp only [P6] at h2;split at h2
   ·cases h2
   ·rename_i off size CL
    split at h2
    ·rename_i fU
     have hlen :=by
      have:=pY hc;simpa [fU.1] using this
     have hvl:=pY h3;have hnews:=pX (pX (CC h3 off) hc) (CB h3 (off+size))
     obtain ⟨ws,hw,hr,ho⟩:=FW hR z8 h2 hnews (fun u hu=>by
      grind)
     simp [aP,Instr.fill];have hsp:=Gz vs (a.eval x).cells.toList off 0 (by simp;omega)
     grind [Array.toList_zipIdx]
    simp_all
  simp_all
theorem Bx:∀{cs:List SV} {caps:List qm} {vs:List Value},Du st cs=some caps→iQ μ loc cs vs→kz μ loc caps vs
 |[],caps,vs=>fun h k=>by simp [Du,aG] at h;subst h;exact k
 |s::cs,caps,vs=>fun h ⟨u,us,e,k1,k2⟩=>by
  simp [Du] at h;split at h
  ·rename_i c rest hc z8
   injection h with h;subst h
   refine ⟨u,us,e,?_,Bx z8 k2⟩;unfold capOf at hc;cases ho:rN st s with
   |false=>simp_all
   |true=>
    rw [ho] at hc;split at hc
    ·injection hc with hc;subst hc;exact k1
    ·injection hc with hc;subst hc;exact k1
    simp_all
  grind
theorem KS (hR:Rel N w0 μ0 L μ loc st a w) {hh:Hint} {o:Oper} {d:Nat} {t:TypeId} {parts:Array (Nat×Operand)} (hd:d<N) (dc:o.dst=some d) (ho:o.op= .build t parts) (h:ES P hh st d t parts.toList=some st') (hK:nk N w0 μ0 L st' K):o.uM P a w K Q:=by
 unfold ES at h;split at h
 ·rename_i fs Pc l hu hz
  cases hfs:fs.toList.all (fun f=>(lq P f.type).isSome) with
  |false=>simp_all
  |true=>
   rw [hfs] at h;simp only [ai] at h;split at h
   ·rename_i ps hps
    split at h
    ·rename_i cs hcs
     injection h with h;subst h
     obtain ⟨sv2,hf,hca⟩:=dw.1 hcs;obtain ⟨vs,hvs,hcell⟩:=dw.1 hz;unfold AT at hvs;split at hvs
     ·rename_i i hi
      simp only [bS] at hvs;obtain ⟨v,hzv,rfl⟩:=hvs;obtain ⟨h1,h2,h3⟩:=wv 0 _ _ _ _ hcell;obtain ⟨loc',z6,h4,_⟩:=sP hR l _ _ hR h1;obtain ⟨ws,hw,hr,hone⟩:=FW z6 hps hf (h3 _ h4) h2;refine gO (v:= .agg ws.toArray) (w':=w) ?_ ?_
      ·obtain ⟨fl⟩:=fs
       have CL:=run_places (w:=w) _ hfs;have hpe:(fun x=>Option.map (fun f:Field=>(f.offset,(lq P f.type).getD 0)) fl[x]?)=oL P t:=by
        funext x
        simp [oL,vQ,hu,FK];cases hx:fl[x]? with
        |none=>rfl
        |some fd=>
         grind [Option.isSome_iff_exists]
       simp_all [execOp,Instr.build,zeroValue,typeInfo,bz]
      ·rw [dc]
       exact hK _ _ _ _ (z6.set (fun i hi=>by simp_all) ⟨ws,rfl,Bx hca hr,hone⟩)
     simp_all
    grind
   grind
 grind
theorem uZ:∀{l:List Nat},distinct l=true→l.Nodup
 |[],_=>List.nodup_nil
 |x::l,h=>by
  simp [distinct,aF] at h;refine fE.2 ⟨fun hm=> ?_,uZ h.2⟩;simp_all
theorem uN {α:Type}:∀{l:List (Nat×α)} {i:Nat} {v:α},find l i=some v→(i,v)∈l
 |[],_,_,h=>by simp [find] at h
 |(j,u)::l,i,v,h=>by
  simp [find] at h;cases hb:Nat.beq j i with
  |true=>simp_all
  |false=>simp [hb] at h;exact dW _ (uN h)
theorem Lr {α:Type}:∀{l:List (Nat×α)} {i:Nat},find l i=none→i∉l.map (·.1)
 |[],_,_=>by simp
 |(j,u)::l,i,h=>by
  simp [find] at h;cases hb:Nat.beq j i with
  |true=>simp_all
  |false=>
   simp [hb] at h;simp only [aP,aD,jx];exact ⟨fun e=>by simp_all,Lr h⟩
theorem pT {α:Type}:∀{l:List (Nat×α)} {i:Nat} {v:α},(l.map (·.1)).Nodup→(i,v)∈l→find l i=some v
 |[],_,_,_,h=>by simp at h
 |(j,u)::l,i,v,hn,h=>by
  simp at hn;simp [find];rcases aD.1 h with h|h
  ·simp_all
  ·have:j≠i:=fun e=>by simp_all
   rw [Zh this];exact pT hn.2 h
theorem tv (mv:Nat→Bool):∀(k:Nat) (l:List Nat),(jW mv k l).map (·.1)=l
 |_,[]=>rfl
 |k,id::l=>by simp [jW,tv mv (k+1) l]
theorem wH (mv:Nat→Bool):∀(k:Nat) (l:List Nat),k+l.length≤10000→∀p∈jW mv k l,(mv p.1=true→20000+k≤p.2)∧(mv p.1=false→10000+k≤p.2∧p.2<20000)
 |_,[],_,p,h=>by simp [jW] at h
 |k,id::l,hk,p,h=>by
  simp only [bg] at hk;simp only [jW,aD] at h;rcases h with rfl|h
  ·cases hm:mv id<;>simp [hm]<;>omega
  ·have:=wH mv (k+1) l (by omega) p h
   exact ⟨fun e=>by have:=this.1 e;omega,fun e=>by have:=this.2 e;omega⟩
theorem wG (mv:Nat→Bool):∀(k:Nat) (l:List Nat),k+l.length≤10000→((jW mv k l).map (·.2)).Nodup
 |_,[],_=>by simp [jW]
 |k,id::l,hk=>by
  simp only [bg] at hk;simp only [jW,aP,fE];refine ⟨fun hm=> ?_,wG mv (k+1) l (by omega)⟩;obtain ⟨p,hp,e⟩:=aB.1 hm;have:=wH mv (k+1) l (by omega) p hp;cases h1:mv p.1 with
  |true=>have h2:=this.1 h1;cases h3:mv id<;>simp [h3] at e<;>omega
  |false=>have h2:=this.2 h1;cases h3:mv id<;>simp [h3] at e<;>omega
theorem JY:∀(m:List (Nat×Nat)),(swap m).map (·.1)=m.map (·.2)
 |[]=>rfl
 |(a,b)::l=>by simp [swap,JY l]
theorem Jl:∀{m:List (Nat×Nat)} {a b:Nat},(a,b)∈m→(b,a)∈swap m
 |(x,y)::l,a,b,h=>by
  rcases aD.1 h with h|h
  ·injection h with h1 h2;subst h1;subst h2;simp [swap]
  ·simp only [swap];exact dW _ (Jl h)
theorem Au {loc loc':Nat→Value} {ρ:Nat→Nat} {names:List Nat} (hρ:∀j∈names,loc' (ρ j)=loc j):∀{cs:List qm} {vs:List Value},SV.closed names (.cl 0 cs)=true→kz μ loc cs vs→kz μ loc' (cs.map (qm.tL ρ)) vs
 |[],vs,_,h=>h
 |c::cs,vs,hc,⟨u,us,e,h1,h2⟩=>by
  simp only [SV.closed,gU,aF] at hc;refine ⟨u,us,e,?_,Au hρ (by simpa [SV.closed] using hc.2) h2⟩;cases c with
  |v a=>exact h1
  |p id=>obtain ⟨b,k1,k2⟩:=h1;exact ⟨b,by rw [hρ id (by simpa using hc.1)];exact k1,k2⟩
  |r id=>show u=fM (loc' (ρ id));rw [hρ id (by simpa using hc.1)];exact h1
theorem RD {loc loc':Nat→Value} {ρ:Nat→Nat} {names:List Nat} (hρ:∀j∈names,loc' (ρ j)=loc j) {s:SV} {v:Value} (hc:s.closed names=true) (h:gy μ loc s v):gy μ loc' (s.tL ρ) v:=by
 induction s generalizing v with
 |two s b ih=>obtain ⟨x,e,h⟩:=h;exact ⟨x,e,ih (by simpa [SV.closed] using hc) h⟩
 |undef=>exact h
 |any=>exact h
 |pv x=>exact h
 |cp cs=>exact h
 |ptr j off=>obtain ⟨b,h1,h2⟩:=h;exact ⟨b,by rw [hρ j (by simpa [SV.closed] using hc)];exact h1,h2⟩
 |row j=>show v=fM (loc' (ρ j));rw [hρ j (by simpa [SV.closed] using hc)];exact h
 |rp j sz i off=>obtain ⟨g,n,c,h1,h2⟩:=h;exact ⟨g,n,c,by rw [hρ j (by simpa [SV.closed] using hc)];exact h1,h2⟩
 |sub j sz lo hi=>obtain ⟨A,n,c,A',c',h1,h2⟩:=h;exact ⟨A,n,c,A',c',by rw [hρ j (by simpa [SV.closed] using hc)];exact h1,h2⟩
 |cl f caps=>obtain ⟨vs,e,h1⟩:=h;exact ⟨vs,e,Au hρ (by simpa [SV.closed] using hc) h1⟩
 |ag caps=>obtain ⟨vs,e,h1,h2⟩:=h;exact ⟨vs,e,Au hρ (by simpa [SV.closed] using hc) h1,h2⟩
 | «at» j q=>simp [SV.closed] at hc
theorem Fl {loc loc':Nat→Value} {ρ:Nat→Nat} {names:List Nat} (hρ:∀j∈names,loc' (ρ j)=loc j):∀{cs:List SV} {vs:List Value},cs.all (SV.closed names)=true→iQ μ loc cs vs→iQ μ loc' (cs.map (SV.tL ρ)) vs
 |[],vs,_,h=>h
 |c::cs,vs,hc,⟨u,us,e,h1,h2⟩=>by
  simp only [gU,aF] at hc;exact ⟨u,us,e,RD hρ hc.1 h1,Fl hρ hc.2 h2⟩
theorem Jw {n0 n0':Nat} {L L':sq} {loc loc':Nat→Value} {ρ:Nat→Nat} {names:List Nat} (hρ:∀j∈names,loc' (ρ j)=loc j) {id id':Nat} {o:Ob} (hc:o.closed names=true) (h:mE n0 L μ loc w id o) (hid:loc' id'=loc id)
  (hown:∀b,jH (loc id) b→Fh n0' L' id' b) (hq:L'.q=L.q:=by rfl):mE n0' L' μ loc' w id' (o.tL ρ):=by
 cases o with
 |box t cells=>
  obtain ⟨b,vs,hl,ho,hh,hm,hs,h1⟩:=h;exact ⟨b,vs,by simp_all,hown b (by rw [hl];exact qy.2 rfl),hh,hm,Fl hρ hc hs,h1⟩
 |row e sz xs=>
  obtain ⟨vs,hw,hrc,hm⟩:=h;exact ⟨vs,by simp_all,hrc,fun g hg=>by simp_all⟩
 |mp k e ks es=>
  obtain ⟨b,cN,clock,hl,ho,hh,hm,h1,h2,hB⟩:=h;exact ⟨b,_,_,by simp_all,hown b (by rw [hl];exact uC.2 rfl),hh,hm,h1,h2,hB⟩
 |mr k e sz ks vs=>simp [Ob.closed] at hc
 |rn e s k e' s' xs ys=>simp [Ob.closed] at hc
 |it s pos=>
  obtain ⟨b,hl,ho,hh,hm⟩:=h;exact ⟨b,by simp_all,hown b (by rw [hl];exact qy.2 rfl),hh,hm⟩
 |lp xs=>
  obtain ⟨us,hl,h1,h2⟩:=h;exact ⟨us,by simp_all,fun g hg=>by simp_all,by simp_all⟩
theorem Ec {tm:Nat→Option Value}:∀(l:List Nat) (st:St) (loc qf:Nat→Value),(∀i,i∉l→qf i=loc i)→(∀i s,st.env i=some s→∃v,tm i=some v∧gy μ loc s v)→∀i s,(kQ l st).env i=some s→∃v,tm i=some v∧gy μ qf s v
 |[],st,loc,qf,hl,h,i,s,hs=>by
  have :=funext fun i=>hl i (by simp)
  rw [this];exact h i s hs
 |id::l,st,loc,qf,hl,h,i,s,hs=>by
  refine Ec l _ (r6 loc id (qf id)) _ (fun i hi=> ?_) (fun i s hs=> ?_) i s hs
  ·grind [cv,cE]
  ·simp [St.dm,bS] at hs
   grind [yT]
theorem Gm:∀(l:List Nat) (st:St) (loc qf:Nat→Value),(∀i,i∉l→qf i=loc i)→∀i o',(kQ l st).ob i=some o'→i∉l∧∃o,st.ob i=some o∧∀n0 L μ w,mE n0 L μ loc w i o→mE n0 L μ qf w i o'
 |[],st,loc,qf,hl,i,o',ho=>by
  have :=funext fun i=>hl i (by simp)
  rw [this];exact ⟨by simp,o',ho,fun _ _ _ _ h=>h⟩
 |id::l,st,loc,qf,hl,i,o',ho=>by
  obtain ⟨h1,o1,h2,h3⟩:=Gm l _ (r6 loc id (qf id)) qf (fun i hi=>by
   grind [cv,cE]) i _ ho
  by_cases e:id=i
  ·simp_all [St.dm,cu]
  ·simp [St.dm,bl _ _ e,bS] at h2
   obtain ⟨o,ho,rfl⟩:=h2;exact ⟨by grind,o,ho,fun n0 L μ w h=>h3 _ L _ w (Cv h (cR e))⟩
theorem Dm (hR:Rel N w0 μ0 L μ loc st a w):∀{xs:List Operand} {ts:List TypeId} {vs:List SV},tM P h st xs ts=some vs→iQ μ loc vs (xs.map a.eval)
 |[],ts,vs,hv=>by simp [tM,aG] at hv;subst hv;rfl
 |x::xs,ts,vs,hv=>by
  simp [tM] at hv;split at hv
  ·rename_i v vs' h1 h2
   injection hv with hv;subst hv
   refine ⟨_,_,rfl,?_,Dm hR h2⟩;unfold Zf at h1
   all_goals first
    |grind [aU]
    |cases h1
    |(cases hb:isRef h x with
      |false=>simp_all
      |true=>grind [aU])
  simp_all
theorem BF {ids:List Nat} {ρ:Nat→Nat}:∀{l:List (Nat×Nat)} {cD:List (Nat×Ob)},lU st ids ρ l=some cD→cD.map (·.1)=l.map (·.2)∧∀nm o',(nm,o')∈cD→∃id o,(id,nm)∈l∧st.ob id=some o∧o.closed ids=true∧o'=o.tL ρ
 |[],cD,hv=>by simp_all [lU]
 |(id,nm)::l,cD,hv=>by
  simp [lU] at hv;split at hv
  ·rename_i o os ho hos
   cases hc:o.closed ids with
   |false=>simp_all
   |true=>
    obtain ⟨h1,h2⟩:=BF hos
    grind
  simp_all
theorem Bw {names:List Nat} {ρ:Nat→Nat}:∀{l:List (Nat×Nat)} {cD back:List (Nat×Ob)},oq names ρ l cD=some back→cD.map (·.1)=l.map (·.2)∧back.map (·.1)=l.map (·.1)∧∀id o',(id,o')∈back→∃nm o,(id,nm)∈l∧(nm,o)∈cD∧o.closed names=true∧o'=o.tL ρ
 |[],[],back,hv=>by simp_all [oq]
 |[],_::_,back,hv=>by simp [oq] at hv
 |_::_,[],back,hv=>by simp [oq] at hv
 |(id,nm)::l,(V7,o)::os,back,hv=>by
  simp [oq] at hv;cases hb:(Nat.beq nm V7&&o.closed names) with
  |false=>simp_all
  |true=>
   simp [hb,ai,bS] at hv;obtain ⟨r,hr,rfl⟩:=hv;simp only [aF] at hb;have:=beq_iff.1 hb.1;obtain ⟨h1,h2,h3⟩:=Bw hr
   grind
theorem zX (hR:Rel N w0 μ0 L μ loc st a w) (iO:ga L.q μ0 P bM) {o:Oper} {c:Call} {f:Operand} {st1:St} (hd:∀i,o.dst=some i→i<N) (ho:o.op= .call c) (hc:c.callee= .value f)
  (hv:jL P h bM st c f o.dst=some st1) (hK:nk N w0 μ0 L st1 K):o.uM P a w K Q:=by
 unfold jL at hv;split at hv
 ·rename_i g pre caps vs hf hvs
  simp only [] at hv;generalize Cj:kL st 200 ((pre++(vs++caps)).flatMap SV.ids) []=ids at hv;generalize vB:lV (o.dst.any h.stay.contains) st (qi (pre++(vs++caps)))=mv at hv;generalize hm:jW mv 0 ids=m at hv;cases fU:(distinct ids&&Nat.blt ids.length 10000&&(pre++(vs++caps)).all (SV.closed ids)) with
  |false=>rw [fU] at hv;cases hv
  |true=>
  simp only [fU,ai] at hv;simp only [aF] at fU;obtain ⟨⟨hdis,hlen⟩,hclo⟩:=fU;have hlen:ids.length<10000:=by simpa [cr] using hlen
  have hnd:=uZ hdis;have Vy:m.map (·.1)=ids:=by rw [←hm];exact tv _ _ _
  have hrange:∀p∈m,(mv p.1=true→20000≤p.2)∧(mv p.1=false→10000≤p.2∧p.2<20000):=by
   rw [←hm];intro p hp;have:=wH mv 0 ids (by omega) p hp;exact ⟨fun e=>by have:=this.1 e;omega,fun e=>by have:=this.2 e;omega⟩
  have hnn:(m.map (·.2)).Nodup:=by rw [←hm];exact wG mv 0 ids (by omega)
  have og:∀id nm,(id,nm)∈m→find m id=some nm:=fun id nm hp=>pT (by rw [Vy];exact hnd) hp
  have hswap:∀id nm,(id,nm)∈m→find (swap m) nm=some id:=fun id nm hp=>pT (by rw [JY];exact hnn) (Jl hp)
  have hex:∀id∈ids,∃nm,(id,nm)∈m:=fun id hid=>by
   rw [←Vy] at hid;obtain ⟨p,hp,rfl⟩:=aB.1 hid;exact ⟨p.2,hp⟩
  let uD:Nat→Value:=fun nm=>match find (swap m) nm with
   |some id=>loc id
   |none=>loc nm
  have FZ:∀id nm,(id,nm)∈m→uD nm=loc id:=fun id nm hp=>by simp only [uD,hswap id nm hp]
  have hren:∀id nm,(id,nm)∈m→qS m id=nm:=fun id nm hp=>by simp [qS,og id nm hp]
  have hren2:∀id nm,(id,nm)∈m→qS (swap m) nm=id:=fun id nm hp=>by simp [qS,hswap id nm hp]
  have hρ:∀j∈ids,uD (qS m j)=loc j:=fun j hj=>by
   obtain ⟨nm,hp⟩:=hex j hj;rw [hren j nm hp,FZ j nm hp]
  split at hv
  ·rename_i cD zf
   obtain ⟨hl1,IY⟩:=BF zf;have hlnd:(cD.map (·.1)).Nodup:=by rw [hl1];exact hnn
   split at hv
   ·rename_i r gm hr
    split at hv
    ·rename_i back wU
     obtain ⟨MP,KW,hb3⟩:=Bw wU;have hbnd:(gm.map (·.1)).Nodup:=by rw [MP];exact hnn
     have hbid:back.map (·.1)=ids:=by rw [KW,Vy]
     cases Hi:r.kN with
     |false=>rw [Hi] at hv;cases hv
     |true=>
     simp only [Hi,ai,aG] at hv;subst hv;obtain ⟨sf,hsf,hfn⟩:=dw.1 hf;have hfv:=aU hR hsf;obtain ⟨ps,cs,hps,hcs,XK⟩:∃ps cs:List Value,iQ μ loc pre ps∧iQ μ loc caps cs∧((g<2000000∧a.eval f= .func (.func g) ps.toArray cs.toArray)∨(2000000≤g∧ps=[]∧∃v,cs=[v]∧a.eval f=clV g [v])):=by
      unfold fnSV at hfn;split at hfn
      ·rename_i g' Vc
       cases hb:Nat.blt g' 1000000 with
       |false=>rw [hb] at hfn;cases hfn
       |true=>
       rw [hb] at hfn;simp only [ai,aG,br] at hfn;obtain ⟨rfl,rfl,rfl⟩:=hfn;simp only [gy,rep] at hfv;obtain ⟨us,e,hu⟩:=hfv;exact ⟨[],us,rfl,rS hu, .inl ⟨eX (cr.mp hb) (by decide),e⟩⟩
      ·rename_i g' Vc
       obtain ⟨us,e,hu⟩:=hfv;cases hb:Nat.blt g' 1000000 with
       |true=>
        rw [hb] at hfn;simp only [ai,aG,br] at hfn;obtain ⟨rfl,rfl,rfl⟩:=hfn;exact ⟨[],us,rfl,sA hu, .inl ⟨eX (cr.mp hb) (by decide),by rw [e];simp only [clV,hb,ai]⟩⟩
       |false=>
        rw [hb] at hfn;simp only [aj] at hfn;cases KW:Nat.blt g' 2000000 with
        |true=>
         rw [KW] at hfn;simp only [ai,aG,br] at hfn;obtain ⟨rfl,rfl,rfl⟩:=hfn;exact ⟨us,[],sA hu,rfl, .inl ⟨jw (Nat.sub_le _ _) (cr.mp KW),by rw [e];simp only [clV,hb,KW,ai,aj]⟩⟩
        |false=>
         rw [KW] at hfn;simp only [aj] at hfn;split at hfn
         ·rename_i c0
          simp only [aG,br] at hfn;obtain ⟨rfl,rfl,rfl⟩:=hfn;obtain ⟨u,us',e1,h1,h2⟩:=hu;have:us'=[]:=h2;subst this e1;refine ⟨[],[u],rfl,sA (caps:=[c0]) ⟨u,[],rfl,h1,rfl⟩, .inr ⟨?_,rfl,u,rfl,e⟩⟩;cases Nat.lt_or_ge g' 2000000 with
          |inl h=>rw [cr.mpr h] at KW;cases KW
          |inr h=>exact h
         ·cases hfn
      ·cases hfn
     have hargs:=Dm hR hvs;have hall:=Fl hρ hclo (pX hps (pX hargs hcs));have yG:∀i oi,find cD i=some oi→mE w.heap.size (jV L.q uD (cD.map (·.1))) μ uD w i oi:=by
      intro i oi hi;obtain ⟨id,ob,hp,dG,hoc,rfl⟩:=IY i oi (uN hi);refine Jw hρ hoc (hR.obs id _ dG) (FZ id i hp) (fun b hb=> .inr ⟨loc id,?_,hb⟩);have:i∈cD.map (·.1):=by rw [hl1];exact aB.2 ⟨_,hp,rfl⟩
      simp only [jV,au this,FZ id i hp]
     have hapC:UY uD cD:=by
      intro i j oi oj hi hj hij q hq;obtain ⟨id,ob,hp,dG,_⟩:=IY i oi (uN hi);obtain ⟨id',ob',hp',vD,_⟩:=IY j oj (uN hj);rw [FZ id i hp] at hq;rw [FZ id' j hp'];refine hR.apart id id' ob ob' dG vD (fun e=>hij ?_) q hq;subst e;have:=(og id i hp).symm.trans (og id j hp');injection this
     have hgo:(∀v w',(∃μ' loc',gd L.q μ uD (cD.map (·.1)) r gm w v μ' loc' w')→K (a.put o.dst v) w')→o.uM P a w K Q:=fun hK'=>by
      rcases iO g _ _ r _ hr w μ uD (ps++(c.args.toList.map a.eval++cs)) hR.base.1 hR.uI yG hapC hall with ⟨hg,he,hC⟩|⟨hg,_,as,v0,qW,hY⟩
      ·rcases XK with ⟨_,XK⟩|⟨hg2,_⟩
       ·refine acT (R:=fun v w'=>∃μ' loc',gd L.q μ uD (cD.map (·.1)) r gm w v μ' loc' w') ho hc XK rfl he (hC.mono ?_) hK'
        rintro e w' ⟨v,μ',loc',rfl,hP⟩
        exact ⟨v,rfl,μ',loc',hP⟩
       ·omega
      ·rcases XK with ⟨hg2,_⟩|⟨_,rfl,v1,rfl,XK⟩
       ·omega
       ·rw [dU] at qW
        obtain ⟨e1,e2⟩:=List.append_inj' qW rfl;simp only [dz,fO] at e2;subst e1 e2;rw [←XK] at hY;refine acU (R:=fun v w'=>∃μ' loc',gd L.q μ uD (cD.map (·.1)) r gm w v μ' loc' w') ho hc (hY.mono ?_) hK'
        rintro e w' ⟨v,μ',loc',rfl,hP⟩
        exact ⟨v,rfl,μ',loc',hP⟩
     refine hgo ?_
     rintro v w' ⟨μ',loc',hP⟩
     let qf:Nat→Value:=fun i=>match find m i with
      |some nm=>loc' nm
      |none=>loc i
     have XH:∀id nm,(id,nm)∈m→qf id=loc' nm:=fun id nm hp=>by simp only [qf,og id nm hp]
     have Vt:∀i,i∉ids.filter mv→qf i=loc i:=by
      intro i hi;cases Vw:find m i with
      |none=>simp only [qf,Vw]
      |some nm=>
       have hp:=uN Vw;have hmem:i∈ids:=by rw [←Vy];exact aB.2 ⟨_,hp,rfl⟩
       have hmv0:mv i=false:=by
        cases hx:mv i with
        |false=>rfl
        |true=>exact absurd (cL.2 ⟨hmem,hx⟩) hi
       rw [XH i nm hp,hP.fix nm (by rw [hl1];exact aB.2 ⟨_,hp,rfl⟩) ((hrange _ hp).2 hmv0).2];exact FZ i nm hp
     have hlb:∀b,LB (jV L.q uD (cD.map (·.1))) b→∃id ob,id∈ids∧st.ob id=some ob∧jH (loc id) b:=by
      rintro b ⟨nm,x,hx,Sb⟩
      simp only [jV] at hx;split at hx
      ·rename_i hmem
       injection hx with hx;subst hx
       rw [hl1] at hmem;obtain ⟨p,hp,rfl⟩:=aB.1 hmem;rw [FZ p.1 p.2 hp] at Sb;obtain ⟨q,hq,e⟩:=aB.1 (show p.2∈cD.map (·.1) by rw [hl1];exact aB.2 ⟨_,hp,rfl⟩);obtain ⟨id,ob,k1,k2,_⟩:=IY q.1 q.2 hq;rw [e] at k1;have:=(hswap p.1 p.2 hp).symm.trans (hswap id p.2 k1);injection this with this
       exact ⟨p.1,ob,by rw [←Vy];exact aB.2 ⟨_,hp,rfl⟩,by rw [this];exact k2,Sb⟩
      ·cases hx
     have holdob:∀i oi,st.ob i=some oi→i∉ids→mE w0.heap.size L μ' loc w' i oi:=by
      intro i oi hi hni;refine (hR.obs i oi hi).keep hP.ext.1 (fun b hb=> ?_);obtain ⟨_,hlt,tR⟩:=(hR.obs i oi hi).block b hb;refine ⟨hP.keep b hlt (fun hl=> ?_),fun j=> ?_⟩
      ·obtain ⟨id,ob,h1,h2,h3⟩:=hlb b hl
       exact hR.apart id i ob oi h2 hi (fun e=>hni (by rw [←e];exact h1)) b h3 hb
      ·cases hj:μ' b j with
       |none=>rfl
       |some x=>
        rcases hP.ext.2 b j x hj with hx|hx
        ·rw [tR j] at hx;cases hx
        ·omega
     have hback':∀id o',find back id=some o'→∃nm o,(id,nm)∈m∧find gm nm=some o∧o.closed (m.map (·.2))=true∧o'=o.tL (qS (swap m)):=by
      intro id o' Hg;obtain ⟨nm,o,h1,h2,h3,h4⟩:=hb3 id o' (uN Hg);exact ⟨nm,o,h1,pT hbnd h2,h3,h4⟩
     have Qo:∀id nm ob b,(id,nm)∈m→find gm nm=some ob→jH (loc' nm) b→w.heap.size≤b∨jH (loc id) b:=by
      intro id nm ob b hp hfo hb;rcases ((hP.obs nm ob hfo).block b hb).1 with hx|⟨x,hx,Sb⟩
      ·exact .inl hx
      ·right
       simp only [jV] at hx;split at hx
       ·injection hx with hx;subst hx;rw [FZ id nm hp] at Sb;exact Sb
       ·cases hx
     have hobin:∀id nm,(id,nm)∈m→∃ob,st.ob id=some ob:=by
      intro id nm hp;obtain ⟨q,hq,e⟩:=aB.1 (show nm∈cD.map (·.1) by rw [hl1];exact aB.2 ⟨_,hp,rfl⟩);obtain ⟨id',ob,k1,k2,_⟩:=IY q.1 q.2 hq;rw [e] at k1;have:=(hswap id nm hp).symm.trans (hswap id' nm k1);injection this with this
      exact ⟨ob,by rw [this];exact k2⟩
     have Vz:∀i oi,((find back i).orElse fun _=>(kQ (ids.filter mv) st).ob i)=some oi→mE w0.heap.size L μ' qf w' i oi∧((∃nm o,(i,nm)∈m∧find gm nm=some o)∨(i∉ids∧∃o,st.ob i=some o)):=by
      intro i oi hi;cases Hg:find back i with
      |some o'=>
       rw [Hg] at hi;simp at hi;subst hi;obtain ⟨nm,ob,hp,hfo,GR,rfl⟩:=hback' i o' Hg;refine ⟨Jw (names:=m.map (·.2)) (fun j hj=> ?_) GR (hP.obs nm ob hfo) (XH i nm hp) (fun b hb=> ?_), .inl ⟨nm,ob,hp,hfo⟩⟩
       ·obtain ⟨q,hq,rfl⟩:=aB.1 hj
        rw [hren2 q.1 q.2 hq,XH q.1 q.2 hq]
       ·rcases Qo i nm ob b hp hfo hb with hx|hx
        ·exact .inl (dB hR.grown hx)
        ·obtain ⟨ob0,hob0⟩:=hobin i nm hp
         exact ((hR.obs i ob0 hob0).block b hx).1
      |none=>
       rw [Hg] at hi;have hni:i∉ids:=by rw [←hbid];exact Lr Hg
       have hi':(kQ (ids.filter mv) st).ob i=some oi:=by simpa using hi
       obtain ⟨_,ob,dG,hk⟩:=Gm _ st loc qf Vt i oi hi';exact ⟨hk _ _ _ _ (holdob i ob dG hni), .inr ⟨hni,ob,dG⟩⟩
     refine hK _ _ μ' qf (Rel.set (sv:= .pv r) ?_ hd (hP.pure Hi));refine ⟨hR.small,hR.names,?_,hR.size,hR.defers,?_,hP.uI,⟨hR.base.1.trans hP.ext.1,?_⟩,fun i oi hi=>(Vz i oi hi).1,?_,?_,hP.os.trans hR.os,hP.tape.trans hR.tape,hP.output.trans hR.output,dB hR.grown hP.grown,fun q=>dB (hR.drawn q) (hP.drawn q)⟩
     ·intro id x hx hlt
      rw [Vt id (fun hmem=> ?_)]
      ·exact hR.fix id x hx hlt
      ·have hmt:=(cL.1 hmem).2
       rw [←vB] at hmt;simp only [lV,aF,iT,eY] at hmt;rcases hmt.1.1.2 with hh|hh
       ·have:id<10000:=by simpa [cr] using hh
        rw [hR.names id this] at hx;cases hx
       ·have:=cV hh.1;omega
     ·exact Ec (tm:=fun i=>a.tmps[i]?) _ st loc qf Vt (fun i s hs=>by
       obtain ⟨u,hu,hr⟩:=hR.env i s hs
       exact ⟨u,hu,Fk hP.ext.1 hr⟩)
     ·intro b j x hx
      rcases hP.ext.2 b j x hx with hx|hx
      ·exact hR.base.2 b j x hx
      ·exact .inr (dB hR.grown hx)
     ·intro i j oi oj hi hj hij q hq
      have Um:∀k ok,k∉ids→st.ob k=some ok→∀q,jH (qf k) q→jH (loc k) q∧q<w.heap.size:=by
       intro k ok hk hok q hq;have:qf k=loc k:=Vt k (fun hm=>hk (cL.1 hm).1);rw [this] at hq;exact ⟨hq,((hR.obs k ok hok).block q hq).2.1⟩
      have mixed:∀i nm o j oj q,(i,nm)∈m→find gm nm=some o→j∉ids→st.ob j=some oj→jH (qf i) q→jH (qf j) q→False:=by
       intro i nm o j oj q hp hfo hj hoj hqi Lx;obtain ⟨hqj',hlt⟩:=Um j oj hj hoj q Lx;rw [XH i nm hp] at hqi;rcases Qo i nm o q hp hfo hqi with hx|hx
       ·omega
       ·obtain ⟨ob0,hob0⟩:=hobin i nm hp
        exact hR.apart i j ob0 oj hob0 hoj (fun e=>hj (by rw [←e,←Vy];exact aB.2 ⟨_,hp,rfl⟩)) q hx hqj'
      rcases (Vz i oi hi).2 with ⟨nm,o,hp,hfo⟩|⟨hni,ob,dG⟩
      ·rcases (Vz j oj hj).2 with ⟨V7,o',hp',hfo'⟩|⟨hnj,ob',vD⟩
       ·rw [XH i nm hp] at hq
        rw [XH j V7 hp'];refine hP.apart nm V7 o o' hfo hfo' (fun e=>hij ?_) q hq;subst e;have:=(hswap i nm hp).symm.trans (hswap j nm hp');injection this
       ·exact fun Lx=>mixed i nm o j ob' q hp hfo hnj vD hq Lx
      ·rcases (Vz j oj hj).2 with ⟨V7,o',hp',hfo'⟩|⟨hnj,ob',vD⟩
       ·exact fun Lx=>mixed j V7 o' i ob q hp' hfo' hni dG Lx hq
       ·obtain ⟨hqi,_⟩:=Um i ob hni dG q hq
        intro Lx;obtain ⟨Lx,_⟩:=Um j ob' hnj vD q Lx;exact hR.apart i j ob ob' dG vD hij q hqi Lx
     ·intro b hb hl
      refine (hP.keep b (eX hb hR.grown) (fun hl'=> ?_)).trans (hR.keep b hb hl);obtain ⟨id,ob,_,h2,h3⟩:=hlb b hl';rcases ((hR.obs id ob h2).block b h3).1 with hx|⟨x,hx,Sb⟩
      ·omega
      ·exact hl ⟨id,x,hx,Sb⟩
    ·cases hv
   ·cases hv
  ·cases hv
 ·cases hv
mutual
theorem AV.rX:∀(a b:AV),AV.same a b=true→a=b
 | .bool a,b=>by cases b<;>simp [AV.same]
 | .int k a,b=>by cases b<;>simp [AV.same]
 | .str a,b=>by cases b<;>simp [AV.same]
 | .eH s xs,b=>by
  cases b<;>simp only [AV.same,aF,cW,nt]
  rintro ⟨h1,h2⟩
  rw [beq_iff.1 h1,AG _ _ h2]
 | .agg a,b=>by
  cases b<;>simp only [AV.same,cW,nt];intro h;rw [nW _ _ h]
 | .fn f a,b=>by
  cases b<;>simp only [AV.same,aF,cW,nt]
  rintro ⟨h1,h2⟩
  rw [beq_iff.1 h1,nW _ _ h2]
 | .mu a,b=>by
  cases b<;>simp only [AV.same,cW,nt];intro h;rw [nW _ _ h]
 | .ref a,b=>by
  cases b<;>simp only [AV.same,cW,nt];intro h;rw [nW _ _ h]
 | .mp a b,c=>by
  cases c<;>simp only [AV.same,aF,cW,nt]
  rintro ⟨h1,h2⟩
  rw [nW _ _ h1,nW _ _ h2]
 | .self n,b=>by
  cases b<;>simp only [AV.same,cW,nt];intro h;rw [beq_iff.1 h]
 | .DZ,b=>by cases b<;>simp [AV.same]
 | .rK,b=>by cases b<;>simp [AV.same]
 | .hole,b=>by cases b<;>simp [AV.same]
theorem nW:∀(a b:List AV),rV a b=true→a=b
 |[],[]=>fun _=>rfl
 |[],_::_=>fun h=>by simp [rV] at h
 |_::_,[]=>fun h=>by simp [rV] at h
 |x::l,y::m=>fun h=>by
  simp only [rV,aF] at h;rw [AV.rX x y h.1,nW l m h.2]
theorem AG:∀(a b:List (List AV)),AF a b=true→a=b
 |[],[]=>fun _=>rfl
 |[],_::_=>fun h=>by simp [AF] at h
 |_::_,[]=>fun h=>by simp [AF] at h
 |x::l,y::m=>fun h=>by
  simp only [AF,aF] at h;rw [nW x y h.1,AG l m h.2]
end
mutual
theorem AV.mQ:∀a:AV,AV.same a a=true
 | .bool a=>by simp [AV.same]
 | .int k a=>by simp [AV.same]
 | .str a=>by simp [AV.same]
 | .eH s xs=>by simp [AV.same,fS,yW xs]
 | .agg a=>by simp [AV.same,mj a]
 | .fn f a=>by simp [AV.same,fS,mj a]
 | .mu a=>by simp [AV.same,mj a]
 | .ref a=>by simp [AV.same,mj a]
 | .mp a b=>by simp [AV.same,mj a,mj b]
 | .self n=>by simp [AV.same,fS]
 | .DZ=>by simp [AV.same]
 | .rK=>by simp [AV.same]
 | .hole=>by simp [AV.same]
theorem mj:∀a:List AV,rV a a=true
 |[]=>rfl
 |x::l=>by simp [rV,AV.mQ x,mj l]
theorem yW:∀a:List (List AV),AF a a=true
 |[]=>rfl
 |x::l=>by simp [AF,mj x,yW l]
end
theorem qm.rX {a b:qm} (h:a.same b=true):a=b:=by
 cases a<;>cases b<;>simp [qm.same,cW] at h
 ·rw [AV.rX _ _ h]
 ·simp_all
 simp_all
theorem qm.mQ (a:qm):a.same a=true:=by
 cases a<;>simp [qm.same,AV.mQ,fS]
theorem AD:∀{a b:List qm},rW a b=true→a=b
 |[],[]=>fun _=>rfl
 |[],_::_=>fun h=>by simp [rW] at h
 |_::_,[]=>fun h=>by simp [rW] at h
 |x::l,y::m=>fun h=>by
  simp only [rW,aF] at h;rw [qm.rX h.1,AD h.2]
theorem BT:∀a:List qm,rW a a=true
 |[]=>rfl
 |x::l=>by simp [rW,qm.mQ x,BT l]
theorem Ak.rX {a b:Ak} (h:a.same b=true):a=b:=by
 cases a<;>cases b<;>simp only [Ak.same,cW] at h
 ·rfl
 ·rw [beq_iff.1 h]
theorem Ak.mQ (a:Ak):a.same a=true:=by
 cases a<;>simp [Ak.same,fS]
theorem SV.rX {a b:SV} (h:a.same b=true):a=b:=by
 induction a generalizing b with
 |two s x ih=>
  cases b<;>simp only [SV.same,aF,cW] at h;rw [ih h.1,fu.1 h.2]
 |undef=>cases b<;>simp only [SV.same,cW] at h;rfl
 |any=>cases b<;>simp only [SV.same,cW] at h;rfl
 |pv x=>cases b<;>simp only [SV.same,cW] at h;rw [AV.rX _ _ h]
 |ptr x y=>cases b<;>simp only [SV.same,aF,cW] at h;rw [beq_iff.1 h.1,beq_iff.1 h.2]
 |row x=>cases b<;>simp only [SV.same,cW] at h;rw [beq_iff.1 h]
 |rp x y z u=>cases b<;>simp only [SV.same,aF,cW] at h;rw [beq_iff.1 h.1.1.1,beq_iff.1 h.1.1.2,beq_iff.1 h.1.2,beq_iff.1 h.2]
 |sub x y z u=>cases b<;>simp only [SV.same,aF,cW] at h;rw [beq_iff.1 h.1.1.1,beq_iff.1 h.1.1.2,beq_iff.1 h.1.2,beq_iff.1 h.2]
 |cp x=>cases b<;>simp only [SV.same,cW] at h;rw [nW _ _ h]
 |cl f x=>cases b<;>simp only [SV.same,aF,cW] at h;rw [beq_iff.1 h.1,AD h.2]
 |ag x=>cases b<;>simp only [SV.same,cW] at h;rw [AD h]
 | «at» x y=>cases b<;>simp only [SV.same,aF,cW] at h;rw [beq_iff.1 h.1,Ak.rX h.2]
theorem SV.mQ (a:SV):a.same a=true:=by
 induction a<;>simp [SV.same,AV.mQ,fS,mj,BT,Ak.mQ, *]
theorem JS:∀{a b:List SV},wg a b=true→a=b
 |[],[]=>fun _=>rfl
 |[],_::_=>fun h=>by simp [wg] at h
 |_::_,[]=>fun h=>by simp [wg] at h
 |x::l,y::m=>fun h=>by
  simp only [wg,aF] at h;rw [SV.rX h.1,JS h.2]
theorem El:∀a:List SV,wg a a=true
 |[]=>rfl
 |x::l=>by simp [wg,SV.mQ x,El l]
theorem Bh:∀{a b:List (Option (List (List AV)))},qJ a b=true→a=b
 |[],[]=>fun _=>rfl
 |[],_::_=>fun h=>by simp [qJ] at h
 |none::_,[]=>fun h=>by simp [qJ] at h
 |some _::_,[]=>fun h=>by simp [qJ] at h
 |some x::l,some y::m=>fun h=>by
  simp [qJ,aF] at h;rw [AG _ _ h.1,Bh h.2]
 |none::l,none::m=>fun h=>by
  simp [qJ] at h;rw [Bh h]
 |some _::_,none::_=>fun h=>by simp [qJ] at h
 |none::_,some _::_=>fun h=>by simp [qJ] at h
theorem AE:∀a:List (Option (List (List AV))),qJ a a=true
 |[]=>rfl
 |some x::l=>by simp [qJ,yW x,AE l]
 |none::l=>by simp [qJ,AE l]
theorem Ob.rX {a b:Ob} (h:a.same b=true):a=b:=by
 cases a<;>cases b<;>simp [Ob.same,cW] at h
 ·grind [beq_iff,JS]
 ·grind [beq_iff,AG]
 ·grind [beq_iff,nW]
 ·grind [beq_iff,nW,Bh]
 ·simp_all
 ·rw [nW _ _ h]
 grind [beq_iff,AG,Bh]
theorem Ob.mQ (a:Ob):a.same a=true:=by
 cases a<;>simp [Ob.same,yW,mj,El,AE]
theorem JR:∀{a b:List (Nat×Ob)},uJ a b=true→a=b
 |[],[]=>fun _=>rfl
 |[],_::_=>fun h=>by simp [uJ] at h
 |_::_,[]=>fun h=>by simp [uJ] at h
 |(i,x)::l,(j,y)::m=>fun h=>by
  simp only [uJ,aF] at h;rw [beq_iff.1 h.1.1,Ob.rX h.1.2,JR h.2]
theorem Ek:∀a:List (Nat×Ob),uJ a a=true
 |[]=>rfl
 |(i,x)::l=>by simp [uJ,fS,Ob.mQ x,Ek l]
theorem qm.vr {ρ ρ':Nat→Nat} {ids:List Nat} (h:∀j∈ids,ρ' (ρ j)=j):∀{cs:List qm},SV.closed ids (.cl 0 cs)=true→(cs.map (qm.tL ρ)).map (qm.tL ρ')=cs
 |[],_=>rfl
 |c::cs,hc=>by
  simp [SV.closed,gU,aF] at hc;simp only [aP];rw [qm.vr h (by simpa [SV.closed] using hc.2)]
  grind [qm.tL]
theorem SV.vr {ρ ρ':Nat→Nat} {ids:List Nat} (h:∀j∈ids,ρ' (ρ j)=j) {s:SV} (hc:s.closed ids=true):(s.tL ρ).tL ρ'=s:=by
 induction s with
 |two s b ih=>simp only [SV.tL];rw [ih (by simpa [SV.closed] using hc)]
 |ptr j off=>simp only [SV.tL];rw [h j (by simpa [SV.closed] using hc)]
 |row j=>simp only [SV.tL];rw [h j (by simpa [SV.closed] using hc)]
 |rp j sz i off=>simp only [SV.tL];rw [h j (by simpa [SV.closed] using hc)]
 |sub j sz lo hi=>simp only [SV.tL];rw [h j (by simpa [SV.closed] using hc)]
 |cl f caps=>simp only [SV.tL];rw [qm.vr h (by simpa [SV.closed] using hc)]
 |ag caps=>simp only [SV.tL];rw [qm.vr h (by simpa [SV.closed] using hc)]
 |_=>rfl
theorem tO {ρ:Nat→Nat} {ids names:List Nat} (h:∀j∈ids,ρ j∈names):∀{cs:List qm},SV.closed ids (.cl 0 cs)=true→SV.closed names (.cl 0 (cs.map (qm.tL ρ)))=true
 |[],_=>rfl
 |c::cs,hc=>by
  simp only [SV.closed,gU,aF] at hc;have ih:=tO h (cs:=cs) (by simpa [SV.closed] using hc.2);simp only [SV.closed,aP,gU,aF];refine ⟨?_,by simpa [SV.closed] using ih⟩;cases c with
  |v a=>rfl
  |p id=>simpa [qm.tL] using h id (by simpa using hc.1)
  |r id=>simpa [qm.tL] using h id (by simpa using hc.1)
theorem SV.B6 {ρ:Nat→Nat} {ids names:List Nat} (h:∀j∈ids,ρ j∈names) {s:SV} (hc:s.closed ids=true):(s.tL ρ).closed names=true:=by
 induction s with
 |two s b ih=>simp only [SV.tL,SV.closed];exact ih (by simpa [SV.closed] using hc)
 |ptr j off=>simpa [SV.tL,SV.closed] using h j (by simpa [SV.closed] using hc)
 |row j=>simpa [SV.tL,SV.closed] using h j (by simpa [SV.closed] using hc)
 |rp j sz i off=>simpa [SV.tL,SV.closed] using h j (by simpa [SV.closed] using hc)
 |sub j sz lo hi=>simpa [SV.tL,SV.closed] using h j (by simpa [SV.closed] using hc)
 |cl f caps=>have:=tO h (cs:=caps) (by simpa [SV.closed] using hc);simpa [SV.tL,SV.closed] using this
 |ag caps=>have:=tO h (cs:=caps) (by simpa [SV.closed] using hc);simpa [SV.tL,SV.closed] using this
 | «at» j q=>simp [SV.closed] at hc
 |_=>rfl
theorem Ob.vr {ρ ρ':Nat→Nat} {ids:List Nat} (h:∀j∈ids,ρ' (ρ j)=j) {o:Ob} (hc:o.closed ids=true):(o.tL ρ).tL ρ'=o:=by
 cases o with
 |box t cells=>
  simp only [Ob.tL,eO]
  congr 1
  simp only [Ob.closed,cg] at hc;exact (ia fun s hs=>SV.vr h (hc s hs)).trans (j8 _)
 |_=>rfl
theorem Ob.B6 {ρ:Nat→Nat} {ids names:List Nat} (h:∀j∈ids,ρ j∈names) {o:Ob} (hc:o.closed ids=true):(o.tL ρ).closed names=true:=by
 cases o with
 |box t cells=>
  simp only [Ob.closed,cg] at hc;simp only [Ob.tL,Ob.closed,cg,aB]
  rintro _ ⟨s,hs,rfl⟩
  exact SV.B6 h (hc s hs)
 |mr k e s ks vs=>simp [Ob.closed] at hc
 |rn e s k e' s' xs ys=>simp [Ob.closed] at hc
 |_=>rfl
theorem Ll {ids names:List Nat} {ρ ρ':Nat→Nat} (h1:∀j∈ids,ρ' (ρ j)=j) (h2:∀j∈ids,ρ j∈names):∀{l:List (Nat×Nat)} {cD:List (Nat×Ob)},lU st ids ρ l=some cD→∃back,oq names ρ' l cD=some back∧∀i o,find back i=some o→st.ob i=some o
 |[],cD,hv=>by
  simp only [lU,aG] at hv;subst hv;exact ⟨[],rfl,fun i o h=>by simp [find] at h⟩
 |(id,nm)::l,cD,hv=>by
  simp only [lU] at hv;split at hv
  ·rename_i o os ho hos
   obtain ⟨hc,hv⟩:=(show o.closed ids=true∧some ((nm,o.tL ρ)::os)=some cD from by
    cases hc:o.closed ids with
    |false=>rw [hc] at hv;cases hv
    |true=>rw [hc] at hv;exact ⟨rfl,hv⟩)
   injection hv with hv
   subst hv;obtain ⟨back,hb,hg⟩:=Ll h1 h2 hos;refine ⟨(id,(o.tL ρ).tL ρ')::back,?_,fun i o' hf=> ?_⟩
   ·simp only [oq,fS,Ob.B6 h2 hc,q7,ai,hb,cS]
   ·simp only [find] at hf
    cases hbq:Nat.beq id i with
    |true=>
     simp only [hbq,ai,aG] at hf;rw [←beq_iff.1 hbq,ho,←hf,Ob.vr h1 hc]
    |false=>simp only [hbq,aj] at hf;exact hg i o' hf
  ·cases hv
theorem PA {c:Call} {f:Operand} {r:AV} {d:Option Nat} (hst:d.any h.stay.contains=true) (hv:sw P h bM st c f=some r):jL P h bM st c f d=some (st.set d (.pv r)):=by
 unfold sw at hv;split at hv
 ·rename_i g args hargs
  unfold tW at hargs;split at hargs
  ·rename_i g' pre caps vs hf hvs
   simp only [aG,br] at hargs;obtain ⟨rfl,rfl⟩:=hargs;have vB:lV (d.any h.stay.contains) st (qi (pre++(vs++caps)))=fun _=>false:=by
    funext id;simp only [lV,hst,ic,Bool.and_false]
   have Cj:kL st 200 ((pre++(vs++caps)).flatMap SV.ids) []=lg st (pre++(vs++caps)):=rfl;generalize lg st (pre++(vs++caps))=ids at hv Cj;have hm:jW (fun _=>false) 0 ids=jK ids:=rfl;cases fU:(distinct ids&&Nat.blt ids.length 10000&&(pre++(vs++caps)).all (SV.closed ids)) with
   |false=>rw [fU] at hv;cases hv
   |true=>
   simp only [fU,ai] at hv;have aae:=fU;simp only [aF] at aae;obtain ⟨⟨hdis,hlen⟩,hclo⟩:=aae;have hlen:ids.length<10000:=by simpa [cr] using hlen
   have hnd:=uZ hdis;have Vy:(jK ids).map (·.1)=ids:=tv _ _ _;have hnn:((jK ids).map (·.2)).Nodup:=wG _ 0 ids (by omega);have og:∀id nm,(id,nm)∈jK ids→find (jK ids) id=some nm:=fun id nm hp=>pT (by rw [Vy];exact hnd) hp
   have hswap:∀id nm,(id,nm)∈jK ids→find (swap (jK ids)) nm=some id:=fun id nm hp=>pT (by rw [JY];exact hnn) (Jl hp)
   have hex:∀id∈ids,∃nm,(id,nm)∈jK ids:=fun id hid=>by
    rw [←Vy] at hid;obtain ⟨p,hp,rfl⟩:=aB.1 hid;exact ⟨p.2,hp⟩
   split at hv
   ·rename_i cD zf
    split at hv
    ·rename_i r' gm hr
     cases hs:(uJ gm cD&&r'.kN) with
     |false=>rw [hs] at hv;cases hv
     |true=>
      rw [hs] at hv;simp only [ai,aG] at hv;subst hv;simp only [aF] at hs;have e:=JR hs.1;subst e
      obtain ⟨back,hb,hg⟩:=Ll (ids:=ids) (names:=(jK ids).map (·.2)) (ρ:=qS (jK ids)) (ρ':=qS (swap (jK ids))) (fun j hj=>by
       obtain ⟨nm,hp⟩:=hex j hj
       simp [qS,og j nm hp,hswap j nm hp]) (fun j hj=>by
       obtain ⟨nm,hp⟩:=hex j hj;simp only [qS,og j nm hp,q8]
       exact aB.2 ⟨(j,nm),hp,rfl⟩) zf
      unfold jL;simp only [hf,hvs,vB,Cj,hm,fU,ai,zf,hr,hb,hs.2];have e1:kQ (ids.filter fun _=>false) st=st:=by
       have e0:(ids.filter fun _=>false)=[]:=xH.2 (fun _ _=>by decide);rw [e0];rfl
      rw [e1]
      congr 2
      congr 1
      funext i
      cases Vw:find back i with
      |none=>rfl
      |some o=>rw [hg i o Vw];rfl
    ·cases hv
   ·cases hv
  ·cases hargs
 ·cases hv
theorem JD (hR:Rel N w0 μ0 L μ loc st a w) {b:Bool}:∀{xs:List Operand} {ts:List TypeId} {vs:List AV},rQ P b st xs ts=some vs→bV μ vs (xs.map a.eval):=by
 intro xs
 induction xs with
 |nil=>intro ts vs hv;simp only [rQ,aG] at hv;subst hv;exact ef
 |cons x xs ih=>
  intro ts vs hv;simp only [rQ] at hv;split at hv
  ·rename_i v us hx qW
   injection hv with hv;subst hv
   refine bY ?_ (ih qW);unfold NH at hx;cases hb:(b&&TA x) with
   |true=>
    rw [hb] at hx;simp only [ai,aG] at hx;subst hx;rw [rep];have:=(xI.1 hb).2;unfold TA at this;split at this
    ·rfl
    ·cases this
   |false=>
    rw [hb] at hx;simp only [aj] at hx;obtain ⟨s,hs,hp⟩:=dw.1 hx;have:=aU hR hs;cases s<;>simp [iW] at hp;subst hp;exact this
  ·cases hv
theorem wI:∀{cs:List AV} {l:List (Nat×TypeId×Nat)} {ks:List qm} {vs:List Value},sQ cs l=some ks→(∀x∈l,fM (loc x.1)= .slice none 0 0)→bV μ cs vs→kz μ loc ks vs
 |[],l,ks,vs,hv,_,hr=>by
  simp_all [sQ,bV,kz]
 |a::cs,l,ks,vs,hv,hl,hr=>by
  obtain ⟨u,us,rfl,h1,h2⟩:=hr;have other:∀{k':List _},sQ _ l=some _→kz _ _ (.v a::k') _:=fun hk=>⟨u,us,rfl,h1,wI hk hl h2⟩
  cases a with
  |rK=>
   cases l with
   |nil=>simp [sQ] at hv
   |cons x l=>
    simp [sQ,bS] at hv;obtain ⟨k',hk,rfl⟩:=hv;rw [rep] at h1;refine ⟨u,us,rfl,?_,wI hk (fun y hy=>hl y (by simp [hy])) h2⟩;show u=fM _;simp_all
  |_=>
   simp [sQ,bS] at hv
   grind
theorem KN (hR:Rel N w0 μ0 L μ loc st a w) (iO:ga L.q μ0 P bM) {o:Oper} {c:Call} {f:Operand} {st1:St} (hd:∀i,o.dst=some i→i<N) (ho:o.op= .call c) (hc:c.callee= .value f)
  (hv:kW P h bM st c f o.dst=some st1) (hK:nk N w0 μ0 L st1 K):o.uM P a w K Q:=by
 unfold kW at hv;split at hv
 ·rename_i d dc
  split at hv
  ·rename_i g caps vs hf hvs
   obtain ⟨cs,XK,hcs⟩:=IS hR hf;have main:∀{r:AV},bM g ((vs++caps).map .pv) []=some (r,[])→(∀v w' μ' loc',gd L.q μ loc [] r [] w v μ' loc' w'→Rel N w0 μ0 L μ' loc st a w'→K (a.put o.dst v) w')→o.uM P a w K Q:=fun {r} hr hk=>by
    obtain ⟨he,hC⟩:=ga.noY (iO g _ [] _ [] hr w μ loc (c.args.toList.map a.eval++cs) hR.base.1 hR.uI (by simp [find]) (by intro i j oi oj hi;simp [find] at hi) (rS (nZ (JD hR hvs) hcs))) fun xs=>by simp [find]
    refine HN (R:=fun v w'=>∃μ' loc',gd L.q μ loc [] r [] w v μ' loc' w') (r:=r) (gm:=[]) ho hc XK rfl he (hC.mono ?_) ?_
    ·simp
    ·rintro v w' ⟨μ',loc',hP⟩
     exact hk v w' μ' loc' hP (hR.grow hP.ext hP.uI (Dr hP) hP.drawn)
   split at hv
   ·rename_i e sz xs hr
    cases hn:(w8 h d).isSome with
    |true=>simp_all
    |false=>
    rw [hn] at hv;simp only [aj,aG] at hv;subst hv;refine main hr fun v w' μ' loc' hP h1=> ?_
    obtain ⟨us,hown,hrc,hblk⟩:∃us,w'.ownsRow 0 e sz v xs.length us∧c4 μ' sz xs us∧∀g,bu v=some g→w.heap.size≤g∧∀j,μ' g j=none:=by
     rcases hP.res with hx|⟨_,_,_,_,e1,_⟩|⟨e2,sz2,xs2,us,e1,k1,k2,k3⟩
     ·simp_all [rep,bV]
     ·cases e1
     grind
    have hdN:=hd d dc;have hin:∀g,jH v g→bu v=some g:=fun g hg=>by
     rcases hg with hg|⟨us',e1,_⟩
     ·exact hg
     ·subst e1
      rcases hown.2 with ⟨e2,_⟩|⟨_,_,_,e2,_⟩<;>cases e2
    have h2:=h1.new (id:=d) (o:= .row e _ _) (.inl (eX hdN hR.small)) ⟨us,by rw [cv];omega,hrc,fun g hg=>by
      rw [cv] at hg;obtain ⟨k1,k2⟩:=hblk g (hin g hg)
      exact ⟨.inl (dB hR.grown k1),k2⟩⟩ (fun j oj hj _ g hg hb=>by
     have k1:=(hblk g (hin g hg)).1;have:=((hR.obs j _ hj).block g hb).2.1
     omega)
    rw [dc];refine hK _ _ _ _ (h2.set (fun i hi=>(eS hi)▸hdN) ?_);show v=fM _;rw [cv];rcases hown.2 with ⟨e2,_⟩|⟨_,_,_,e2,_⟩<;>rw [e2]<;>rfl
   ·rename_i cs' hr
    split at hv
    ·injection hv with hv;subst hv
     refine main hr fun v w' μ' loc' hP h1=> ?_
     have hres:=hP.pure rfl;rw [dc];exact hK _ _ _ _ (h1.set (fun i hi=>hd i (dc.trans hi)) hres)
    ·rename_i l _ hl
     split at hv
     ·rename_i ks hks
      cases hb:l.all (fun x=>Nat.blt x.1 10000) with
      |false=>simp_all
      |true=>
      rw [hb] at hv;simp at hv;subst hv;refine main hr fun v w' μ' loc' hP h1=> ?_
      have hres:=hP.pure rfl;obtain ⟨vs',rfl,XP,hone⟩:=hres;obtain ⟨qf,h2,h3,_⟩:=sP h1 l _ _ h1 (fun x hx=>cr.mp (cg.1 hb x hx));rw [dc];exact hK _ _ _ _ (h2.set (fun i hi=>hd i (dc.trans hi)) ⟨_,rfl,wI hks h3 XP,hone⟩)
     simp_all
    simp_all
   simp_all
  simp_all
 simp_all
theorem Ml (hR:Rel N w0 μ0 L μ loc st a w) (iO:ga L.q μ0 P bM) {o:Oper} {c:Call} {f:Operand} {r:AV} (hd:∀i,o.dst=some i→i<N) (ho:o.op= .call c) (hc:c.callee= .value f) (hst:o.dst.any h.stay.contains=true)
  (hv:sw P h bM st c f=some r) (hK:nk N w0 μ0 L (st.set o.dst (.pv r)) K):o.uM P a w K Q:=
 zX hR iO hd ho hc (PA hst hv) hK
theorem Tl (hR:Rel N w0 μ0 L μ loc st a w) (iO:ga L.q μ0 P bM) {o:Oper} {v:SV} (hd:∀i,o.dst=some i→i<N) (hv:ec P h bM o st=some v) (hK:nk N w0 μ0 L (st.set o.dst v) K):o.uM P a w K Q:=by
 unfold ec at hv;split at hv
 ·rename_i t len parts ho
  cases hb:o.dst.any h.rows.contains with
  |true=>simp_all
  |false=>
   simp only [hb,aj] at hv;cases hl:kM P t len parts.toList st with
   |none=>simp_all
   |some x=>
    grind [Tj]
 ·rename_i c ho
  split at hv
  ·rename_i f hc
   replace hv:=Ff hv
   cases hro:(o.dst.any h.stay.contains&&wide st c f) with
   |true=>
    rw [hro] at hv;simp only [ai,bS] at hv;obtain ⟨r,hr,rfl⟩:=hv;rw [aF] at hro
    grind [Ml]
   |false=>
   rw [hro] at hv
   replace hv:=Ff hv
   split at hv
   ·rename_i g caps vs hf hvs
    split at hv
    ·rename_i r hr
     cases hp:((!(c.args.toList.any (kT st))||r.plain)&&r.kN) with
     |true=>
      simp only [hp,ai,aG] at hv;subst hv;rw [aF] at hp
      grind [Iw,Bool.or_comm]
     |false=>grind
    simp_all
   simp_all
  ·exact oM hR hd (FY hR ho hv) hK
 ·rename_i t x k ok ho
  exact oM hR hd (vq hR (Ff hv)) hK
 ·rename_i t parts ho
  exact oM hR hd (Qi hR ho (Ff hv)) hK
 ·rename_i t x ho
  exact oM hR hd (vq hR (Ff hv)) hK
 ·rename_i g first caps ho
  cases Vw:first.isEmpty with
  |false=>
   simp [Vw] at hv;cases hce:(caps.isEmpty&&o.dst.any h.j5.contains&&Nat.blt g 1000000) with
   |false=>simp_all
   |true=>
   rw [hce] at hv;simp only [aF] at hce;have hc0 :=by simpa using hce.1.1
   have hg :=cr.mp hce.2;have run:(execOp a.eval o).run P w= .ok (.value (.func (.func g) (first.toList.map a.eval).toArray #[])) w:=by
    unfold execOp;rw [ho,hc0];have e:first.map a.eval=(first.toList.map a.eval).toArray:=by grind
    simp [Instr.makeFunc,e]
   cases hcs:qE st first.toList with
   |none=>simp_all
   |some vs=>
    simp [hcs] at hv;subst hv;refine oM hR hd ⟨_,run,(show gy _ _ (.cl _ _) _ from ⟨_,?_,Dx hR hcs⟩)⟩ hK;have h1:Nat.blt (g+1000000) 1000000=false:=by
     cases hb:Nat.blt _ _ with
     |false=>rfl
     |true=>have:=cr.mp hb;omega
    have h2:Nat.blt (g+1000000) _=true:=cr.mpr (Nat.add_lt_add_right hg _);simp [clV,h1,h2,aj,ai,oR]
  |true=>
   simp [Vw] at hv;have hf0 :=by simpa using Vw
   have run:(execOp a.eval o).run P w= .ok (.value (.func (.func g) #[] (caps.toList.map a.eval).toArray)) w:=by
    unfold execOp;rw [ho,hf0];have e:caps.map a.eval=(caps.toList.map a.eval).toArray:=by grind
    simp [Instr.makeFunc,e]
   cases hby:o.dst.any h.j5.contains with
   |true=>
    simp [hby] at hv;cases hgl:Nat.blt g 1000000 with
    |false=>simp_all
    |true=>
    rw [hgl] at hv;cases hcs:qE st caps.toList with
    |none=>simp_all
    |some vs=>
     simp [hcs] at hv;subst hv;exact oM hR hd ⟨_,run,(show gy _ _ (.cl g _) _ from ⟨_,by simp [clV,hgl,ai],Dx hR hcs⟩)⟩ hK
   |false=>
   simp [hby] at hv;cases hcs:tN st caps.toList with
   |none=>simp_all
   |some vs=>
    simp [hcs] at hv;subst hv;have hall:=Dy hR hcs;refine oM hR hd ⟨_,run,?_⟩ hK;show rep _ _ _;rw [rep];simp_all
 ·have key:e9 P o st=some v:=by
   split at hv
   ·grind
   ·grind
   ·exact hv
  exact oM hR hd (vq hR key) hK
 ·exact oM hR hd (vq hR hv) hK
theorem Xu (hR:Rel N w0 μ0 L μ loc st a w) (iO:ga L.q μ0 P bM) {o:Oper} (hd:∀i,o.dst=some i→i<N) (hv:mS P h bM o st=some st') (hK:nk N w0 μ0 L st' K):o.uM P a w K Q:=by
 unfold mS at hv;split at hv
 ·rename_i d dc ho
  split at hv
  ·rename_i e s hs
   split at hv
   ·injection hv with hv;subst hv
    exact eff_nil hR (hd d dc) dc ho hK
   ·cases hv
  ·cases hv
 ·rename_i d x hnc dc ho
  split at hv
  ·rename_i id hx
   cases vB:h.mvs.contains d with
   |true=>rw [vB] at hv;exact Nf hR (hd d dc) dc ho hx hv hK
   |false=>
   rw [vB] at hv;simp only [aj] at hv;split at hv
   ·rename_i st1 hp
    split at hv
    ·rename_i v hv1
     injection hv with hv;subst hv
     obtain ⟨μ1,_,h1⟩:=hR.dD hp;exact oM h1 hd (Ci h1 (.inr ho) hv1) (by rw [dc];exact hK)
    ·cases hv
   ·cases hv
  ·cases hv
 ·rename_i d t x dc ho
  split at hv
  ·rename_i cs hx hagg
   injection hv with hv;subst hv
   have wM:=aU hR hx;simp only [gy,rep] at wM;obtain ⟨vs,wM,hall,hone⟩:=wM;refine DE (v:= .agg vs.toArray) hR (hd d dc) dc ?_ (by simpa [Value.cells] using rS hall) (by simpa [Value.cells] using hone) hK;unfold execOp;rw [ho];simp [Instr.box,newVar,newRow,wM,Value.cells]
  ·rename_i cs hx hagg
   cases hm:(SV.ag cs).mentions d with
   |true=>rw [hm] at hv;cases hv
   |false=>
   rw [hm] at hv;simp only [aj,aG] at hv;subst hv;have wM:=RE (x:= .pointer (some ⟨w.heap.size,0,none⟩)) hm (aU hR hx);obtain ⟨vs,wM,hall,hone⟩:=wM;refine DE (v:= .agg vs.toArray) hR (hd d dc) dc ?_ (by simpa [Value.cells] using sA hall) (by simpa [Value.cells] using hone) hK;unfold execOp;rw [ho];simp [Instr.box,newVar,newRow,wM,Value.cells]
  ·rename_i v hnot hx hagg
   split at hv
   ·rename_i hone
    injection hv with hv;subst hv
    have wM:=aU hR hx;obtain ⟨h1,hc1⟩:=Uk hR hone wM;refine DE (v:=a.eval x) hR (hd d dc) dc ?_ (by rw [hc1];exact ⟨_,[],rfl,yT wM,rfl⟩) (by rw [hc1];simpa using h1) hK;unfold execOp;rw [ho];simp [Instr.box,newVar,newRow]
   ·cases hv
  ·cases hv
 ·rename_i d t dc ho
  cases hrw:h.rows.contains d with
  |true=>
   rw [hrw] at hv;simp only [ai] at hv;split at hv
   ·rename_i Pc l hz
    injection hv with hv;subst hv
    exact KQ hR (hd d dc) dc ho hz hK
   ·cases hv
  |false=>
  rw [hrw] at hv;simp only [aj] at hv;split at hv
  ·rename_i z hz
   injection hv with hv;subst hv
   obtain ⟨i,v,hi,hzv,hc⟩:=L8 (μ:=μ) hz;refine DE (v:=v) hR (hd d dc) dc ?_ (rS hc.1) hc.2 hK;unfold execOp;rw [ho];simp [Instr.alloc,zeroValue,typeInfo,hi,hzv,newVar,newRow]
  ·cases hv
 ·rename_i d t l c dc ho
  split at hv
  ·rename_i e s kl nl kc nc hs hl hc
   split at hv
   ·rename_i z i hz hi
    split at hv
    ·rename_i fU
     injection hv with hv;subst hv
     exact ZK hR (hd d dc) dc ho hs hl hc hz hi fU hK
    ·cases hv
   ·cases hv
  ·cases hv
 ·rename_i d t len parts dc ho
  split at hv
  ·rename_i e s xs hl
   split at hv
   ·injection hv with hv;subst hv
    exact Mt hR (hd d dc) dc ho hl hK
   ·rename_i k e' s' hn
    cases hb:(Nat.blt k s&&xs.all (qz k)) with
    |false=>rw [hb] at hv;cases hv
    |true=>
     rw [hb] at hv;simp only [ai,aG] at hv;subst hv;obtain ⟨b1,b2⟩:=xI.1 hb;exact KR hR (hd d dc) dc ho hl (cr.mp b1) b2 hK
  ·cases hv
 ·rename_i t x y dc ho
  split at hv
  ·rename_i id sz i off j hx hy
   exact Rr hR dc ho hx hy hv hK
  ·rename_i id off j sz n hx hy
   exact PL hR dc ho hx hy hv hK
  ·rename_i sa sv _ hnr hx hy
   exact Xv hR dc ho hx hy hv hK
  ·cases hv
 ·rename_i d t r dc ho
  split at hv
  ·rename_i k e hu
   cases hb:uR P st r with
   |false=>rw [hb] at hv;cases hv
   |true=>
    rw [hb] at hv;simp only [ai] at hv;cases hrw:h.rows.contains d with
    |true=>
     rw [hrw] at hv;simp only [ai] at hv;split at hv
     ·split at hv
      ·injection hv with hv;subst hv
       exact S9 hR (hd d dc) dc ho hu hb hK
      ·cases hv
     ·cases hv
    |false=>
    rw [hrw] at hv;simp only [aj,aG] at hv;subst hv;exact PU hR (hd d dc) dc ho hu hb hK
  ·cases hv
 ·rename_i t m k x dc ho
  cases hrm:qj h m with
  |true=>rw [hrm] at hv;exact PV hR dc (.inl ho) hv hK
  |false=>rw [hrm] at hv;exact DF hR dc (.inl ho) hv hK
 ·rename_i t m k x dc ho
  cases hrm:qj h m with
  |true=>rw [hrm] at hv;exact PV hR dc (.inr ho) hv hK
  |false=>rw [hrm] at hv;exact DF hR dc (.inr ho) hv hK
 ·rename_i d t m k dc ho
  cases hrm:qj h m with
  |true=>rw [hrm] at hv;exact Xr hR (hd d dc) dc ho hv hK
  |false=>rw [hrm] at hv;cases hv
 ·rename_i d t x dc ho
  split at hv
  ·rename_i s ht hx
   injection hv with hv;subst hv
   exact Xt hR (hd d dc) dc ho ht hx hK
  ·cases hv
 ·rename_i d x dc ho
  split at hv
  ·rename_i id hx
   split at hv
   ·rename_i s pos dG
    refine ZL hR (hd d dc) dc ho hx dG ?_;split at hv
    ·rename_i hp
     injection hv with hv;subst hv
     rw [au hp];exact hK
    ·rename_i hp
     injection hv with hv;subst hv
     rw [ak hp];exact hK
   ·cases hv
  ·cases hv
 ·rename_i d t parts dc ho
  cases hrw:h.rows.contains d with
  |false=>rw [hrw] at hv;cases hv
  |true=>rw [hrw] at hv;exact KS hR (hd d dc) dc ho hv hK
 ·rename_i d t x dc ho
  cases KJ:h.take.contains d with
  |false=>rw [KJ] at hv;cases hv
  |true=>rw [KJ] at hv;exact Lc hR (hd d dc) dc ho hv hK
 ·rename_i d g first caps dc ho
  cases Vw:first.isEmpty with
  |false=>rw [Vw] at hv;cases hv
  |true=>
   rw [Vw] at hv;simp only [ai] at hv;split at hv
   ·rename_i st1 hp
    simp only [bS] at hv;obtain ⟨vs,hcs,rfl⟩:=hv;exact Mv hR (hd d dc) dc ho Vw hp hcs hK
   ·cases hv
 ·rename_i d c ho
  split at hv
  ·rename_i hc
   split at hv
   ·rename_i d' x y t t' dc hargs tT
    split at hv
    ·rename_i e s id sy hs hx hy
     split at hv
     ·rename_i e' sz xs sz' ys i dG hel hi
      split at hv
      ·rename_i fU
       obtain ⟨rfl,rfl,rfl,rfl,hpos,hby,hlen,hz,vB⟩:=fU;injection hv with hv;subst hv
       have ho':o.op= .call { callee:= .builtin .append,args:= #[x,y],argTypes:= #[t,t] }:=by
        rw [ho];obtain ⟨cal,⟨as⟩,⟨ts⟩⟩:=c;simp only at hc hargs tT;subst hc;subst hargs;subst tT;rfl
       refine S7 hR (hd d' dc) dc ho' hs hx hy dG hel hi hpos hby hlen hz ?_ hK;simp only [iT,eY] at vB;rcases vB with hm|hm
       ·left;simpa [cr] using hm
       ·right;exact cV (aF _ _▸hm).1
      ·cases hv
     ·rename_i e' sz k e2 s2 xs zs sz' ys i dG hel hi
      split at hv
      ·rename_i fU
       obtain ⟨rfl,rfl,rfl,rfl,hpos,hby,hlen,hz,vB,hall⟩:=fU;injection hv with hv;subst hv
       have ho':o.op= .call { callee:= .builtin .append,args:= #[x,y],argTypes:= #[t,t] }:=by
        rw [ho];obtain ⟨cal,⟨as⟩,⟨ts⟩⟩:=c;simp only at hc hargs tT;subst hc;subst hargs;subst tT;rfl
       refine PS hR (hd d' dc) dc ho' hs hx hy dG hel hi hpos hby hlen hz ?_ hall hK;simp only [iT,eY] at vB;rcases vB with hm|hm
       ·left;simpa [cr] using hm
       ·right;exact cV (aF _ _▸hm).1
      ·cases hv
     ·cases hv
    ·rename_i e s id sy hs hx hy
     split at hv
     ·rename_i e' sz xs sz' ys i dG hel hi
      split at hv
      ·rename_i fU
       obtain ⟨rfl,rfl,rfl,rfl,hpos,hby,hlen,hz,vB,hne⟩:=fU;injection hv with hv;subst hv
       have ho':o.op= .call { callee:= .builtin .append,args:= #[x,y],argTypes:= #[t,t] }:=by
        rw [ho];obtain ⟨cal,⟨as⟩,⟨ts⟩⟩:=c;simp only at hc hargs tT;subst hc;subst hargs;subst tT;rfl
       refine PR hR (hd d' dc) dc ho' hs hx hy dG hel hi hpos hby hlen hz ?_ hne hK;simp only [iT,eY] at vB;rcases vB with hm|hm
       ·left;simpa [cr] using hm
       ·right;exact cV (aF _ _▸hm).1
      ·cases hv
     ·cases hv
    ·cases hv
   ·cases hv
  ·rename_i hc
   split at hv
   ·rename_i m k t ts dc hargs tT
    exact S8 hR dc ho hc hargs tT hv hK
   ·cases hv
  ·rename_i hc
   split at hv
   ·rename_i x t dc hargs tT
    split at hv
    ·rename_i e s id sz lo hi hs hx
     split at hv
     ·rename_i e' sz' xs z dG hz
      split at hv
      ·rename_i fU
       injection hv with hv;subst hv
       exact Xq hR dc ho hc hargs tT hs hx dG hz fU hK
      ·cases hv
     ·cases hv
    ·cases hv
   ·cases hv
  ·rename_i f hc
   cases how:o.dst.any h.owns.contains with
   |true=>
    rw [how] at hv;exact KN hR iO hd ho hc hv hK
   |false=>
   rw [how] at hv;simp only [aj] at hv
   replace hv:=Ff hv
   cases hw:wide st c f with
   |true=>
    simp only [hw,ai] at hv;exact zX hR iO hd ho hc hv hK
   |false=>
   simp only [hw,aj] at hv;cases mU:c.args.toList.any (fun x=>(oK h st x).isSome) with
   |true=>
    simp only [mU,ai] at hv;exact KO hR iO hd ho hc hv hK
   |false=>
   simp only [mU,aj] at hv;split at hv
   ·rename_i st1 hp
    split at hv
    ·rename_i g caps vs hf hvs
     split at hv
     ·rename_i r hr
      cases E0:(c.args.toList.any (kT st1)|| !r.kN) with
      |true=>rw [E0] at hv;cases hv
      |false=>
       simp only [E0,aj,aG] at hv;subst hv;obtain ⟨μ1,h1⟩:=Fi hR hp;rw [mX] at E0;exact Iw h1 iO hd ho hc hf hvs hr (by simp [E0.1]) (by simpa using E0.2) hK
     ·cases hv
    ·cases hv
   ·cases hv
  ·cases hv
 ·cases hv
theorem rO:∀{l:List SV} {μ:Mu} {loc:Nat→Value} {st st':St} {a:Act} {w:World},Rel N w0 μ0 L μ loc st a w→oJ l st=some st'→∃μ',μ.le μ'∧Rel N w0 μ0 L μ' loc st' a w
 |[],μ,loc,st,st',a,w,hR,hv=>by simp only [oJ,aG] at hv;subst hv;exact ⟨μ,Mu.le.refl _,hR⟩
 |s::l,μ,loc,st,st',a,w,hR,hv=>by
  unfold oJ at hv;split at hv
  ·rename_i e;cases e
  ·rename_i id l' e
   injection e with e1 e2;subst e1;subst e2
   obtain ⟨st1,h1,h2⟩:=dw.1 hv;obtain ⟨μ1,hle,IW⟩:=hR.dD h1;obtain ⟨μ2,hle2,Vu⟩:=rO IW h2;exact ⟨μ2,hle.trans hle2,Vu⟩
  ·rename_i s' l' hne e
   injection e with e1 e2;subst e1;subst e2
   exact rO hR hv
theorem RP (hR:Rel N w0 μ0 L μ loc st a w) (iO:ga L.q μ0 P bM) {o:Oper} (hd:∀i,o.dst=some i→i<N) (hv:step0 P h bM o st=some st') (hK:nk N w0 μ0 L st' K):o.uM P a w K Q:=by
 unfold step0 at hv;split at hv
 ·rename_i v hf
  injection hv with hv;subst hv
  exact Tl hR iO hd hf hK
 ·exact Xu hR iO hd hv hK
theorem Ap:∀{l:List Nat} {st st':St} {μ:Mu} {loc:Nat→Value} {a:Act} {w:World},Rel N w0 μ0 L μ loc st a w→nT l st=some st'→∃μ',μ.le μ'∧Rel N w0 μ0 L μ' loc st' a w
 |[],st,st',μ,loc,a,w,hR,hv=>by simp only [nT,aG] at hv;subst hv;exact ⟨μ,Mu.le.refl _,hR⟩
 |t::l,st,st',μ,loc,a,w,hR,hv=>by
  simp only [nT] at hv;obtain ⟨st1,h1,h2⟩:=dw.1 hv;obtain ⟨μ1,hle,IW⟩:∃μ',μ.le μ'∧Rel N w0 μ0 L μ' loc st1 a w:=by
   unfold vo at h1;split at h1
   ·exact hR.dD h1
   ·split at h1
    ·exact rO hR h1
    ·cases h1
   ·injection h1 with h1;subst h1;exact ⟨μ,Mu.le.refl _,hR⟩
  obtain ⟨μ2,hle2,Vu⟩:=Ap IW h2;exact ⟨μ2,hle.trans hle2,Vu⟩
theorem JW (hR:Rel N w0 μ0 L μ loc st a w) (iO:ga L.q μ0 P bM) {o:Oper} (hd:∀i,o.dst=some i→i<N) (hv:step P h bM o st=some st') (hK:nk N w0 μ0 L st' K):o.uM P a w K Q:=by
 unfold step at hv;obtain ⟨st1,h1,h2⟩:=dw.1 hv;obtain ⟨μ1,_,IW⟩:=Ap hR h1;exact RP IW iO hd h2 hK
theorem y9 (hR:Rel N w0 μ0 L μ loc st a w) {ops:Array Oper} {o:Oper} {b:Bool} (hw:p8 ops o st=some b):Region.wanted o (yielded ops a.tmps)=b:=by
 unfold p8 at hw;unfold Region.wanted;split at hw
 ·rename_i hg;injection hw with hw;subst hw;rw [hg]
 ·rename_i j want hg
  rw [hg];simp only;split at hw
  ·rename_i d dc
   split at hw
   ·rename_i t ht
    injection hw with hw;subst hw
    obtain ⟨v,hv,hr⟩:=hR.env d _ ht;simp only [gy,rep] at hr;subst hr;simp [yielded,dc,hv]
   ·rename_i ht
    injection hw with hw;subst hw
    obtain ⟨v,hv,hr⟩:=hR.env d _ ht;have hr:v=undef:=hr;subst hr;simp [yielded,dc,hv,undef]
   ·cases hw
  ·cases hw
theorem Ei (iO:ga L.q μ0 P bM) {ops:Array Oper}:∀{l:List Oper} {st:St} {μ:Mu} {loc:Nat→Value} {a:Act} {w:World},Rel N w0 μ0 L μ loc st a w→(∀o∈l,∀i,o.dst=some i→i<N)→qk P h bM ops l st=some st'→
  (∀a' w' μ' loc',Rel N w0 μ0 L μ' loc' st' a' w'→Q .normal a' w')→∀F,Wd F→wpListIn F 0 P ops Q l a w:=by
 intro l
 induction l with
 |nil=>
  intro st μ loc a w hR _ hv hQ F hF;simp only [qk,aG] at hv;subst hv;exact hQ _ _ _ _ hR
 |cons o l ih=>
  intro st μ loc a w hR hd hv hQ F hF;simp only [qk] at hv;split at hv
  ·rename_i b hw
   have hwant:=y9 hR hw;unfold wpListIn;rw [hwant];cases b with
   |true=>
    simp only [ai] at hv;simp only [fN];cases hs:step P h bM o st with
    |none=>simp [hs] at hv
    |some st1=>
     simp [hs] at hv;exact JW hR iO (hd o (by simp)) hs (fun a' w' μ' loc' h1=>ih h1 (fun p hp=>hd p (by simp [hp])) hv hQ F hF) F hF
   |false=>
    simp only [aj] at hv;simp only [cW,ez];exact ⟨fun f _=>hF.fn f,ih (hR.set (hd o (by simp)) (show gy μ loc .undef undef from rfl)) (fun p hp=>hd p (by simp [hp])) hv hQ F hF⟩
  ·cases hv
end
end Go.AM
