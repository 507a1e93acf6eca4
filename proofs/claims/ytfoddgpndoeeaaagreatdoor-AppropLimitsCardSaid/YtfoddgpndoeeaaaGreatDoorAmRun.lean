/- THE ABSTRACT MACHINE. -/
import Derived.Test.YtfoddgpndoeeaaaGreatDoorAmEff
set_option linter.unusedVariables false
set_option linter.unusedSimpArgs false
namespace Go.AM
open Go.RowKit
def Mk (μ:Mu) (w:World):Prop:=∀b j v,μ b j=some v→yg w b j=some v
def gi (q:Prop) (loc:Nat→Value) (names:List Nat):ku:=⟨fun id=>if id∈names then some (loc id) else none,q⟩
def JL (loc:Nat→Value) (bG:List (Nat×Ob)):Prop:=∀i j oi oj,find bG i=some oi→find bG j=some oj→i≠j→∀g,ff (loc i) g→¬ff (loc j) g
structure eD (q:Prop) (μ:Mu) (loc:Nat→Value) (names:List Nat) (r:AV) (de:List (Nat×Ob)) (w:World) (v:Value) (μ':Mu) (loc':Nat→Value) (w':World):Prop where
 ext:μ.ext w.heap.size μ'
 ou:Mk μ' w'
 res:rep μ' r v∨(∃n A m c,r= .self n∧10000∈names∧loc' 10000= .slice A m c∧n≤m∧v= .slice A n c)∨
  ∃e sz xs vs,r= .e9 [.e9 [.self e, .cE sz xs]]∧w'.ownsRow 0 e sz v xs.length vs∧bV μ' sz xs vs∧∀g,aQ v=some g→w.heap.size≤g∧(∀j,μ' g j=none)∧∀id o,find de id=some o→¬ff (loc' id) g
 obs:∀id o,find de id=some o→gB w.heap.size (gi q loc names) μ' loc' w' id o
 apart:JL loc' de
 keep:∀b,b<w.heap.size→¬BM (gi q loc names) b→w'.heap[b]? =w.heap[b]?
 fix:∀id,id∈names→id<20000→loc' id=loc id
 os:w'.os=w.os
 tape:w'.tape=w.tape
 output:w'.output=w.output
 grown:w.heap.size≤w'.heap.size
 drawn:q→w.drawn≤w'.drawn
theorem eD.pure {q:Prop} {μ:Mu} {loc:Nat→Value} {names:List Nat} {r:AV} {de:List (Nat×Ob)} {w:World} {v:Value} {μ':Mu} {loc':Nat→Value} {w':World} (h:eD q μ loc names r de w v μ' loc' w') (hn:r.gm=true):rep μ' r v:=by
 rcases h.res with h|⟨n,A,m,c,rfl,_⟩|⟨e,sz,xs,vs,rfl,_⟩
 ·exact h
 ·cases hn
 ·cases hn
theorem DQ {r:AV} (h:r.plain=true):r.gm=true:=by
 cases r with
 |self n=>cases h
 |e9 vs=>
  have:vs.any AV.NN=false:=by
   rw [List.any_eq_false];intro x hx ht;have:=List.all_eq_true.1 (h:vs.all AV.scalar=true) x hx;cases x<;>simp [AV.NN,AV.scalar] at ht this
  simp [AV.gm,this]
 |_=>rfl
def dD (q:Prop) (B:Mu) (P:Program) (aV:cQ):Prop:=∀g args bG r de,aV g args bG=some (r,de)→∀(w:World) (μ:Mu) (loc:Nat→Value) (us:List Value),B.le μ→Mk μ w→
 (∀id o,find bG id=some o→gB w.heap.size (gi q loc (bG.map (·.1))) μ loc w id o)→JL loc bG→dZ μ loc args us→
 (∀w2,(callFunc g us.toArray).run P w2= .ok (.enter g us.toArray) w2)∧
 Calls P g us.toArray w fun e w'=>∃v μ' loc',e= .returned v∧eD q μ loc (bG.map (·.1)) r de w v μ' loc' w'
theorem dD.mono {q:Prop} {B B':Mu} {P:Program} {aV:cQ} (h:dD q B P aV) (hB:B.le B'):dD q B' P aV:=
 fun g args bG r de hv w μ loc us hle=>h g args bG r de hv w μ loc us (hB.trans hle)
section
variable {P:Program} {N:Nat} {w0:World} {μ0:Mu} {L:ku} {μ:Mu} {loc:Nat→Value} {st st':St} {a:Act} {w:World} {Q:Exit→Act→World→Prop} {K:Act→World→Prop} {h:Hint} {aV:cQ}
theorem tJ {α:Type} {c:Bool} {x:Option α} {v:α} (h:(bif c then none else x)=some v):x=some v:=by
 cases c<;>simp_all
theorem kY {α:Type} {j i:Nat} {x v:α} (hf:find [(j,x)] i=some v):i=j:=by
 simp only [find] at hf;cases hb:Nat.beq j i with
 |true=>exact (beq_iff.1 hb).symm
 |false=>simp [hb] at hf
theorem IW (hR:Rel N w0 μ0 L μ loc st a w) {s:SV} {v:AV} {u:Value} (hl:mD st s=some v) (hs:cH μ loc s u) {μ':Mu} (hle:μ.le μ')
  (hrow:∀id,s= .row id→∀b j x,ff (loc id) b→yg w b j=some x→μ' b j=some x):rep μ' v u:=by
 cases s with
 |pv x=>simp only [mD,Option.some.injEq] at hl;subst hl;exact ri hle _ _ hs
 |row id=>
  simp only [mD] at hl;obtain ⟨ob,cz,hval⟩:=Option.bind_eq_some_iff.1 hl;have e:u=c7 (loc id):=hs;rw [e];exact KE (hR.obs id _ cz) hval hle (fun b j x hb hc=>hrow id rfl b j x hb hc)
 |_=>simp [mD] at hl
theorem sK (hR:Rel N w0 μ0 L μ loc st a w) {μ':Mu} (hle:μ.le μ') {xs:List Operand} {ts:List TypeId} {vs:List AV} (h:eU P st xs ts=some vs)
  (hrow:∀x∈xs,∀t id,aM P t st x=some (.row id)→∀b j x,ff (loc id) b→yg w b j=some x→μ' b j=some x):aU μ' vs (xs.map a.eval):=by
 induction xs generalizing ts vs with
 |nil=>simp [eU] at h;subst h;exact cu
 |cons x xs ih=>
  simp only [eU] at h;split at h
  ·rename_i v vs' hv hvs
   injection h with h;subst h
   cases ho:aM P (ts.headD 0) st x with
   |none=>rw [ho] at hv;cases hv
   |some sv=>
    rw [ho] at hv;simp only [Option.bind_some] at hv;exact bA (IW hR hv (aG hR ho) hle (fun id e=>by subst e;exact hrow x (by simp) _ id ho)) (ih hvs (fun y hy=>hrow y (by simp [hy])))
  ·cases h
theorem LO {μ μ':Mu} {r:AV} {v:Value} (h:r.plain=true) (k:rep μ r v):rep μ' r v:=by
 have sc:∀(r:AV) (v:Value),r.scalar=true→rep μ r v→rep μ' r v:=fun r v h k=>by
  cases r<;>simp [AV.scalar] at h<;>simpa [rep] using k
 cases r with
 |e9 vs=>
  rw [rep] at k⊢;obtain ⟨us,e,hall⟩:=k;refine ⟨us,e,?_⟩;simp only [AV.plain] at h;clear e
  induction vs generalizing us with
  |nil=>simpa [aU] using hall
  |cons x xs ih=>
   rw [aU] at hall;obtain ⟨u,us',rfl,h1,h2⟩:=hall;simp only [List.all_cons,Bool.and_eq_true] at h;exact bA (sc _ _ h.1 h1) (ih h.2 us' h2)
 |bool b=>exact sc _ _ rfl k
 |int b n=>exact sc _ _ rfl k
 |str s=>exact sc _ _ rfl k
 |cE sz xs=>simp [AV.plain,AV.scalar] at h
 |agg cs=>simp [AV.plain,AV.scalar] at h
 |fn f caps=>simp [AV.plain,AV.scalar] at h
 |ref cs=>simp [AV.plain,AV.scalar] at h
 |mp ks es=>simp [AV.plain,AV.scalar] at h
 |self n=>simp [AV.plain,AV.scalar] at h
 |pH=>simp [AV.plain,AV.scalar] at h
 |jL=>simp [AV.plain,AV.scalar] at h
 |hole=>simp [AV.plain,AV.scalar] at h
theorem uf {μ':Mu} {loc':Nat→Value} {r:AV} {de:List (Nat×Ob)} {u:Value} {w':World} {q:Prop} (hP:eD q μ loc [] r de w u μ' loc' w'):Below w.heap.size w w':=
 ⟨hP.os,hP.tape,hP.output,hP.grown,fun b hb=>hP.keep b hb (by rintro ⟨id,v,h,_⟩;simp [gi] at h)⟩
theorem vu {o:Oper} {c:Call} {f:Operand} {g:Nat} {us caps:List Value} {r:AV} {de:List (Nat×Ob)} (ho:o.op= .call c) (hc:c.callee= .value f) (hf:a.eval f= .func (.func g) #[] caps.toArray)
  (ua:c.args.toList.map a.eval=us) (he:∀w2,(callFunc g (us++caps).toArray).run P w2= .ok (.enter g (us++caps).toArray) w2)
  {R:Value→World→Prop} (eB:Calls P g (us++caps).toArray w fun e w'=>∃v,e= .returned v∧R v w') (hK:∀v w',R v w'→K (a.put o.dst v) w'):o.oC P a w K Q:=by
 have hargs:c.args.map a.eval=us.toArray:=by rw [←ua,←Array.toList_map]
 refine JI (fun c' sJ=>by rw [ho] at sJ;cases sJ) (x:= .enter g (us++caps).toArray) (w':=w) ?_ fun F hF=> ?_
 ·unfold execOp
  rw [ho];simp only [resolve,hc,hf,Deferred.ofValue,invoke,Sem.run_bind,Sem.run_pure,Result.andThen_ok,hargs];have e:(#[]++us.toArray)++caps.toArray=(us++caps).toArray:=by simp
  rw [e,he w]
 ·refine ⟨hF.one,?_⟩
  have h1:CallsIn Fence.wide (0-1) P g (us++caps).toArray w _:=callsIn_wide.2 eB;have h2:CallsIn F (0-1) P g (us++caps).toArray w (fun e w'=>∃v,e= .returned v∧R v w'):=by
   have:=hF;unfold Wd at this;rw [←this] at h1;exact h1
  refine h2.mono ?_
  rintro e w' ⟨v,rfl,hr⟩
  exact hK v w' hr
theorem y8 (hR:Rel N w0 μ0 L μ loc st a w) {f:Operand} {g:Nat} {caps:List AV} (h:aM P 0 st f=some (.pv (.fn g caps))):∃cs:List Value,a.eval f= .func (.func g) #[] cs.toArray∧aU μ caps cs:=by
 have:=aG hR h;simp only [cH,rep] at this;exact this
theorem Gp {x:Operand} (h:jJ st x=false):∀t id,aM P t st x≠some (.row id):=by
 intro t id e;cases x with
 |tmp i=>simp only [aM] at e;simp [jJ,e] at h
 |const v=>
  simp only [aM] at e;cases hc:ofConst P t v<;>simp [hc] at e
 |func f=>simp [aM] at e
 |global g=>simp [aM] at e
theorem yQ (hR:Rel N w0 μ0 L μ loc st a w) (eB:dD L.q μ0 P aV) {o:Oper} {c:Call} {f:Operand} {g:Nat} {caps vs:List AV} {r:AV} (hd:∀i,o.dst=some i→i<N) (ho:o.op= .call c) (hc:c.callee= .value f)
  (hf:aM P 0 st f=some (.pv (.fn g caps))) (hvs:eU P st c.args.toList c.argTypes.toList=some vs) (hr:aV g ((vs++caps).map .pv) []=some (r,[]))
  (hp:(r.plain|| !(c.args.toList.any (jJ st)))=true) (FC:r.gm=true) (hK:iy N w0 μ0 L (st.set o.dst (.pv r)) K):o.oC P a w K Q:=by
 obtain ⟨cs,Rr,hcs⟩:=y8 hR hf;cases x9:c.args.toList.any (jJ st) with
 |false=>
  have hall:=sK hR (Mu.le.refl μ) hvs (fun x hx t id e=>absurd e (Gp (by
   have:=List.any_eq_false.1 x9 x hx
   simpa using this) t id))
  obtain ⟨he,hC⟩:=eB g _ [] r [] hr w μ loc (c.args.toList.map a.eval++cs) hR.base.1 hR.ou (by simp [find]) (by intro i j oi oj hi;simp [find] at hi) (jY (gM hall hcs));refine vu (R:=fun v w'=>∃μ' loc',eD L.q μ loc [] r [] w v μ' loc' w') (r:=r) (de:=[]) ho hc Rr rfl he (hC.mono ?_) ?_
  ·rintro e w' ⟨v,μ',loc',rfl,hP⟩
   exact ⟨v,rfl,μ',loc',hP⟩
  ·rintro v w' ⟨μ',loc',hP⟩
   exact hK _ _ _ _ ((hR.grow hP.ext hP.ou (uf hP) hP.drawn).set hd (hP.pure FC))
 |true=>
  have Ta:r.plain=true:=by simpa [x9] using hp
  let xx:Nat→Prop:=fun b=>∃id ob,st.ob id=some ob∧ob.val.isSome=true∧ff (loc id) b
  have:∀b,Decidable (xx b):=fun b=>Classical.propDecidable _
  let μ1:Mu:=fun b j=>if xx b then yg w b j else μ b j
  have hle:μ.le μ1:=fun b j v hv=>by
   by_cases hb:xx b
   ·obtain ⟨id,ob,cz,_,rX⟩:=hb
    have:=((hR.obs id _ cz).block b rX).2.2 j;rw [this] at hv;cases hv
   ·simpa [μ1,hb] using hv
  have RA:Mk μ1 w:=fun b j v hv=>by
   by_cases hb:xx b
   ·simpa [μ1,hb] using hv
   ·exact hR.ou b j v (by simpa [μ1,hb] using hv)
  have hall:=sK hR hle hvs (fun x hx t id e b j u hb hcell=>by
   have hmem:∃ob,st.ob id=some ob∧ob.val.isSome=true:=by
    clear hcell hb RA;have key:∀(xs:List Operand) (ts:List TypeId) (vs:List AV),eU P st xs ts=some vs→x∈xs→∃ob,st.ob id=some ob∧ob.val.isSome=true:=by
     intro xs
     induction xs with
     |nil=>intro ts vs _ hm;simp at hm
     |cons y ys ih=>
      intro ts vs hv hm;simp only [eU] at hv;split at hv
      ·rename_i v vs' Ug Pr
       rcases List.mem_cons.1 hm with rfl|hm
       ·have hty:∀t',aM P t' st x=some (.row id):=by
         intro t';cases x with
         |tmp i=>exact e
         |const q=>simp only [aM] at e;cases hq:ofConst P t q<;>simp [hq] at e
         |func q=>simp [aM] at e
         |global q=>simp [aM] at e
        simp only [hty,Option.bind_some,mD] at Ug;obtain ⟨ob,cz,hval⟩:=Option.bind_eq_some_iff.1 Ug;exact ⟨ob,cz,by rw [hval];rfl⟩
       ·exact ih _ _ Pr hm
      ·cases hv
    exact key _ _ _ hvs hx
   obtain ⟨ob,cz,hval⟩:=hmem;have hrow:xx b:=⟨id,ob,cz,hval,hb⟩
   simpa [μ1,hrow] using hcell)
  obtain ⟨he,hC⟩:=eB g _ [] r [] hr w μ1 loc (c.args.toList.map a.eval++cs) (hR.base.1.trans hle) RA (by simp [find]) (by intro i j oi oj hi;simp [find] at hi) (jY (gM hall (cV hle _ _ hcs)));refine vu (R:=fun v w'=>∃μ' loc',eD L.q μ1 loc [] r [] w v μ' loc' w') (r:=r) (de:=[]) ho hc Rr rfl he (hC.mono ?_) ?_
  ·rintro e w' ⟨v,μ',loc',rfl,hP⟩
   exact ⟨v,rfl,μ',loc',hP⟩
  ·rintro v w' ⟨μ',loc',hP⟩
   exact hK _ _ _ _ ((hR.Fy (uf hP) hP.drawn).set (sv:= .pv r) hd (show rep μ r v from LO Ta (hP.pure FC)))
theorem uh (hR:Rel N w0 μ0 L μ loc st a w) {xs:List Operand} {vs:List AV} (h:lD st xs=some vs):aU μ vs (xs.map a.eval):=by
 induction xs generalizing vs with
 |nil=>simp [lD] at h;subst h;exact cu
 |cons x xs ih=>
  cases x with
  |tmp i=>
   simp only [lD] at h;split at h
   ·rename_i v vs' hv hvs
    injection h with h;subst h
    obtain ⟨u,hu,hr⟩:=hR.env i _ hv;have:a.eval (.tmp i)=u:=by simp [Act.eval,hu]
    exact bA (by rw [this];exact hr) (ih hvs)
   ·rename_i cs vs' hv hvs
    injection h with h;subst h
    obtain ⟨u,hu,hr⟩:=hR.env i _ hv;have:a.eval (.tmp i)=u:=by simp [Act.eval,hu]
    obtain ⟨b,off,us,e,hc,hm⟩:=hr;exact bA (by rw [this,rep];exact ⟨b,off,us,e,hc.1,hc.2,hm⟩) (ih hvs)
   ·cases h
  |_=>simp [lD] at h
theorem CN (hR:Rel N w0 μ0 L μ loc st a w) {xs:List Operand} {cs:List jl} (h:ni st xs=some cs):fE μ loc cs (xs.map a.eval):=by
 induction xs generalizing cs with
 |nil=>simp [ni] at h;subst h;rfl
 |cons x xs ih=>
  cases x with
  |tmp i=>
   simp only [ni] at h;split at h
   ·rename_i v vs' hv hvs
    injection h with h;subst h
    obtain ⟨u,hu,hr⟩:=hR.env i _ hv;have:a.eval (.tmp i)=u:=by simp [Act.eval,hu]
    exact ⟨_,_,rfl,by rw [this];exact hr,ih hvs⟩
   ·rename_i cs' vs' hv hvs
    injection h with h;subst h
    obtain ⟨u,hu,hr⟩:=hR.env i _ hv;have:a.eval (.tmp i)=u:=by simp [Act.eval,hu]
    obtain ⟨b,off,us,e,hc,hm⟩:=hr;refine ⟨_,_,rfl,?_,ih hvs⟩;show rep μ (.ref cs') _;rw [this,rep];exact ⟨b,off,us,e,hc.1,hc.2,hm⟩
   ·rename_i id vs' hv hvs
    injection h with h;subst h
    obtain ⟨u,hu,hr⟩:=hR.env i _ hv;have:a.eval (.tmp i)=u:=by simp [Act.eval,hu]
    obtain ⟨b,h1,h2⟩:=hr;exact ⟨_,_,rfl,⟨b,h1,by rw [this,h2]⟩,ih hvs⟩
   ·cases h
  |_=>simp [ni] at h
theorem CQ (hR:Rel N w0 μ0 L μ loc st a w) {o:Oper} {g:Nat} {first caps:Array Operand} {d:Nat} {vs:List AV} (hd:d<N) (b9:o.dst=some d) (ho:o.op= .makeFunc (.func g) first caps) (J7:first.isEmpty=true)
  (hp:mV st caps.toList=some st') (hcs:lD st' caps.toList=some vs) (hK:iy N w0 μ0 L (st'.set (some d) (.pv (.fn g vs))) K):o.oC P a w K Q:=by
 obtain ⟨μ',hle,qN⟩:=A5 hR hR hp;have hall:=uh qN hcs;have hf0:first= #[]:=by simpa using J7
 refine j9 qN (fun i hi=>by rw [b9] at hi;injection hi with hi;subst hi;exact hd) ⟨.func (.func g) #[] (caps.toList.map a.eval).toArray,?_,?_⟩ (by rw [b9];exact hK)
 ·unfold execOp;rw [ho,hf0]
  have e:caps.map a.eval=(caps.toList.map a.eval).toArray:=by rw [←Array.toList_map]
  simp [Instr.makeFunc,e]
 ·show rep μ' (.fn g vs) _
  rw [rep];exact ⟨_,rfl,hall⟩
theorem wh (hR:Rel N w0 μ0 L μ loc st a w) {xs:List Operand} (h:jG.dF st xs=some st'):∃μ',Rel N w0 μ0 L μ' loc st' a w:=by
 induction xs generalizing st μ with
 |nil=>simp [jG.dF] at h;subst h;exact ⟨μ,hR⟩
 |cons x xs ih=>
  cases x with
  |tmp i=>
   simp only [jG.dF] at h;split at h
   ·rename_i id hi
    cases hp:st.bZ id with
    |none=>simp [hp] at h
    |some st1=>
     simp [hp] at h;obtain ⟨μ1,_,h1⟩:=hR.bZ hp;exact ih h1 h
   ·exact ih hR h
  |_=>simp only [jG.dF] at h;exact ih hR h
theorem Rel.Uu (hR:Rel N w0 μ0 L μ loc st a w) {id:Nat} {o:Ob} (hnone:st.ob id=none) (cz:gB w0.heap.size L μ loc w id o)
  (hap:∀j oj,st.ob j=some oj→∀g,ff (loc id) g→¬ff (loc j) g):Rel N w0 μ0 L μ loc { st with ob:=put st.ob id (some o) } a w:=by
 refine ⟨hR.small,hR.names,hR.fix,hR.size,hR.defers,hR.env,hR.ou,hR.base,?_,?_,hR.keep,hR.os,hR.tape,hR.output,hR.grown,hR.drawn⟩
 ·intro i oi hi
  by_cases e:id=i
  ·subst e;simp only [bD,Option.some.injEq] at hi;subst hi;exact cz
  ·exact hR.obs i oi (by simpa only [aN _ _ e] using hi)
 ·intro i j oi oj hi hj hij g hg
  by_cases ei:id=i
  ·subst ei
   simp only [aN _ _ hij] at hj;exact hap j oj hj g hg
  ·simp only [aN _ _ ei] at hi
   by_cases ej:id=j
   ·subst ej;intro hg';exact hap i oi hi g hg' hg
   ·simp only [aN _ _ ej] at hj
    exact hR.apart i j oi oj hi hj hij g hg
theorem A4 (hR:Rel N w0 μ0 L μ loc st a w) {mL:Nat→Value}:∀{xs:List Operand} {ts:List TypeId} {vs:List SV} {ids:List Nat},rY P h st xs ts=some (vs,ids)→(∀id∈ids,mL 10000=loc id)→dZ μ mL vs (xs.map a.eval):=by
 intro xs
 induction xs with
 |nil=>intro ts vs ids hv _;simp only [rY,Option.some.injEq,Prod.mk.injEq] at hv;obtain ⟨rfl,rfl⟩:=hv;rfl
 |cons x xs ih=>
  intro ts vs ids hv ki;simp only [rY] at hv;split at hv
  ·rename_i id vs' ids' gd qR
   simp only [Option.some.injEq,Prod.mk.injEq] at hv;obtain ⟨rfl,rfl⟩:=hv;refine ⟨_,_,rfl,?_,ih qR (fun i hi=>ki i (by simp [hi]))⟩;show a.eval x=c7 (mL 10000);rw [ki id (by simp)];cases x with
   |tmp t=>
    simp only [iQ] at gd;cases hb:h.bJ.contains t with
    |false=>rw [hb] at gd;cases gd
    |true=>
     simp only [hb,cond_true] at gd;split at gd
     ·rename_i id' he
      injection gd with gd;subst gd
      obtain ⟨v,hv,hr⟩:=hR.env t _ he;have:a.eval (.tmp t)=v:=by simp [Act.eval,hv]
      rw [this];exact hr
     ·cases gd
   |_=>simp [iQ] at gd
  ·rename_i vs' ids' gd qR
   split at hv
   ·rename_i v Ug
    simp only [Option.some.injEq,Prod.mk.injEq] at hv;obtain ⟨rfl,rfl⟩:=hv;exact ⟨_,_,rfl,cK hR Ug,ih qR ki⟩
   ·cases hv
  ·cases hv
theorem AQ (hR:Rel N w0 μ0 L μ loc st a w) (eB:dD L.q μ0 P aV) {o:Oper} {c:Call} {f:Operand} {st1:St} (hd:∀i,o.dst=some i→i<N) (ho:o.op= .call c) (hc:c.callee= .value f)
  (hv:ji P h aV st c f o.dst=some st1) (hK:iy N w0 μ0 L st1 K):o.oC P a w K Q:=by
 unfold ji at hv;split at hv
 ·rename_i g caps vs id hf hvs
  split at hv
  ·rename_i e sz xs cz
   split at hv
   ·rename_i r' nm e' sz' xs' hr
    cases hb:(Nat.beq e e'&&Nat.beq sz sz'&&Nat.beq nm 10000) with
    |false=>simp [hb] at hv
    |true=>
     simp only [hb,cond_true] at hv;simp only [Bool.and_eq_true] at hb;obtain ⟨cs,Rr,hcs⟩:=y8 hR hf
     let mL:Nat→Value:=fun _=>loc id
     have hok:=hR.obs id _ cz;have hargs:=A4 hR (mL:=mL) hvs (fun i hi=>by simp at hi;subst hi;rfl);have uA:∀i oi,find [(10000,Ob.row e sz xs)] i=some oi→gB w.heap.size (gi L.q mL ([(10000,Ob.row e sz xs)].map (·.1))) μ mL w i oi:=by
      intro i oi hi;simp only [find] at hi;cases hb':Nat.beq 10000 i with
      |false=>simp [hb'] at hi
      |true=>
       simp only [hb',cond_true,Option.some.injEq] at hi;subst hi;have:=beq_iff.1 hb';subst this;obtain ⟨us,hown,hrc,hm⟩:=hok;refine ⟨us,hown,hrc,fun q hq=>⟨.inr ⟨loc id,by simp [gi,mL],hq⟩,(hm q hq).2⟩⟩
     obtain ⟨he,hC⟩:=eB g _ _ r' _ hr w μ mL (c.args.toList.map a.eval++cs) hR.base.1 hR.ou uA (by
      intro i j oi oj hi hj hij;have h1:=kY hi;have h2:=kY hj
      omega) (iI hargs (jY hcs))
     refine vu (R:=fun v w'=>∃μ' loc',eD L.q μ mL ([(10000,Ob.row e sz xs)].map (·.1)) r' [(nm,Ob.row e' sz' xs')] w v μ' loc' w') (r:=r') (de:=[]) ho hc Rr rfl he (hC.mono ?_) ?_
     ·rintro e w' ⟨v,μ',loc',rfl,hP⟩
      exact ⟨v,rfl,μ',loc',hP⟩
     ·rintro v w' ⟨μ',loc',hP⟩
      have hlb:∀b,BM (gi L.q mL ([(10000,Ob.row e sz xs)].map (·.1))) b→ff (loc id) b:=by
       rintro b ⟨i,x,hx,J6⟩
       simp only [gi] at hx;split at hx
       ·injection hx with hx;subst hx;exact J6
       ·cases hx
      have h1:=(hR.drop id).world (w':=w') (μ':=μ') hP.ext.1 (fun b j x hx=>by
        rcases hP.ext.2 b j x hx with hx|hx
        ·exact .inl hx
        ·exact .inr (Nat.le_trans hR.grown hx)) hP.ou (fun k ok hk b hbk=>by
        by_cases e':id=k
        ·subst e';simp [bD] at hk
        ·simp only [aN _ _ e'] at hk
         obtain ⟨_,hlt,nR⟩:=(hR.obs k ok hk).block b hbk;refine ⟨hP.keep b hlt (fun hl=>hR.apart id k _ ok cz hk e' b (hlb b hl) hbk),fun j=> ?_⟩;cases hj:μ' b j with
         |none=>rfl
         |some x=>
          rcases hP.ext.2 b j x hj with hx|hx
          ·rw [nR j] at hx;cases hx
          ·omega) (fun b hb' hl=>hP.keep b (Nat.lt_of_lt_of_le hb' hR.grown) (fun hl'=>by
        have hbb:=hlb b hl';rcases (hok.block b hbb).1 with hx|⟨x,hx,J6⟩
        ·omega
        ·exact hl ⟨id,x,hx,J6⟩)) hP.os hP.tape hP.output hP.grown hP.drawn
      have hnm:loc' nm=loc id:=by
       have:=beq_iff.1 hb.2;exact hP.fix nm (by simp [this]) (by omega)
      obtain ⟨us,hown,hrc,hm⟩:=hP.obs nm (.row e' sz' xs') (by simp [find,Nat.beq_refl]);rw [hnm] at hown hm;split at hv
      ·rename_i n
       cases AJ:(Nat.ble n xs'.length&&kP id) with
       |false=>rw [AJ] at hv;cases hv
       |true=>
       simp only [AJ,cond_true,Option.some.injEq] at hv;subst hv;simp only [Bool.and_eq_true] at AJ;have hnl:n≤xs'.length:=Nat.le_of_ble_eq_true AJ.1;obtain ⟨A,m,cp,Qk,hnm',hvv⟩:∃A m cp,loc' 10000= .slice A m cp∧n≤m∧v= .slice A n cp:=by
        rcases hP.res with hx|⟨n',A,m,cp,e1,_,h1,h2,h3⟩|⟨_,_,_,_,e1,_⟩
        ·rw [rep] at hx;exact hx.elim
        ·injection e1 with e1;subst e1;exact ⟨A,m,cp,h1,h2,h3⟩
        ·cases e1
       have e10:=beq_iff.1 hb.2;rw [e10] at hnm;rw [hnm] at Qk;have hid:id<10000∨20000≤id:=by
        have tY:=AJ.2;simp only [kP,Bool.or_eq_true] at tY;rcases tY with hm|hm
        ·left;simpa [Nat.blt_eq] using hm
        ·right;exact Nat.le_of_ble_eq_true (Bool.and_eq_true _ _▸hm).1
       have hblk:∀q,ff v q↔ff (loc id) q:=fun q=>by rw [hvv,Qk,eT,eT];cases A<;>rfl
       have h2:=h1.new (id:=id) (val:=v) (o:= .row e' sz' (xs'.take n)) hid ?_ (fun j oj hj hne q hq=>by
        simp only [aN _ _ (Ne.symm hne)] at hj
        exact hR.apart id j _ oj cz hj (Ne.symm hne) q ((hblk q).1 hq))
       ·have heq:(St.new { env:=st.env,ob:=put st.ob id none } id (.row e' sz' (xs'.take n)))=st.new id (.row e' sz' (xs'.take n)):=by
         simp only [St.new,St.cA]
         congr 1
         funext k
         by_cases e':id=k
         ·subst e';simp [bD]
         ·simp only [aN _ _ e']
        rw [heq] at h2;exact hK _ _ _ _ (h2.set hd (sv:= .row id) (D7 (by rw [hvv];rfl)))
       ·have hlen:(xs'.take n).length=n:=by simp;omega
        have Qm:=sU hrc n;refine ⟨us.take (n *sz'),⟨by rw [cC Qm],?_⟩,Qm,fun q hq=> ?_⟩
        ·rw [bH,hlen,hvv]
         rcases hown.2 with ⟨e1,e2⟩|⟨q,cap,cur,e1,k1,k2,k3,k4,k5,k6⟩
         ·rw [Qk] at e1
          simp only [Value.slice.injEq] at e1;obtain ⟨rfl,rfl,rfl⟩:=e1;have:n=0:=by omega
          subst this;exact .inl ⟨rfl,rfl⟩
         ·rw [Qk] at e1
          simp only [Value.slice.injEq] at e1;obtain ⟨rfl,rfl,rfl⟩:=e1;refine .inr ⟨q,cp,cur,rfl,k1,k2,by omega,k4,k5,?_⟩;rw [←k6,List.take_take,Nat.min_eq_left (Nat.mul_le_mul_right _ hnl)]
        ·rw [bH,hblk q] at hq
         exact ⟨(hok.block q hq).1,(hm q hq).2⟩
      ·rename_i FC
       cases vG:r'.plain with
       |false=>rw [vG] at hv;cases hv
       |true=>
       simp only [vG,cond_true,Option.some.injEq] at hv;subst hv;have nS:gB w0.heap.size L μ' loc w' id (.row e' sz' xs'):=⟨us,hown,hrc,fun q hq=>⟨(hok.block q hq).1,(hm q hq).2⟩⟩
       have h2:=h1.Uu (id:=id) (o:= .row e' sz' xs') (by simp [bD]) nS (fun j oj hj q hq=>by
        by_cases e':id=j
        ·subst e';simp [bD] at hj
        ·simp only [aN _ _ e'] at hj
         exact hR.apart id j _ oj cz hj e' q hq)
       have heq:({ env:=st.env,ob:=put (put st.ob id none) id (some (.row e' sz' xs')) }:St)={ env:=st.env,ob:=put st.ob id (some (.row e' sz' xs')) }:=by
        congr 1
        funext k
        by_cases e':id=k
        ·subst e';simp [bD]
        ·simp only [aN _ _ e']
       rw [heq] at h2;exact hK _ _ _ _ (h2.set hd (hP.pure (DQ vG)))
   ·cases hv
  ·cases hv
 ·cases hv
theorem kQ (hR:Rel N w0 μ0 L μ loc st a w):∀(l:List (Nat×TypeId×Nat)) (st:St) (loc:Nat→Value),Rel N w0 μ0 L μ loc st a w→(∀x∈l,x.1<10000)→
  ∃loc',Rel N w0 μ0 L μ loc' (lN l st) a w∧(∀x∈l,loc' x.1= .slice none 0 0)∧∀i,loc i= .slice none 0 0→loc' i= .slice none 0 0
 |[],st,loc,h,_=>⟨loc,h,by simp,fun _ h=>h⟩
 |(id,e,s)::l,st,loc,h,hl=>by
  have h1:=h.new (id:=id) (val:= .slice none 0 0) (o:= .row e s []) (.inl (hl (id,e,s) (by simp))) ⟨[],⟨by simp, .inl ⟨bH _ _ _,rfl⟩⟩,rfl,fun g hg=>by rw [bH] at hg;simp [ff,aQ] at hg⟩ (fun j oj hj hne g hg=>by simp [ff,aQ] at hg);obtain ⟨loc',h2,h3,h4⟩:=kQ hR l _ _ h1 (fun x hx=>hl x (by simp [hx]));refine ⟨loc',h2,fun x hx=> ?_,fun i hi=>h4 i ?_⟩
  ·rcases List.mem_cons.1 hx with rfl|hx
   ·exact h4 _ (bH _ _ _)
   ·exact h3 x hx
  ·by_cases e:i=id
   ·subst e;exact bH _ _ _
   ·rw [bM _ _ e];exact hi
theorem nj {d:Nat}:∀(j:Nat) (ts:List TypeId) (vs:List Value) (Eu:List SV) (l:List (Nat×TypeId×Nat)),lJ P d j ts vs=some (Eu,l)→
  (∀x∈l,x.1<10000)∧(∀u∈vs,u.oneCell'=true)∧∀(loc:Nat→Value),(∀x∈l,loc x.1= .slice none 0 0)→dZ μ loc Eu vs
 |j,[],[],Eu,l,hv=>by
  simp only [lJ,Option.some.injEq,Prod.mk.injEq] at hv;obtain ⟨rfl,rfl⟩:=hv;exact ⟨by simp,by simp,fun _ _=>rfl⟩
 |j,[],_::_,Eu,l,hv=>by simp [lJ] at hv
 |j,_::_,[],Eu,l,hv=>by simp [lJ] at hv
 |j,t::ts,v::vs,Eu,l,hv=>by
  simp only [lJ] at hv;split at hv
  ·rename_i svs' l' qR
   obtain ⟨i1,i2,i3⟩:=nj (j+1) ts vs svs' l' qR;split at hv
   ·rename_i e s hs
    cases hb:(Nat.blt 0 s&&Nat.blt (5000+16 *d+j) 10000) with
    |false=>rw [hb] at hv;cases hv
    |true=>
     simp only [hb,cond_true,Option.some.injEq,Prod.mk.injEq] at hv;obtain ⟨rfl,rfl⟩:=hv;simp only [Bool.and_eq_true] at hb;have hlt:5000+16 *d+j<10000:=by have:=hb.2;simpa [Nat.blt_eq] using this
     refine ⟨fun x hx=> ?_,fun u hu=> ?_,fun loc hl=> ?_⟩
     ·rcases List.mem_cons.1 hx with rfl|hx
      ·exact hlt
      ·exact i1 x hx
     ·rcases List.mem_cons.1 hu with rfl|hu
      ·rfl
      ·exact i2 u hu
     ·exact ⟨_,_,rfl,(by show _=c7 (loc _);rw [hl (5000+16 *d+j,e,s) (by simp)];rfl),i3 loc (fun x hx=>hl x (by simp [hx]))⟩
   ·simp only [Option.map_eq_some_iff,Prod.mk.injEq] at hv
    obtain ⟨av,hc,rfl,rfl⟩:=hv;have hr:=mU (μ:=μ) hc;refine ⟨i1,fun u hu=> ?_,fun loc hl=>⟨_,_,rfl,hr,i3 loc hl⟩⟩;rcases List.mem_cons.1 hu with rfl|hu
    ·unfold ofConst at hc
     split at hc<;>first|rfl|cases hc
    ·exact i2 u hu
  ·cases hv
theorem AR (hR:Rel N w0 μ0 L μ loc st a w) {o:Oper} {d:Nat} {t:TypeId} {Eu:List SV} {l:List (Nat×TypeId×Nat)} (hd:d<N) (b9:o.dst=some d) (ho:o.op= .alloc t)
  (hz:((rN P t).bind fun vs=>lJ P d 0 (lK P 8 t) vs)=some (Eu,l)) (hK:iy N w0 μ0 L (((lN l st).new d (.box t (Eu.map (SV.cA d)))).set (some d) (.ptr d 0)) K):o.oC P a w K Q:=by
 obtain ⟨vs,hvs,hcs⟩:=Option.bind_eq_some_iff.1 hz;unfold rN at hvs;split at hvs
 ·rename_i i hi
  simp only [Option.map_eq_some_iff] at hvs;obtain ⟨v,VL,rfl⟩:=hvs;obtain ⟨h1,h2,h3⟩:=nj (μ:=μ) 0 _ _ _ _ hcs;obtain ⟨loc',qN,h4,_⟩:=kQ hR l st loc hR h1;refine um (v:=v) qN hd b9 ?_ (rf _ _ (h3 loc' h4)) h2 hK;unfold execOp;rw [ho];simp [Instr.alloc,zeroValue,typeInfo,hi,VL,newVar,newRow]
 ·cases hvs
theorem DP (hR:Rel N w0 μ0 L μ loc st a w) {s:SV} {l:List SV} {u:Value} (h:Jl st s=some l) (k:cH μ loc s u):dZ μ loc l u.cells.toList∧∀x∈u.cells.toList,x.oneCell'=true:=by
 unfold Jl at h;split at h
 ·rename_i cs
  injection h with h;subst h
  simp only [cH,rep] at k;obtain ⟨vs,rfl,h1,h2⟩:=k;exact ⟨by simpa [Value.cells] using jY h1,by simpa [Value.cells] using h2⟩
 ·cases ho:ko st s with
  |false=>rw [ho] at h;cases h
  |true=>
   rw [ho] at h;simp only [cond_true,Option.some.injEq] at h;subst h;obtain ⟨h1,h2⟩:=Ji hR ho k;rw [h2];exact ⟨⟨_,[],rfl,k,rfl⟩,by simpa using h1⟩
theorem w8 (hR:Rel N w0 μ0 L μ loc st a w) {place:Nat→Option (Nat×Nat)} {ty:Nat→TypeId}:∀{parts:List (Nat×Operand)} {ps:List (Nat×List SV)} {cells cs:List SV} {vs:List Value},uU P ty st parts=some ps→Fi place cells ps=some cs→dZ μ loc cells vs→(∀u∈vs,u.oneCell'=true)→
  ∃ws:List Value,Instr.fill place vs.toArray (parts.map fun p=>(p.1,a.eval p.2))=some ws.toArray∧dZ μ loc cs ws∧∀u∈ws,u.oneCell'=true
 |[],ps,cells,cs,vs=>fun h1 h2 h3 h4=>by
  simp only [uU,Option.some.injEq] at h1;subst h1;simp only [Fi,Option.some.injEq] at h2;subst h2;exact ⟨vs,by simp [Instr.fill],h3,h4⟩
 |(i,x)::parts,ps,cells,cs,vs=>fun h1 h2 h3 h4=>by
  simp only [uU] at h1;split at h1
  ·rename_i l rest hx qR
   injection h1 with h1;subst h1
   obtain ⟨sx,Tf,hl⟩:=Option.bind_eq_some_iff.1 hx;obtain ⟨hc,hone⟩:=DP hR hl (aG hR Tf);simp only [Fi] at h2;split at h2
   ·cases h2
   ·rename_i off size vG
    split at h2
    ·rename_i c9
     have hlen:(a.eval x).cells.size=size:=by
      have:=iJ hc;simpa [c9.1] using this
     have hvl:=iJ h3;have hnews:=iI (iI (tM h3 off) hc) (tL h3 (off+size))
     obtain ⟨ws,hw,hr,ho⟩:=w8 hR qR h2 hnews (fun u hu=>by
      simp only [List.mem_append] at hu;rcases hu with (hu|hu)|hu
      ·exact h4 u (List.mem_of_mem_take hu)
      ·exact hone u hu
      ·exact h4 u (List.mem_of_mem_drop hu))
     refine ⟨ws,?_,hr,ho⟩;simp only [List.map_cons,Instr.fill,vG];rw [if_neg (by simp [hlen];omega)];rw [←hw]
     congr 1
     have hsp:=xS vs (a.eval x).cells.toList off 0 (by simp;omega);simp only [Nat.add_zero,Array.length_toList,hlen] at hsp;rw [←hsp,←Array.foldl_toList,Array.toList_zipIdx]
    ·cases h2
  ·cases h1
theorem sE:∀{cs:List SV} {caps:List jl} {vs:List Value},ug st cs=some caps→dZ μ loc cs vs→fE μ loc caps vs
 |[],caps,vs=>fun h k=>by simp only [ug,Option.some.injEq] at h;subst h;exact k
 |s::cs,caps,vs=>fun h ⟨u,us,e,k1,k2⟩=>by
  simp only [ug] at h;split at h
  ·rename_i c rest hc qR
   injection h with h;subst h
   refine ⟨u,us,e,?_,sE qR k2⟩;unfold Rg at hc;cases ho:ko st s with
   |false=>rw [ho] at hc;cases hc
   |true=>
    rw [ho] at hc;simp only [cond_true] at hc;split at hc
    ·injection hc with hc;subst hc;exact k1
    ·injection hc with hc;subst hc;exact k1
    ·cases hc
  ·cases h
theorem AT (hR:Rel N w0 μ0 L μ loc st a w) {o:Oper} {d:Nat} {t:TypeId} {parts:Array (Nat×Operand)} (hd:d<N) (b9:o.dst=some d) (ho:o.op= .build t parts) (h:vC P st d t parts.toList=some st') (hK:iy N w0 μ0 L st' K):o.oC P a w K Q:=by
 unfold vC at h;split at h
 ·rename_i fs Eu l hu hz
  cases Lh:fs.toList.all (fun f=>(fH P f.type).isSome) with
  |false=>rw [Lh] at h;cases h
  |true=>
   rw [Lh] at h;simp only [cond_true] at h;split at h
   ·rename_i ps hps
    split at h
    ·rename_i cs hcs
     injection h with h;subst h
     obtain ⟨sv2,hf,hca⟩:=Option.bind_eq_some_iff.1 hcs;obtain ⟨vs,hvs,hcell⟩:=Option.bind_eq_some_iff.1 hz;unfold rN at hvs;split at hvs
     ·rename_i i hi
      simp only [Option.map_eq_some_iff] at hvs;obtain ⟨v,VL,rfl⟩:=hvs;obtain ⟨h1,h2,h3⟩:=nj (μ:=μ) 0 _ _ _ _ hcell;obtain ⟨loc',qN,h4,_⟩:=kQ hR l st loc hR h1;obtain ⟨ws,hw,hr,hone⟩:=w8 qN hps hf (h3 loc' h4) h2;refine dW (v:= .agg ws.toArray) (w':=w) ?_ ?_
      ·obtain ⟨fl⟩:=fs
       have vG:=run_places (P:=P) (w:=w) fl Lh;have hpe:(fun x=>Option.map (fun f:Field=>(f.offset,(fH P f.type).getD 0)) fl[x]?)=iw P t:=by
        funext x
        simp only [iw,mP,hu,List.getElem?_toArray];cases hx:fl[x]? with
        |none=>rfl
        |some fd=>
         obtain ⟨n,hn⟩:=Option.isSome_iff_exists.1 (List.all_eq_true.1 Lh fd (List.mem_of_getElem? hx));simp [hn]
       simp only [Array.toArray_toList] at hw;unfold execOp;rw [ho];simp [Instr.build,zeroValue,typeInfo,hi,VL,run_underlying hu,vG,hpe,hw]
      ·rw [b9]
       exact hK _ _ _ _ (qN.set (fun i hi=>by injection hi with hi;omega) ⟨ws,rfl,sE hca hr,hone⟩)
     ·cases hvs
    ·cases h
   ·cases h
 ·cases h
theorem mu:∀{l:List Nat},distinct l=true→l.Nodup
 |[],_=>List.nodup_nil
 |x::l,h=>by
  simp only [distinct,Bool.and_eq_true,Bool.not_eq_true'] at h;refine List.nodup_cons.2 ⟨fun hm=> ?_,mu h.2⟩;have:l.contains x=true:=by simpa using hm
  rw [this] at h;cases h.1
theorem lX {α:Type}:∀{l:List (Nat×α)} {i:Nat} {v:α},find l i=some v→(i,v)∈l
 |[],_,_,h=>by simp [find] at h
 |(j,u)::l,i,v,h=>by
  simp only [find] at h;cases hb:Nat.beq j i with
  |true=>simp only [hb,cond_true,Option.some.injEq] at h;have:=beq_iff.1 hb;subst this;subst h;simp
  |false=>simp only [hb,cond_false] at h;exact List.mem_cons_of_mem _ (lX h)
theorem BC {α:Type}:∀{l:List (Nat×α)} {i:Nat},find l i=none→i∉l.map (·.1)
 |[],_,_=>by simp
 |(j,u)::l,i,h=>by
  simp only [find] at h;cases hb:Nat.beq j i with
  |true=>simp [hb] at h
  |false=>
   simp only [hb,cond_false] at h;simp only [List.map_cons,List.mem_cons,not_or];exact ⟨fun e=>by subst e;simp [Nat.beq_refl] at hb,BC h⟩
theorem iC {α:Type}:∀{l:List (Nat×α)} {i:Nat} {v:α},(l.map (·.1)).Nodup→(i,v)∈l→find l i=some v
 |[],_,_,_,h=>by simp at h
 |(j,u)::l,i,v,hn,h=>by
  simp only [List.map_cons,List.nodup_cons] at hn;simp only [find];rcases List.mem_cons.1 h with h|h
  ·injection h with h1 h2;subst h1;subst h2;simp [Nat.beq_refl]
  ·have:j≠i:=fun e=>by subst e;exact hn.1 (List.mem_map.2 ⟨_,h,rfl⟩)
   rw [Mv this];exact iC hn.2 h
theorem mR (mv:Nat→Bool):∀(k:Nat) (l:List Nat),(gU mv k l).map (·.1)=l
 |_,[]=>rfl
 |k,id::l=>by simp [gU,mR mv (k+1) l]
theorem nD (mv:Nat→Bool):∀(k:Nat) (l:List Nat),k+l.length≤10000→∀p∈gU mv k l,(mv p.1=true→20000+k≤p.2)∧(mv p.1=false→10000+k≤p.2∧p.2<20000)
 |_,[],_,p,h=>by simp [gU] at h
 |k,id::l,hk,p,h=>by
  simp only [List.length_cons] at hk;simp only [gU,List.mem_cons] at h;rcases h with rfl|h
  ·cases hm:mv id<;>simp [hm]<;>omega
  ·have:=nD mv (k+1) l (by omega) p h
   exact ⟨fun e=>by have:=this.1 e;omega,fun e=>by have:=this.2 e;omega⟩
theorem nC (mv:Nat→Bool):∀(k:Nat) (l:List Nat),k+l.length≤10000→((gU mv k l).map (·.2)).Nodup
 |_,[],_=>by simp [gU]
 |k,id::l,hk=>by
  simp only [List.length_cons] at hk;simp only [gU,List.map_cons,List.nodup_cons];refine ⟨fun hm=> ?_,nC mv (k+1) l (by omega)⟩;obtain ⟨p,hp,e⟩:=List.mem_map.1 hm;have:=nD mv (k+1) l (by omega) p hp;cases h1:mv p.1 with
  |true=>have h2:=this.1 h1;cases h3:mv id<;>simp [h3] at e<;>omega
  |false=>have h2:=this.2 h1;cases h3:mv id<;>simp [h3] at e<;>omega
theorem An:∀(m:List (Nat×Nat)),(swap m).map (·.1)=m.map (·.2)
 |[]=>rfl
 |(a,b)::l=>by simp [swap,An l]
theorem zH:∀{m:List (Nat×Nat)} {a b:Nat},(a,b)∈m→(b,a)∈swap m
 |(x,y)::l,a,b,h=>by
  rcases List.mem_cons.1 h with h|h
  ·injection h with h1 h2;subst h1;subst h2;simp [swap]
  ·simp only [swap];exact List.mem_cons_of_mem _ (zH h)
theorem q8 {loc loc':Nat→Value} {ρ:Nat→Nat} {names:List Nat} (hρ:∀j∈names,loc' (ρ j)=loc j):∀{cs:List jl} {vs:List Value},SV.closed names (.cl 0 cs)=true→fE μ loc cs vs→fE μ loc' (cs.map (jl.lq ρ)) vs
 |[],vs,_,h=>h
 |c::cs,vs,hc,⟨u,us,e,h1,h2⟩=>by
  simp only [SV.closed,List.all_cons,Bool.and_eq_true] at hc;refine ⟨u,us,e,?_,q8 hρ (by simpa [SV.closed] using hc.2) h2⟩;cases c with
  |v a=>exact h1
  |p id=>obtain ⟨b,k1,k2⟩:=h1;exact ⟨b,by rw [hρ id (by simpa using hc.1)];exact k1,k2⟩
  |r id=>show u=c7 (loc' (ρ id));rw [hρ id (by simpa using hc.1)];exact h1
theorem Gm {loc loc':Nat→Value} {ρ:Nat→Nat} {names:List Nat} (hρ:∀j∈names,loc' (ρ j)=loc j) {s:SV} {v:Value} (hc:s.closed names=true) (h:cH μ loc s v):cH μ loc' (s.lq ρ) v:=by
 induction s generalizing v with
 |two s b ih=>obtain ⟨x,e,h⟩:=h;exact ⟨x,e,ih (by simpa [SV.closed] using hc) h⟩
 |undef=>exact h
 |any=>exact h
 |pv x=>exact h
 |cp cs=>exact h
 |ptr j off=>obtain ⟨b,h1,h2⟩:=h;exact ⟨b,by rw [hρ j (by simpa [SV.closed] using hc)];exact h1,h2⟩
 |row j=>show v=c7 (loc' (ρ j));rw [hρ j (by simpa [SV.closed] using hc)];exact h
 |rp j sz i off=>obtain ⟨g,n,c,h1,h2⟩:=h;exact ⟨g,n,c,by rw [hρ j (by simpa [SV.closed] using hc)];exact h1,h2⟩
 |sub j sz lo hi=>obtain ⟨A,n,c,A',c',h1,h2⟩:=h;exact ⟨A,n,c,A',c',by rw [hρ j (by simpa [SV.closed] using hc)];exact h1,h2⟩
 |cl f caps=>obtain ⟨vs,e,h1⟩:=h;exact ⟨vs,e,q8 hρ (by simpa [SV.closed] using hc) h1⟩
 |ag caps=>obtain ⟨vs,e,h1,h2⟩:=h;exact ⟨vs,e,q8 hρ (by simpa [SV.closed] using hc) h1,h2⟩
theorem wq {loc loc':Nat→Value} {ρ:Nat→Nat} {names:List Nat} (hρ:∀j∈names,loc' (ρ j)=loc j):∀{cs:List SV} {vs:List Value},cs.all (SV.closed names)=true→dZ μ loc cs vs→dZ μ loc' (cs.map (SV.lq ρ)) vs
 |[],vs,_,h=>h
 |c::cs,vs,hc,⟨u,us,e,h1,h2⟩=>by
  simp only [List.all_cons,Bool.and_eq_true] at hc;exact ⟨u,us,e,Gm hρ hc.1 h1,wq hρ hc.2 h2⟩
theorem zM {n0 n0':Nat} {L L':ku} {loc loc':Nat→Value} {ρ:Nat→Nat} {names:List Nat} (hρ:∀j∈names,loc' (ρ j)=loc j) {id id':Nat} {o:Ob} (hc:o.closed names=true) (h:gB n0 L μ loc w id o) (hid:loc' id'=loc id)
  (hown:∀b,ff (loc id) b→yd n0' L' id' b):gB n0' L' μ loc' w id' (o.lq ρ):=by
 cases o with
 |box t cells=>
  obtain ⟨b,vs,hl,ho,hh,hm,hs,h1⟩:=h;exact ⟨b,vs,by rw [hid];exact hl,hown b (by rw [hl];exact jj.2 rfl),hh,hm,wq hρ hc hs,h1⟩
 |row e sz xs=>
  obtain ⟨vs,hw,hrc,hm⟩:=h;exact ⟨vs,by rw [hid];exact hw,hrc,fun g hg=>by rw [hid] at hg;exact ⟨hown g hg,(hm g hg).2⟩⟩
 |mp k e ks es=>
  obtain ⟨b,bz,clock,hl,ho,hh,hm,h1,h2,hB⟩:=h;exact ⟨b,bz,clock,by rw [hid];exact hl,hown b (by rw [hl];exact lM.2 rfl),hh,hm,h1,h2,hB⟩
 |mr k e sz ks vs=>simp [Ob.closed] at hc
 |rn e s k e' s' xs ys=>simp [Ob.closed] at hc
 |it s pos=>
  obtain ⟨b,hl,ho,hh,hm⟩:=h;exact ⟨b,by rw [hid];exact hl,hown b (by rw [hl];exact jj.2 rfl),hh,hm⟩
theorem uZ {tm:Nat→Option Value}:∀(l:List Nat) (st:St) (loc iF:Nat→Value),(∀i,i∉l→iF i=loc i)→(∀i s,st.env i=some s→∃v,tm i=some v∧cH μ loc s v)→∀i s,(lg l st).env i=some s→∃v,tm i=some v∧cH μ iF s v
 |[],st,loc,iF,hl,h,i,s,hs=>by
  have:iF=loc:=funext fun i=>hl i (by simp)
  rw [this];exact h i s hs
 |id::l,st,loc,iF,hl,h,i,s,hs=>by
  refine uZ l (st.cA id) (lW loc id (iF id)) iF (fun i hi=> ?_) (fun i s hs=> ?_) i s hs
  ·by_cases e:i=id
   ·subst e;rw [bH]
   ·rw [bM _ _ e];exact hl i (by simp [e,hi])
  ·simp only [St.cA,Option.map_eq_some_iff] at hs
   obtain ⟨s0,hs0,rfl⟩:=hs;obtain ⟨v,hv,hr⟩:=h i s0 hs0;exact ⟨v,hv,pY hr⟩
theorem xJ:∀(l:List Nat) (st:St) (loc iF:Nat→Value),(∀i,i∉l→iF i=loc i)→∀i o',(lg l st).ob i=some o'→i∉l∧∃o,st.ob i=some o∧∀n0 L μ w,gB n0 L μ loc w i o→gB n0 L μ iF w i o'
 |[],st,loc,iF,hl,i,o',ho=>by
  have:iF=loc:=funext fun i=>hl i (by simp)
  rw [this];exact ⟨by simp,o',ho,fun _ _ _ _ h=>h⟩
 |id::l,st,loc,iF,hl,i,o',ho=>by
  obtain ⟨h1,o1,h2,h3⟩:=xJ l (st.cA id) (lW loc id (iF id)) iF (fun i hi=>by
   by_cases e:i=id
   ·subst e;rw [bH]
   ·rw [bM _ _ e];exact hl i (by simp [e,hi])) i o' ho
  by_cases e:id=i
  ·subst e;simp [St.cA,bD] at h2
  ·simp only [St.cA,aN _ _ e,Option.map_eq_some_iff] at h2
   obtain ⟨o,ho,rfl⟩:=h2;exact ⟨by simp [Ne.symm e,h1],o,ho,fun n0 L μ w h=>h3 n0 L μ w (tI h (Ne.symm e))⟩
theorem ue (hR:Rel N w0 μ0 L μ loc st a w):∀{xs:List Operand} {ts:List TypeId} {vs:List SV},ng P h st xs ts=some vs→dZ μ loc vs (xs.map a.eval)
 |[],ts,vs,hv=>by simp only [ng,Option.some.injEq] at hv;subst hv;rfl
 |x::xs,ts,vs,hv=>by
  simp only [ng] at hv;split at hv
  ·rename_i v vs' h1 h2
   injection hv with hv;subst hv
   refine ⟨_,_,rfl,?_,ue hR h2⟩;unfold Mr at h1;split at h1
   all_goals first
    |(rename_i hx;injection h1 with h1;subst h1;exact aG hR hx)
    |cases h1
    |(rename_i hx;cases hb:isRef h x with
      |false=>rw [hb] at h1;cases h1
      |true=>rw [hb] at h1;simp only [cond_true,Option.some.injEq] at h1;subst h1;exact aG hR hx)
  ·cases hv
theorem sM {ids:List Nat} {ρ:Nat→Nat}:∀{l:List (Nat×Nat)} {bG:List (Nat×Ob)},fS st ids ρ l=some bG→bG.map (·.1)=l.map (·.2)∧∀nm o',(nm,o')∈bG→∃id o,(id,nm)∈l∧st.ob id=some o∧o.closed ids=true∧o'=o.lq ρ
 |[],bG,hv=>by simp only [fS,Option.some.injEq] at hv;subst hv;simp
 |(id,nm)::l,bG,hv=>by
  simp only [fS] at hv;split at hv
  ·rename_i o os ho hos
   cases hc:o.closed ids with
   |false=>rw [hc] at hv;cases hv
   |true=>
    simp only [hc,cond_true,Option.some.injEq] at hv;subst hv;obtain ⟨h1,h2⟩:=sM hos;refine ⟨by simp [h1],fun Jb o' hm=> ?_⟩;rcases List.mem_cons.1 hm with hm|hm
    ·injection hm with e1 e2;subst e1;subst e2;exact ⟨id,o,by simp,ho,hc,rfl⟩
    ·obtain ⟨id',o1,k1,k2⟩:=h2 Jb o' hm
     exact ⟨id',o1,by simp [k1],k2⟩
  ·cases hv
theorem sC {names:List Nat} {ρ:Nat→Nat}:∀{l:List (Nat×Nat)} {bG back:List (Nat×Ob)},kO names ρ l bG=some back→bG.map (·.1)=l.map (·.2)∧back.map (·.1)=l.map (·.1)∧∀id o',(id,o')∈back→∃nm o,(id,nm)∈l∧(nm,o)∈bG∧o.closed names=true∧o'=o.lq ρ
 |[],[],back,hv=>by simp only [kO,Option.some.injEq] at hv;subst hv;simp
 |[],_::_,back,hv=>by simp [kO] at hv
 |_::_,[],back,hv=>by simp [kO] at hv
 |(id,nm)::l,(Jb,o)::os,back,hv=>by
  simp only [kO] at hv;cases hb:(Nat.beq nm Jb&&o.closed names) with
  |false=>rw [hb] at hv;cases hv
  |true=>
   simp only [hb,cond_true,Option.map_eq_some_iff] at hv;obtain ⟨r,hr,rfl⟩:=hv;simp only [Bool.and_eq_true] at hb;have:=beq_iff.1 hb.1;subst this;obtain ⟨h1,h2,h3⟩:=sC hr;refine ⟨by simp [h1],by simp [h2],fun id' o' hm=> ?_⟩;rcases List.mem_cons.1 hm with hm|hm
   ·injection hm with e1 e2;subst e1;subst e2;exact ⟨nm,o,by simp,by simp,hb.2,rfl⟩
   ·obtain ⟨nm1,o1,k1,k2,k3⟩:=h3 id' o' hm
    exact ⟨nm1,o1,by simp [k1],by simp [k2],k3⟩
theorem qG (hR:Rel N w0 μ0 L μ loc st a w) (eB:dD L.q μ0 P aV) {o:Oper} {c:Call} {f:Operand} {st1:St} (hd:∀i,o.dst=some i→i<N) (ho:o.op= .call c) (hc:c.callee= .value f)
  (hv:fU P h aV st c f o.dst=some st1) (hK:iy N w0 μ0 L st1 K):o.oC P a w K Q:=by
 unfold fU at hv;split at hv
 ·rename_i g caps vs hf hvs
  simp only [] at hv;generalize ya:eM st 200 ((vs++caps).flatMap SV.ids) []=ids at hv;generalize tY:r7 (o.dst.any h.stay.contains) st (wu (vs++caps))=mv at hv;generalize hm:gU mv 0 ids=m at hv;cases c9:(distinct ids&&Nat.blt ids.length 10000&&(vs++caps).all (SV.closed ids)) with
  |false=>rw [c9] at hv;cases hv
  |true=>
  simp only [c9,cond_true] at hv;simp only [Bool.and_eq_true] at c9;obtain ⟨⟨SP,hlen⟩,Vi⟩:=c9;have hlen:ids.length<10000:=by simpa [Nat.blt_eq] using hlen
  have hnd:=mu SP;have Ql:m.map (·.1)=ids:=by rw [←hm];exact mR _ _ _
  have Tc:∀p∈m,(mv p.1=true→20000≤p.2)∧(mv p.1=false→10000≤p.2∧p.2<20000):=by
   rw [←hm];intro p hp;have:=nD mv 0 ids (by omega) p hp;exact ⟨fun e=>by have:=this.1 e;omega,fun e=>by have:=this.2 e;omega⟩
  have tZ:(m.map (·.2)).Nodup:=by rw [←hm];exact nC mv 0 ids (by omega)
  have iE:∀id nm,(id,nm)∈m→find m id=some nm:=fun id nm hp=>iC (by rw [Ql];exact hnd) hp
  have hswap:∀id nm,(id,nm)∈m→find (swap m) nm=some id:=fun id nm hp=>iC (by rw [An];exact tZ) (zH hp)
  have hex:∀id∈ids,∃nm,(id,nm)∈m:=fun id hid=>by
   rw [←Ql] at hid;obtain ⟨p,hp,rfl⟩:=List.mem_map.1 hid;exact ⟨p.2,hp⟩
  let mL:Nat→Value:=fun nm=>match find (swap m) nm with
   |some id=>loc id
   |none=>loc nm
  have xu:∀id nm,(id,nm)∈m→mL nm=loc id:=fun id nm hp=>by simp only [mL,hswap id nm hp]
  have hren:∀id nm,(id,nm)∈m→jI m id=nm:=fun id nm hp=>by simp [jI,iE id nm hp]
  have Vy:∀id nm,(id,nm)∈m→jI (swap m) nm=id:=fun id nm hp=>by simp [jI,hswap id nm hp]
  have hρ:∀j∈ids,mL (jI m j)=loc j:=fun j hj=>by
   obtain ⟨nm,hp⟩:=hex j hj;rw [hren j nm hp,xu j nm hp]
  split at hv
  ·rename_i bG uA
   obtain ⟨hl1,Mc⟩:=sM uA;have hlnd:(bG.map (·.1)).Nodup:=by rw [hl1];exact tZ
   split at hv
   ·rename_i r de hr
    split at hv
    ·rename_i back sI
     obtain ⟨hb1,Qg,hb3⟩:=sC sI;have hbnd:(de.map (·.1)).Nodup:=by rw [hb1];exact tZ
     have hbid:back.map (·.1)=ids:=by rw [Qg,Ql]
     cases FC:r.gm with
     |false=>rw [FC] at hv;cases hv
     |true=>
     simp only [FC,cond_true,Option.some.injEq] at hv;subst hv;obtain ⟨sf,hsf,hfn⟩:=Option.bind_eq_some_iff.1 hf;have hfv:=aG hR hsf;obtain ⟨cs,Rr,hcs⟩:∃cs:List Value,a.eval f= .func (.func g) #[] cs.toArray∧dZ μ loc caps cs:=by
      unfold P9 at hfn;split at hfn
      ·simp only [Option.some.injEq,Prod.mk.injEq] at hfn
       obtain ⟨rfl,rfl⟩:=hfn;simp only [cH,rep] at hfv;obtain ⟨us,e,hu⟩:=hfv;exact ⟨us,e,jY hu⟩
      ·rename_i g' MG
       simp only [Option.some.injEq,Prod.mk.injEq] at hfn;obtain ⟨rfl,rfl⟩:=hfn;obtain ⟨us,e,hu⟩:=hfv;exact ⟨us,e,oN hu⟩
      ·cases hfn
     have hargs:=ue hR hvs;have hall:=wq hρ Vi (iI hargs hcs);have qP:∀i oi,find bG i=some oi→gB w.heap.size (gi L.q mL (bG.map (·.1))) μ mL w i oi:=by
      intro i oi hi;obtain ⟨id,ob,hp,cz,hoc,rfl⟩:=Mc i oi (lX hi);refine zM hρ hoc (hR.obs id _ cz) (xu id i hp) (fun b hb=> .inr ⟨loc id,?_,hb⟩);have:i∈bG.map (·.1):=by rw [hl1];exact List.mem_map.2 ⟨_,hp,rfl⟩
      simp only [gi,if_pos this,xu id i hp]
     have hapC:JL mL bG:=by
      intro i j oi oj hi hj hij q hq;obtain ⟨id,ob,hp,cz,_⟩:=Mc i oi (lX hi);obtain ⟨id',Uh,hp',nS,_⟩:=Mc j oj (lX hj);rw [xu id i hp] at hq;rw [xu id' j hp'];refine hR.apart id id' ob Uh cz nS (fun e=>hij ?_) q hq;subst e;have:=(iE id i hp).symm.trans (iE id j hp');injection this
     obtain ⟨he,hC⟩:=eB g _ _ r _ hr w μ mL (c.args.toList.map a.eval++cs) hR.base.1 hR.ou qP hapC hall;refine vu (R:=fun v w'=>∃μ' loc',eD L.q μ mL (bG.map (·.1)) r de w v μ' loc' w') (r:=r) (de:=[]) ho hc Rr rfl he (hC.mono ?_) ?_
     ·rintro e w' ⟨v,μ',loc',rfl,hP⟩
      exact ⟨v,rfl,μ',loc',hP⟩
     rintro v w' ⟨μ',loc',hP⟩
     let iF:Nat→Value:=fun i=>match find m i with
      |some nm=>loc' nm
      |none=>loc i
     have La:∀id nm,(id,nm)∈m→iF id=loc' nm:=fun id nm hp=>by simp only [iF,iE id nm hp]
     have J2:∀i,i∉ids.filter mv→iF i=loc i:=by
      intro i hi;cases J7:find m i with
      |none=>simp only [iF,J7]
      |some nm=>
       have hp:=lX J7;have hmem:i∈ids:=by rw [←Ql];exact List.mem_map.2 ⟨_,hp,rfl⟩
       have hmv0:mv i=false:=by
        cases hx:mv i with
        |false=>rfl
        |true=>exact absurd (List.mem_filter.2 ⟨hmem,hx⟩) hi
       rw [La i nm hp,hP.fix nm (by rw [hl1];exact List.mem_map.2 ⟨_,hp,rfl⟩) ((Tc _ hp).2 hmv0).2];exact xu i nm hp
     have hlb:∀b,BM (gi L.q mL (bG.map (·.1))) b→∃id ob,id∈ids∧st.ob id=some ob∧ff (loc id) b:=by
      rintro b ⟨nm,x,hx,J6⟩
      simp only [gi] at hx;split at hx
      ·rename_i hmem
       injection hx with hx;subst hx
       rw [hl1] at hmem;obtain ⟨p,hp,rfl⟩:=List.mem_map.1 hmem;rw [xu p.1 p.2 hp] at J6;obtain ⟨q,hq,e⟩:=List.mem_map.1 (show p.2∈bG.map (·.1) by rw [hl1];exact List.mem_map.2 ⟨_,hp,rfl⟩);obtain ⟨id,ob,k1,k2,_⟩:=Mc q.1 q.2 hq;rw [e] at k1;have:=(hswap p.1 p.2 hp).symm.trans (hswap id p.2 k1);injection this with this
       exact ⟨p.1,ob,by rw [←Ql];exact List.mem_map.2 ⟨_,hp,rfl⟩,by rw [this];exact k2,J6⟩
      ·cases hx
     have S7:∀i oi,st.ob i=some oi→i∉ids→gB w0.heap.size L μ' loc w' i oi:=by
      intro i oi hi hni;refine (hR.obs i oi hi).keep hP.ext.1 (fun b hb=> ?_);obtain ⟨_,hlt,nR⟩:=(hR.obs i oi hi).block b hb;refine ⟨hP.keep b hlt (fun hl=> ?_),fun j=> ?_⟩
      ·obtain ⟨id,ob,h1,h2,h3⟩:=hlb b hl
       exact hR.apart id i ob oi h2 hi (fun e=>hni (by rw [←e];exact h1)) b h3 hb
      ·cases hj:μ' b j with
       |none=>rfl
       |some x=>
        rcases hP.ext.2 b j x hj with hx|hx
        ·rw [nR j] at hx;cases hx
        ·omega
     have SM:∀id o',find back id=some o'→∃nm o,(id,nm)∈m∧find de nm=some o∧o.closed (m.map (·.2))=true∧o'=o.lq (jI (swap m)):=by
      intro id o' ym;obtain ⟨nm,o,h1,h2,h3,h4⟩:=hb3 id o' (lX ym);exact ⟨nm,o,h1,iC hbnd h2,h3,h4⟩
     have FD:∀id nm ob b,(id,nm)∈m→find de nm=some ob→ff (loc' nm) b→w.heap.size≤b∨ff (loc id) b:=by
      intro id nm ob b hp hfo hb;rcases ((hP.obs nm ob hfo).block b hb).1 with hx|⟨x,hx,J6⟩
      ·exact .inl hx
      ·right
       simp only [gi] at hx;split at hx
       ·injection hx with hx;subst hx;rw [xu id nm hp] at J6;exact J6
       ·cases hx
     have Rx:∀id nm,(id,nm)∈m→∃ob,st.ob id=some ob:=by
      intro id nm hp;obtain ⟨q,hq,e⟩:=List.mem_map.1 (show nm∈bG.map (·.1) by rw [hl1];exact List.mem_map.2 ⟨_,hp,rfl⟩);obtain ⟨id',ob,k1,k2,_⟩:=Mc q.1 q.2 hq;rw [e] at k1;have:=(hswap id nm hp).symm.trans (hswap id' nm k1);injection this with this
      exact ⟨ob,by rw [this];exact k2⟩
     have J8:∀i oi,((find back i).orElse fun _=>(lg (ids.filter mv) st).ob i)=some oi→gB w0.heap.size L μ' iF w' i oi∧((∃nm o,(i,nm)∈m∧find de nm=some o)∨(i∉ids∧∃o,st.ob i=some o)):=by
      intro i oi hi;cases ym:find back i with
      |some o'=>
       rw [ym] at hi;simp at hi;subst hi;obtain ⟨nm,ob,hp,hfo,CY,rfl⟩:=SM i o' ym;refine ⟨zM (names:=m.map (·.2)) (fun j hj=> ?_) CY (hP.obs nm ob hfo) (La i nm hp) (fun b hb=> ?_), .inl ⟨nm,ob,hp,hfo⟩⟩
       ·obtain ⟨q,hq,rfl⟩:=List.mem_map.1 hj
        rw [Vy q.1 q.2 hq,La q.1 q.2 hq]
       ·rcases FD i nm ob b hp hfo hb with hx|hx
        ·exact .inl (Nat.le_trans hR.grown hx)
        ·obtain ⟨ob0,S6⟩:=Rx i nm hp
         exact ((hR.obs i ob0 S6).block b hx).1
      |none=>
       rw [ym] at hi;have hni:i∉ids:=by rw [←hbid];exact BC ym
       have hi':(lg (ids.filter mv) st).ob i=some oi:=by simpa using hi
       obtain ⟨_,ob,cz,hk⟩:=xJ _ st loc iF J2 i oi hi';exact ⟨hk _ _ _ _ (S7 i ob cz hni), .inr ⟨hni,ob,cz⟩⟩
     refine hK _ _ μ' iF (Rel.set (sv:= .pv r) ?_ hd (hP.pure FC));refine ⟨hR.small,hR.names,?_,hR.size,hR.defers,?_,hP.ou,⟨hR.base.1.trans hP.ext.1,?_⟩,fun i oi hi=>(J8 i oi hi).1,?_,?_,hP.os.trans hR.os,hP.tape.trans hR.tape,hP.output.trans hR.output,Nat.le_trans hR.grown hP.grown,fun q=>Nat.le_trans (hR.drawn q) (hP.drawn q)⟩
     ·intro id x hx hlt
      rw [J2 id (fun hmem=> ?_)]
      ·exact hR.fix id x hx hlt
      ·have hmt:=(List.mem_filter.1 hmem).2
       rw [←tY] at hmt;simp only [r7,Bool.and_eq_true,kP,Bool.or_eq_true] at hmt;rcases hmt.1.1.2 with hh|hh
       ·have:id<10000:=by simpa [Nat.blt_eq] using hh
        rw [hR.names id this] at hx;cases hx
       ·have:=Nat.le_of_ble_eq_true hh.1;omega
     ·exact uZ (tm:=fun i=>a.tmps[i]?) _ st loc iF J2 (fun i s hs=>by
       obtain ⟨u,hu,hr⟩:=hR.env i s hs
       exact ⟨u,hu,wm hP.ext.1 hr⟩)
     ·intro b j x hx
      rcases hP.ext.2 b j x hx with hx|hx
      ·exact hR.base.2 b j x hx
      ·exact .inr (Nat.le_trans hR.grown hx)
     ·intro i j oi oj hi hj hij q hq
      have Jj:∀k ok,k∉ids→st.ob k=some ok→∀q,ff (iF k) q→ff (loc k) q∧q<w.heap.size:=by
       intro k ok hk hok q hq;have:iF k=loc k:=J2 k (fun hm=>hk (List.mem_filter.1 hm).1);rw [this] at hq;exact ⟨hq,((hR.obs k ok hok).block q hq).2.1⟩
      have mixed:∀i nm o j oj q,(i,nm)∈m→find de nm=some o→j∉ids→st.ob j=some oj→ff (iF i) q→ff (iF j) q→False:=by
       intro i nm o j oj q hp hfo hj Nz hqi BH;obtain ⟨hqj',hlt⟩:=Jj j oj hj Nz q BH;rw [La i nm hp] at hqi;rcases FD i nm o q hp hfo hqi with hx|hx
       ·omega
       ·obtain ⟨ob0,S6⟩:=Rx i nm hp
        exact hR.apart i j ob0 oj S6 Nz (fun e=>hj (by rw [←e,←Ql];exact List.mem_map.2 ⟨_,hp,rfl⟩)) q hx hqj'
      rcases (J8 i oi hi).2 with ⟨nm,o,hp,hfo⟩|⟨hni,ob,cz⟩
      ·rcases (J8 j oj hj).2 with ⟨Jb,o',hp',SX⟩|⟨Rw,Uh,nS⟩
       ·rw [La i nm hp] at hq
        rw [La j Jb hp'];refine hP.apart nm Jb o o' hfo SX (fun e=>hij ?_) q hq;subst e;have:=(hswap i nm hp).symm.trans (hswap j nm hp');injection this
       ·exact fun BH=>mixed i nm o j Uh q hp hfo Rw nS hq BH
      ·rcases (J8 j oj hj).2 with ⟨Jb,o',hp',SX⟩|⟨Rw,Uh,nS⟩
       ·exact fun BH=>mixed j Jb o' i ob q hp' SX hni cz BH hq
       ·obtain ⟨hqi,_⟩:=Jj i ob hni cz q hq
        intro BH;obtain ⟨BH,_⟩:=Jj j Uh Rw nS q BH;exact hR.apart i j ob Uh cz nS hij q hqi BH
     ·intro b hb hl
      refine (hP.keep b (Nat.lt_of_lt_of_le hb hR.grown) (fun hl'=> ?_)).trans (hR.keep b hb hl);obtain ⟨id,ob,_,h2,h3⟩:=hlb b hl';rcases ((hR.obs id ob h2).block b h3).1 with hx|⟨x,hx,J6⟩
      ·omega
      ·exact hl ⟨id,x,hx,J6⟩
    ·cases hv
   ·cases hv
  ·cases hv
 ·cases hv
mutual
theorem AV.lT:∀(a b:AV),AV.same a b=true→a=b
 | .bool a,b=>by cases b<;>simp [AV.same]
 | .int k a,b=>by cases b<;>simp [AV.same]
 | .str a,b=>by cases b<;>simp [AV.same]
 | .cE s xs,b=>by
  cases b<;>simp only [AV.same,Bool.and_eq_true,Bool.false_eq_true,false_imp_iff]
  rintro ⟨h1,h2⟩
  rw [beq_iff.1 h1,rB _ _ h2]
 | .agg a,b=>by
  cases b<;>simp only [AV.same,Bool.false_eq_true,false_imp_iff];intro h;rw [gL _ _ h]
 | .fn f a,b=>by
  cases b<;>simp only [AV.same,Bool.and_eq_true,Bool.false_eq_true,false_imp_iff]
  rintro ⟨h1,h2⟩
  rw [beq_iff.1 h1,gL _ _ h2]
 | .e9 a,b=>by
  cases b<;>simp only [AV.same,Bool.false_eq_true,false_imp_iff];intro h;rw [gL _ _ h]
 | .ref a,b=>by
  cases b<;>simp only [AV.same,Bool.false_eq_true,false_imp_iff];intro h;rw [gL _ _ h]
 | .mp a b,c=>by
  cases c<;>simp only [AV.same,Bool.and_eq_true,Bool.false_eq_true,false_imp_iff]
  rintro ⟨h1,h2⟩
  rw [gL _ _ h1,gL _ _ h2]
 | .self n,b=>by
  cases b<;>simp only [AV.same,Bool.false_eq_true,false_imp_iff];intro h;rw [beq_iff.1 h]
 | .pH,b=>by cases b<;>simp [AV.same]
 | .jL,b=>by cases b<;>simp [AV.same]
 | .hole,b=>by cases b<;>simp [AV.same]
theorem gL:∀(a b:List AV),kq a b=true→a=b
 |[],[]=>fun _=>rfl
 |[],_::_=>fun h=>by simp [kq] at h
 |_::_,[]=>fun h=>by simp [kq] at h
 |x::l,y::m=>fun h=>by
  simp only [kq,Bool.and_eq_true] at h;rw [AV.lT x y h.1,gL l m h.2]
theorem rB:∀(a b:List (List AV)),rA a b=true→a=b
 |[],[]=>fun _=>rfl
 |[],_::_=>fun h=>by simp [rA] at h
 |_::_,[]=>fun h=>by simp [rA] at h
 |x::l,y::m=>fun h=>by
  simp only [rA,Bool.and_eq_true] at h;rw [gL x y h.1,rB l m h.2]
end
mutual
theorem AV.iK:∀a:AV,AV.same a a=true
 | .bool a=>by simp [AV.same]
 | .int k a=>by simp [AV.same]
 | .str a=>by simp [AV.same]
 | .cE s xs=>by simp [AV.same,Nat.beq_refl,p8 xs]
 | .agg a=>by simp [AV.same,fP a]
 | .fn f a=>by simp [AV.same,Nat.beq_refl,fP a]
 | .e9 a=>by simp [AV.same,fP a]
 | .ref a=>by simp [AV.same,fP a]
 | .mp a b=>by simp [AV.same,fP a,fP b]
 | .self n=>by simp [AV.same,Nat.beq_refl]
 | .pH=>by simp [AV.same]
 | .jL=>by simp [AV.same]
 | .hole=>by simp [AV.same]
theorem fP:∀a:List AV,kq a a=true
 |[]=>rfl
 |x::l=>by simp [kq,AV.iK x,fP l]
theorem p8:∀a:List (List AV),rA a a=true
 |[]=>rfl
 |x::l=>by simp [rA,fP x,p8 l]
end
theorem jl.lT {a b:jl} (h:a.same b=true):a=b:=by
 cases a<;>cases b<;>simp only [jl.same,Bool.false_eq_true] at h
 ·rw [AV.lT _ _ h]
 ·rw [beq_iff.1 h]
 ·rw [beq_iff.1 h]
theorem jl.iK (a:jl):a.same a=true:=by
 cases a<;>simp [jl.same,AV.iK,Nat.beq_refl]
theorem ry:∀{a b:List jl},j4 a b=true→a=b
 |[],[]=>fun _=>rfl
 |[],_::_=>fun h=>by simp [j4] at h
 |_::_,[]=>fun h=>by simp [j4] at h
 |x::l,y::m=>fun h=>by
  simp only [j4,Bool.and_eq_true] at h;rw [jl.lT h.1,ry h.2]
theorem sV:∀a:List jl,j4 a a=true
 |[]=>rfl
 |x::l=>by simp [j4,jl.iK x,sV l]
theorem SV.lT {a b:SV} (h:a.same b=true):a=b:=by
 induction a generalizing b with
 |two s x ih=>
  cases b<;>simp only [SV.same,Bool.and_eq_true,Bool.false_eq_true] at h;rw [ih h.1,beq_iff_eq.1 h.2]
 |undef=>cases b<;>simp only [SV.same,Bool.false_eq_true] at h;rfl
 |any=>cases b<;>simp only [SV.same,Bool.false_eq_true] at h;rfl
 |pv x=>cases b<;>simp only [SV.same,Bool.false_eq_true] at h;rw [AV.lT _ _ h]
 |ptr x y=>cases b<;>simp only [SV.same,Bool.and_eq_true,Bool.false_eq_true] at h;rw [beq_iff.1 h.1,beq_iff.1 h.2]
 |row x=>cases b<;>simp only [SV.same,Bool.false_eq_true] at h;rw [beq_iff.1 h]
 |rp x y z u=>cases b<;>simp only [SV.same,Bool.and_eq_true,Bool.false_eq_true] at h;rw [beq_iff.1 h.1.1.1,beq_iff.1 h.1.1.2,beq_iff.1 h.1.2,beq_iff.1 h.2]
 |sub x y z u=>cases b<;>simp only [SV.same,Bool.and_eq_true,Bool.false_eq_true] at h;rw [beq_iff.1 h.1.1.1,beq_iff.1 h.1.1.2,beq_iff.1 h.1.2,beq_iff.1 h.2]
 |cp x=>cases b<;>simp only [SV.same,Bool.false_eq_true] at h;rw [gL _ _ h]
 |cl f x=>cases b<;>simp only [SV.same,Bool.and_eq_true,Bool.false_eq_true] at h;rw [beq_iff.1 h.1,ry h.2]
 |ag x=>cases b<;>simp only [SV.same,Bool.false_eq_true] at h;rw [ry h]
theorem SV.iK (a:SV):a.same a=true:=by
 induction a<;>simp [SV.same,AV.iK,Nat.beq_refl,fP,sV, *]
theorem Af:∀{a b:List SV},mW a b=true→a=b
 |[],[]=>fun _=>rfl
 |[],_::_=>fun h=>by simp [mW] at h
 |_::_,[]=>fun h=>by simp [mW] at h
 |x::l,y::m=>fun h=>by
  simp only [mW,Bool.and_eq_true] at h;rw [SV.lT h.1,Af h.2]
theorem vc:∀a:List SV,mW a a=true
 |[]=>rfl
 |x::l=>by simp [mW,SV.iK x,vc l]
theorem sd:∀{a b:List (Option (List (List AV)))},jB a b=true→a=b
 |[],[]=>fun _=>rfl
 |[],_::_=>fun h=>by simp [jB] at h
 |none::_,[]=>fun h=>by simp [jB] at h
 |some _::_,[]=>fun h=>by simp [jB] at h
 |some x::l,some y::m=>fun h=>by
  simp only [jB,Bool.and_eq_true] at h;rw [rB _ _ h.1,sd h.2]
 |none::l,none::m=>fun h=>by
  simp only [jB] at h;rw [sd h]
 |some _::_,none::_=>fun h=>by simp [jB] at h
 |none::_,some _::_=>fun h=>by simp [jB] at h
theorem rz:∀a:List (Option (List (List AV))),jB a a=true
 |[]=>rfl
 |some x::l=>by simp [jB,p8 x,rz l]
 |none::l=>by simp [jB,rz l]
theorem Ob.lT {a b:Ob} (h:a.same b=true):a=b:=by
 cases a<;>cases b<;>simp only [Ob.same,Bool.and_eq_true,Bool.false_eq_true] at h
 ·rw [beq_iff.1 h.1,Af h.2]
 ·rw [beq_iff.1 h.1.1,beq_iff.1 h.1.2,rB _ _ h.2]
 ·rw [beq_iff.1 h.1.1.1,beq_iff.1 h.1.1.2,gL _ _ h.1.2,gL _ _ h.2]
 ·rw [beq_iff.1 h.1.1.1.1,beq_iff.1 h.1.1.1.2,beq_iff.1 h.1.1.2,gL _ _ h.1.2,sd h.2]
 ·rw [of_decide_eq_true h.1,beq_iff.1 h.2]
 ·rw [beq_iff.1 h.1.1.1.1.1.1,beq_iff.1 h.1.1.1.1.1.2,beq_iff.1 h.1.1.1.1.2,beq_iff.1 h.1.1.1.2,beq_iff.1 h.1.1.2,rB _ _ h.1.2,sd h.2]
theorem Ob.iK (a:Ob):a.same a=true:=by
 cases a<;>simp [Ob.same,p8,Nat.beq_refl,fP,vc,rz]
theorem Ae:∀{a b:List (Nat×Ob)},lS a b=true→a=b
 |[],[]=>fun _=>rfl
 |[],_::_=>fun h=>by simp [lS] at h
 |_::_,[]=>fun h=>by simp [lS] at h
 |(i,x)::l,(j,y)::m=>fun h=>by
  simp only [lS,Bool.and_eq_true] at h;rw [beq_iff.1 h.1.1,Ob.lT h.1.2,Ae h.2]
theorem vb:∀a:List (Nat×Ob),lS a a=true
 |[]=>rfl
 |(i,x)::l=>by simp [lS,Nat.beq_refl,Ob.iK x,vb l]
theorem jl.mG {ρ ρ':Nat→Nat} {ids:List Nat} (h:∀j∈ids,ρ' (ρ j)=j):∀{cs:List jl},SV.closed ids (.cl 0 cs)=true→(cs.map (jl.lq ρ)).map (jl.lq ρ')=cs
 |[],_=>rfl
 |c::cs,hc=>by
  simp only [SV.closed,List.all_cons,Bool.and_eq_true] at hc;simp only [List.map_cons];rw [jl.mG h (by simpa [SV.closed] using hc.2)];cases c with
  |v a=>rfl
  |p id=>simp only [jl.lq];rw [h id (by simpa using hc.1)]
  |r id=>simp only [jl.lq];rw [h id (by simpa using hc.1)]
theorem SV.mG {ρ ρ':Nat→Nat} {ids:List Nat} (h:∀j∈ids,ρ' (ρ j)=j) {s:SV} (hc:s.closed ids=true):(s.lq ρ).lq ρ'=s:=by
 induction s with
 |two s b ih=>simp only [SV.lq];rw [ih (by simpa [SV.closed] using hc)]
 |ptr j off=>simp only [SV.lq];rw [h j (by simpa [SV.closed] using hc)]
 |row j=>simp only [SV.lq];rw [h j (by simpa [SV.closed] using hc)]
 |rp j sz i off=>simp only [SV.lq];rw [h j (by simpa [SV.closed] using hc)]
 |sub j sz lo hi=>simp only [SV.lq];rw [h j (by simpa [SV.closed] using hc)]
 |cl f caps=>simp only [SV.lq];rw [jl.mG h (by simpa [SV.closed] using hc)]
 |ag caps=>simp only [SV.lq];rw [jl.mG h (by simpa [SV.closed] using hc)]
 |_=>rfl
theorem lE {ρ:Nat→Nat} {ids names:List Nat} (h:∀j∈ids,ρ j∈names):∀{cs:List jl},SV.closed ids (.cl 0 cs)=true→SV.closed names (.cl 0 (cs.map (jl.lq ρ)))=true
 |[],_=>rfl
 |c::cs,hc=>by
  simp only [SV.closed,List.all_cons,Bool.and_eq_true] at hc;have ih:=lE h (cs:=cs) (by simpa [SV.closed] using hc.2);simp only [SV.closed,List.map_cons,List.all_cons,Bool.and_eq_true];refine ⟨?_,by simpa [SV.closed] using ih⟩;cases c with
  |v a=>rfl
  |p id=>simpa [jl.lq] using h id (by simpa using hc.1)
  |r id=>simpa [jl.lq] using h id (by simpa using hc.1)
theorem SV.s5 {ρ:Nat→Nat} {ids names:List Nat} (h:∀j∈ids,ρ j∈names) {s:SV} (hc:s.closed ids=true):(s.lq ρ).closed names=true:=by
 induction s with
 |two s b ih=>simp only [SV.lq,SV.closed];exact ih (by simpa [SV.closed] using hc)
 |ptr j off=>simpa [SV.lq,SV.closed] using h j (by simpa [SV.closed] using hc)
 |row j=>simpa [SV.lq,SV.closed] using h j (by simpa [SV.closed] using hc)
 |rp j sz i off=>simpa [SV.lq,SV.closed] using h j (by simpa [SV.closed] using hc)
 |sub j sz lo hi=>simpa [SV.lq,SV.closed] using h j (by simpa [SV.closed] using hc)
 |cl f caps=>have:=lE h (cs:=caps) (by simpa [SV.closed] using hc);simpa [SV.lq,SV.closed] using this
 |ag caps=>have:=lE h (cs:=caps) (by simpa [SV.closed] using hc);simpa [SV.lq,SV.closed] using this
 |_=>rfl
theorem Ob.mG {ρ ρ':Nat→Nat} {ids:List Nat} (h:∀j∈ids,ρ' (ρ j)=j) {o:Ob} (hc:o.closed ids=true):(o.lq ρ).lq ρ'=o:=by
 cases o with
 |box t cells=>
  simp only [Ob.lq,List.map_map]
  congr 1
  simp only [Ob.closed,List.all_eq_true] at hc;exact (List.map_congr_left fun s hs=>SV.mG h (hc s hs)).trans (List.map_id _)
 |_=>rfl
theorem Ob.s5 {ρ:Nat→Nat} {ids names:List Nat} (h:∀j∈ids,ρ j∈names) {o:Ob} (hc:o.closed ids=true):(o.lq ρ).closed names=true:=by
 cases o with
 |box t cells=>
  simp only [Ob.closed,List.all_eq_true] at hc;simp only [Ob.lq,Ob.closed,List.all_eq_true,List.mem_map]
  rintro _ ⟨s,hs,rfl⟩
  exact SV.s5 h (hc s hs)
 |mr k e s ks vs=>simp [Ob.closed] at hc
 |rn e s k e' s' xs ys=>simp [Ob.closed] at hc
 |_=>rfl
theorem Bu {ids names:List Nat} {ρ ρ':Nat→Nat} (h1:∀j∈ids,ρ' (ρ j)=j) (h2:∀j∈ids,ρ j∈names):∀{l:List (Nat×Nat)} {bG:List (Nat×Ob)},fS st ids ρ l=some bG→∃back,kO names ρ' l bG=some back∧∀i o,find back i=some o→st.ob i=some o
 |[],bG,hv=>by
  simp only [fS,Option.some.injEq] at hv;subst hv;exact ⟨[],rfl,fun i o h=>by simp [find] at h⟩
 |(id,nm)::l,bG,hv=>by
  simp only [fS] at hv;split at hv
  ·rename_i o os ho hos
   obtain ⟨hc,hv⟩:=(show o.closed ids=true∧some ((nm,o.lq ρ)::os)=some bG from by
    cases hc:o.closed ids with
    |false=>rw [hc] at hv;cases hv
    |true=>rw [hc] at hv;exact ⟨rfl,hv⟩)
   injection hv with hv
   subst hv;obtain ⟨back,hb,hg⟩:=Bu h1 h2 hos;refine ⟨(id,(o.lq ρ).lq ρ')::back,?_,fun i o' hf=> ?_⟩
   ·simp only [kO,Nat.beq_refl,Ob.s5 h2 hc,Bool.and_self,cond_true,hb,Option.map_some]
   ·simp only [find] at hf
    cases hbq:Nat.beq id i with
    |true=>
     simp only [hbq,cond_true,Option.some.injEq] at hf;rw [←beq_iff.1 hbq,ho,←hf,Ob.mG h1 hc]
    |false=>simp only [hbq,cond_false] at hf;exact hg i o' hf
  ·cases hv
theorem EU {c:Call} {f:Operand} {r:AV} {d:Option Nat} (hst:d.any h.stay.contains=true) (hv:kA P h aV st c f=some r):fU P h aV st c f d=some (st.set d (.pv r)):=by
 unfold kA at hv;split at hv
 ·rename_i g args hargs
  unfold pZ at hargs;split at hargs
  ·rename_i g' caps vs hf hvs
   simp only [Option.some.injEq,Prod.mk.injEq] at hargs;obtain ⟨rfl,rfl⟩:=hargs;have tY:r7 (d.any h.stay.contains) st (wu (vs++caps))=fun _=>false:=by
    funext id;simp only [r7,hst,Bool.not_true,Bool.and_false]
   have ya:eM st 200 ((vs++caps).flatMap SV.ids) []=fF st (vs++caps):=rfl;generalize fF st (vs++caps)=ids at hv ya;have hm:gU (fun _=>false) 0 ids=er ids:=rfl;cases c9:(distinct ids&&Nat.blt ids.length 10000&&(vs++caps).all (SV.closed ids)) with
   |false=>rw [c9] at hv;cases hv
   |true=>
   simp only [c9,cond_true] at hv;have Nv:=c9;simp only [Bool.and_eq_true] at Nv;obtain ⟨⟨SP,hlen⟩,Vi⟩:=Nv;have hlen:ids.length<10000:=by simpa [Nat.blt_eq] using hlen
   have hnd:=mu SP;have Ql:(er ids).map (·.1)=ids:=mR _ _ _;have tZ:((er ids).map (·.2)).Nodup:=nC _ 0 ids (by omega);have iE:∀id nm,(id,nm)∈er ids→find (er ids) id=some nm:=fun id nm hp=>iC (by rw [Ql];exact hnd) hp
   have hswap:∀id nm,(id,nm)∈er ids→find (swap (er ids)) nm=some id:=fun id nm hp=>iC (by rw [An];exact tZ) (zH hp)
   have hex:∀id∈ids,∃nm,(id,nm)∈er ids:=fun id hid=>by
    rw [←Ql] at hid;obtain ⟨p,hp,rfl⟩:=List.mem_map.1 hid;exact ⟨p.2,hp⟩
   split at hv
   ·rename_i bG uA
    split at hv
    ·rename_i r' de hr
     cases hs:(lS de bG&&r'.gm) with
     |false=>rw [hs] at hv;cases hv
     |true=>
      rw [hs] at hv;simp only [cond_true,Option.some.injEq] at hv;subst hv;simp only [Bool.and_eq_true] at hs;have e:=Ae hs.1;subst e
      obtain ⟨back,hb,hg⟩:=Bu (ids:=ids) (names:=(er ids).map (·.2)) (ρ:=jI (er ids)) (ρ':=jI (swap (er ids))) (fun j hj=>by
       obtain ⟨nm,hp⟩:=hex j hj
       simp [jI,iE j nm hp,hswap j nm hp]) (fun j hj=>by
       obtain ⟨nm,hp⟩:=hex j hj;simp only [jI,iE j nm hp,Option.getD_some]
       exact List.mem_map.2 ⟨(j,nm),hp,rfl⟩) uA
      unfold fU;simp only [hf,hvs,tY,ya,hm,c9,cond_true,uA,hr,hb,hs.2];have e1:lg (ids.filter fun _=>false) st=st:=by
       have e0:(ids.filter fun _=>false)=[]:=List.filter_eq_nil_iff.2 (fun _ _=>by decide);rw [e0];rfl
      rw [e1]
      congr 2
      congr 1
      funext i
      cases J7:find back i with
      |none=>rfl
      |some o=>rw [hg i o J7];rfl
    ·cases hv
   ·cases hv
  ·cases hargs
 ·cases hv
theorem zR (hR:Rel N w0 μ0 L μ loc st a w) {b:Bool}:∀{xs:List Operand} {ts:List TypeId} {vs:List AV},jW P b st xs ts=some vs→aU μ vs (xs.map a.eval):=by
 intro xs
 induction xs with
 |nil=>intro ts vs hv;simp only [jW,Option.some.injEq] at hv;subst hv;exact cu
 |cons x xs ih=>
  intro ts vs hv;simp only [jW] at hv;split at hv
  ·rename_i v us hx ua
   injection hv with hv;subst hv
   refine bA ?_ (ih ua);unfold DV at hx;cases hb:(b&&Ib x) with
   |true=>
    rw [hb] at hx;simp only [cond_true,Option.some.injEq] at hx;subst hx;rw [rep];have:=(Bool.and_eq_true_iff.1 hb).2;unfold Ib at this;split at this
    ·rfl
    ·cases this
   |false=>
    rw [hb] at hx;simp only [cond_false] at hx;obtain ⟨s,hs,hp⟩:=Option.bind_eq_some_iff.1 hx;have:=aG hR hs;cases s<;>simp [dS] at hp;subst hp;exact this
  ·cases hv
theorem nE:∀{cs:List AV} {l:List (Nat×TypeId×Nat)} {ks:List jl} {vs:List Value},kR cs l=some ks→(∀x∈l,loc x.1= .slice none 0 0)→aU μ cs vs→fE μ loc ks vs
 |[],l,ks,vs,hv,_,hr=>by
  simp only [kR,Option.some.injEq] at hv;subst hv;simpa [aU,fE] using hr
 |a::cs,l,ks,vs,hv,hl,hr=>by
  obtain ⟨u,us,rfl,h1,h2⟩:=hr;have other:∀{k':List jl},kR cs l=some k'→fE μ loc (.v a::k') (u::us):=fun hk=>⟨u,us,rfl,h1,nE hk hl h2⟩
  cases a with
  |jL=>
   cases l with
   |nil=>simp [kR] at hv
   |cons x l=>
    simp only [kR,Option.map_eq_some_iff] at hv;obtain ⟨k',hk,rfl⟩:=hv;rw [rep] at h1;refine ⟨u,us,rfl,?_,nE hk (fun y hy=>hl y (by simp [hy])) h2⟩;show u=c7 (loc x.1);rw [hl x (by simp),h1];rfl
  |_=>
   simp only [kR,Option.map_eq_some_iff] at hv;obtain ⟨k',hk,rfl⟩:=hv;exact other hk
theorem AP (hR:Rel N w0 μ0 L μ loc st a w) (eB:dD L.q μ0 P aV) {o:Oper} {c:Call} {f:Operand} {st1:St} (hd:∀i,o.dst=some i→i<N) (ho:o.op= .call c) (hc:c.callee= .value f)
  (hv:fu P h aV st c f o.dst=some st1) (hK:iy N w0 μ0 L st1 K):o.oC P a w K Q:=by
 unfold fu at hv;split at hv
 ·rename_i d b9
  split at hv
  ·rename_i g caps vs hf hvs
   obtain ⟨cs,Rr,hcs⟩:=y8 hR hf;have main:∀{r:AV},aV g ((vs++caps).map .pv) []=some (r,[])→(∀v w' μ' loc',eD L.q μ loc [] r [] w v μ' loc' w'→Rel N w0 μ0 L μ' loc st a w'→K (a.put o.dst v) w')→o.oC P a w K Q:=fun {r} hr hk=>by
    obtain ⟨he,hC⟩:=eB g _ [] _ [] hr w μ loc (c.args.toList.map a.eval++cs) hR.base.1 hR.ou (by simp [find]) (by intro i j oi oj hi;simp [find] at hi) (jY (gM (zR hR hvs) hcs));refine vu (R:=fun v w'=>∃μ' loc',eD L.q μ loc [] r [] w v μ' loc' w') (r:=r) (de:=[]) ho hc Rr rfl he (hC.mono ?_) ?_
    ·rintro e' w' ⟨v,μ',loc',rfl,hP⟩
     exact ⟨v,rfl,μ',loc',hP⟩
    ·rintro v w' ⟨μ',loc',hP⟩
     exact hk v w' μ' loc' hP (hR.grow hP.ext hP.ou (uf hP) hP.drawn)
   split at hv
   ·rename_i e sz xs hr
    cases hn:(mS h d).isSome with
    |true=>rw [hn] at hv;cases hv
    |false=>
    rw [hn] at hv;simp only [cond_false,Option.some.injEq] at hv;subst hv;refine main hr fun v w' μ' loc' hP h1=> ?_
    obtain ⟨us,hown,hrc,hblk⟩:∃us,w'.ownsRow 0 e sz v xs.length us∧bV μ' sz xs us∧∀g,aQ v=some g→w.heap.size≤g∧∀j,μ' g j=none:=by
     rcases hP.res with hx|⟨_,_,_,_,e1,_⟩|⟨e2,Um,xs2,us,e1,k1,k2,k3⟩
     ·simp only [rep,aU] at hx
      obtain ⟨_,_,_,_,_,⟨_,_,_,_,_,hx,_⟩,_⟩:=hx;exact hx.elim
     ·cases e1
     ·simp only [AV.e9.injEq,List.cons.injEq,AV.self.injEq,AV.cE.injEq,and_true] at e1
      obtain ⟨rfl,rfl,rfl⟩:=e1;exact ⟨us,k1,k2,fun g hg=>⟨(k3 g hg).1,(k3 g hg).2.1⟩⟩
    have hdN:=hd d b9;have hin:∀g,ff v g→aQ v=some g:=fun g hg=>by
     rcases hg with hg|⟨us',e1,_⟩
     ·exact hg
     ·subst e1
      rcases hown.2 with ⟨e2,_⟩|⟨_,_,_,e2,_⟩<;>cases e2
    have h2:=h1.new (id:=d) (val:=v) (o:= .row e sz xs) (.inl (Nat.lt_of_lt_of_le hdN hR.small)) ⟨us,by rw [bH];exact hown,hrc,fun g hg=>by
      rw [bH] at hg;obtain ⟨k1,k2⟩:=hblk g (hin g hg)
      exact ⟨.inl (Nat.le_trans hR.grown k1),k2⟩⟩ (fun j oj hj _ g hg hb=>by
     have k1:=(hblk g (hin g hg)).1;have:=((hR.obs j oj hj).block g hb).2.1
     omega)
    rw [b9];refine hK _ _ _ _ (h2.set (fun i hi=>(Option.some.inj hi)▸hdN) (sv:= .row d) ?_);show v=c7 (lW loc d v d);rw [bH];rcases hown.2 with ⟨e2,_⟩|⟨_,_,_,e2,_⟩<;>rw [e2]<;>rfl
   ·rename_i cs' hr
    split at hv
    ·injection hv with hv;subst hv
     refine main hr fun v w' μ' loc' hP h1=> ?_
     have hres:=hP.pure rfl;rw [b9];exact hK _ _ _ _ (h1.set (fun i hi=>hd i (b9.trans hi)) (sv:= .pv (.agg cs')) hres)
    ·rename_i l _ hl
     split at hv
     ·rename_i ks hks
      cases hb:l.all (fun x=>Nat.blt x.1 10000) with
      |false=>rw [hb] at hv;cases hv
      |true=>
      rw [hb] at hv;simp only [cond_true,Option.some.injEq] at hv;subst hv;refine main hr fun v w' μ' loc' hP h1=> ?_
      have hres:=hP.pure rfl;rw [rep] at hres;obtain ⟨vs',rfl,hra,hone⟩:=hres;obtain ⟨iF,h2,h3,_⟩:=kQ h1 l _ _ h1 (fun x hx=>Nat.blt_eq.mp (List.all_eq_true.1 hb x hx));rw [b9];exact hK _ _ _ _ (h2.set (fun i hi=>hd i (b9.trans hi)) (sv:= .ag ks) ⟨vs',rfl,nE hks h3 hra,hone⟩)
     ·cases hv
    ·cases hv
   ·cases hv
  ·cases hv
 ·cases hv
theorem CK (hR:Rel N w0 μ0 L μ loc st a w) (eB:dD L.q μ0 P aV) {o:Oper} {c:Call} {f:Operand} {r:AV} (hd:∀i,o.dst=some i→i<N) (ho:o.op= .call c) (hc:c.callee= .value f) (hst:o.dst.any h.stay.contains=true)
  (hv:kA P h aV st c f=some r) (hK:iy N w0 μ0 L (st.set o.dst (.pv r)) K):o.oC P a w K Q:=
 qG hR eB hd ho hc (EU hst hv) hK
theorem HR (hR:Rel N w0 μ0 L μ loc st a w) (eB:dD L.q μ0 P aV) {o:Oper} {v:SV} (hd:∀i,o.dst=some i→i<N) (hv:cr P h aV o st=some v) (hK:iy N w0 μ0 L (st.set o.dst v) K):o.oC P a w K Q:=by
 unfold cr at hv;split at hv
 ·rename_i t len parts ho
  cases hb:o.dst.any h.rows.contains with
  |true=>simp [hb] at hv
  |false=>
   simp only [hb,cond_false] at hv;cases hl:jS P t len parts.toList st with
   |none=>simp [hl] at hv
   |some x=>
    obtain ⟨e,s,xs⟩:=x;simp [hl] at hv;subst hv;exact HP hR hd ho hl hK
 ·rename_i c ho
  split at hv
  ·rename_i f hc
   replace hv:=tJ hv
   cases hro:(o.dst.any h.stay.contains&&wide st c f) with
   |true=>
    rw [hro] at hv;simp only [cond_true,Option.map_eq_some_iff] at hv;obtain ⟨r,hr,rfl⟩:=hv;rw [Bool.and_eq_true] at hro;exact CK hR eB hd ho hc hro.1 hr hK
   |false=>
   rw [hro] at hv
   replace hv:=tJ hv
   split at hv
   ·rename_i g caps vs hf hvs
    split at hv
    ·rename_i r hr
     cases hp:((!(c.args.toList.any (jJ st))||r.plain)&&r.gm) with
     |true=>
      simp only [hp,cond_true,Option.some.injEq] at hv;subst hv;rw [Bool.and_eq_true] at hp;exact yQ hR eB hd ho hc hf hvs hr (by rw [Bool.or_comm];exact hp.1) hp.2 hK
     |false=>rw [hp] at hv;cases hv
    ·cases hv
   ·cases hv
  ·exact j9 hR hd (xk hR ho hv) hK
 ·rename_i t x k ok ho
  exact j9 hR hd (pV hR (tJ hv)) hK
 ·rename_i t parts ho
  exact j9 hR hd (Fu hR ho (tJ hv)) hK
 ·rename_i g first caps ho
  cases J7:first.isEmpty with
  |false=>simp [J7] at hv
  |true=>
   simp only [J7,cond_true] at hv;have hf0:first= #[]:=by simpa using J7
   have run:(execOp a.eval o).run P w= .ok (.value (.func (.func g) #[] (caps.toList.map a.eval).toArray)) w:=by
    unfold execOp;rw [ho,hf0];have e:caps.map a.eval=(caps.toList.map a.eval).toArray:=by rw [←Array.toList_map]
    simp [Instr.makeFunc,e]
   cases hby:o.dst.any h.bJ.contains with
   |true=>
    simp only [hby,cond_true] at hv;cases hcs:ni st caps.toList with
    |none=>simp [hcs] at hv
    |some vs=>
     simp [hcs] at hv;subst hv;exact j9 hR hd ⟨_,run,(show cH μ loc (.cl g vs) _ from ⟨_,rfl,CN hR hcs⟩)⟩ hK
   |false=>
   simp only [hby,cond_false] at hv;cases hcs:lD st caps.toList with
   |none=>simp [hcs] at hv
   |some vs=>
    simp [hcs] at hv;subst hv;have hall:=uh hR hcs;refine j9 hR hd ⟨_,run,?_⟩ hK;show rep μ (.fn g vs) _;rw [rep];exact ⟨_,rfl,hall⟩
 ·rename_i x ho
  have key:cD P o st=some v:=by
   split at hv
   ·rename_i hp;exact hp.trans (tJ hv)
   ·rename_i hp;exact hp.trans (tJ hv)
   ·exact hv
  exact j9 hR hd (pV hR key) hK
 ·exact j9 hR hd (pV hR hv) hK
theorem K0 (hR:Rel N w0 μ0 L μ loc st a w) (eB:dD L.q μ0 P aV) {o:Oper} (hd:∀i,o.dst=some i→i<N) (hv:jG P h aV o st=some st') (hK:iy N w0 μ0 L st' K):o.oC P a w K Q:=by
 unfold jG at hv;split at hv
 ·rename_i d b9 ho
  split at hv
  ·rename_i e s hs
   split at hv
   ·injection hv with hv;subst hv
    exact PZ hR (hd d b9) b9 ho hK
   ·cases hv
  ·cases hv
 ·rename_i d x hnc b9 ho
  split at hv
  ·rename_i id hx
   split at hv
   ·rename_i st1 hp
    split at hv
    ·rename_i v Ug
     injection hv with hv;subst hv
     obtain ⟨μ1,_,h1⟩:=hR.bZ hp;exact j9 h1 hd (tj h1 (.inr ho) Ug) (by rw [b9];exact hK)
    ·cases hv
   ·cases hv
  ·cases hv
 ·rename_i d t x b9 ho
  split at hv
  ·rename_i cs hx hagg
   injection hv with hv;subst hv
   have qB:=aG hR hx;simp only [cH,rep] at qB;obtain ⟨vs,qB,hall,hone⟩:=qB;refine um (v:= .agg vs.toArray) hR (hd d b9) b9 ?_ (by simpa [Value.cells] using jY hall) (by simpa [Value.cells] using hone) hK;unfold execOp;rw [ho];simp [Instr.box,newVar,newRow,qB,Value.cells]
  ·rename_i cs hx hagg
   cases hm:(SV.ag cs).mentions d with
   |true=>rw [hm] at hv;cases hv
   |false=>
   rw [hm] at hv;simp only [cond_false,Option.some.injEq] at hv;subst hv;have qB:=Gn (x:= .pointer (some ⟨w.heap.size,0,none⟩)) hm (aG hR hx);obtain ⟨vs,qB,hall,hone⟩:=qB;refine um (v:= .agg vs.toArray) hR (hd d b9) b9 ?_ (by simpa [Value.cells] using oN hall) (by simpa [Value.cells] using hone) hK;unfold execOp;rw [ho];simp [Instr.box,newVar,newRow,qB,Value.cells]
  ·rename_i v hnot hx hagg
   split at hv
   ·rename_i hone
    injection hv with hv;subst hv
    have qB:=aG hR hx;obtain ⟨h1,hc1⟩:=Ji hR hone qB;refine um (v:=a.eval x) hR (hd d b9) b9 ?_ (by rw [hc1];exact ⟨_,[],rfl,pY qB,rfl⟩) (by rw [hc1];simpa using h1) hK;unfold execOp;rw [ho];simp [Instr.box,newVar,newRow]
   ·cases hv
  ·cases hv
 ·rename_i d t b9 ho
  cases hrw:h.rows.contains d with
  |true=>
   rw [hrw] at hv;simp only [cond_true] at hv;split at hv
   ·rename_i Eu l hz
    injection hv with hv;subst hv
    exact AR hR (hd d b9) b9 ho hz hK
   ·cases hv
  |false=>
  rw [hrw] at hv;simp only [cond_false] at hv;split at hv
  ·rename_i z hz
   injection hv with hv;subst hv
   obtain ⟨i,v,hi,VL,hc⟩:=Cy (μ:=μ) hz;refine um (v:=v) hR (hd d b9) b9 ?_ (jY hc.1) hc.2 hK;unfold execOp;rw [ho];simp [Instr.alloc,zeroValue,typeInfo,hi,VL,newVar,newRow]
  ·cases hv
 ·rename_i d t l c b9 ho
  split at hv
  ·rename_i e s kl nl kc nc hs hl hc
   split at hv
   ·rename_i z i hz hi
    split at hv
    ·rename_i c9
     injection hv with hv;subst hv
     exact MW hR (hd d b9) b9 ho hs hl hc hz hi c9 hK
    ·cases hv
   ·cases hv
  ·cases hv
 ·rename_i d t len parts b9 ho
  split at hv
  ·rename_i e s xs hl
   split at hv
   ·injection hv with hv;subst hv
    exact CP hR (hd d b9) b9 ho hl hK
   ·rename_i k e' s' hn
    cases hb:(Nat.blt k s&&xs.all (r8 k)) with
    |false=>rw [hb] at hv;cases hv
    |true=>
     rw [hb] at hv;simp only [cond_true,Option.some.injEq] at hv;subst hv;obtain ⟨b1,b2⟩:=Bool.and_eq_true_iff.1 hb;exact AS hR (hd d b9) b9 ho hl (Nat.blt_eq.mp b1) b2 hK
  ·cases hv
 ·rename_i t x y b9 ho
  split at hv
  ·rename_i id sz i off j hx hy
   exact Gd hR b9 ho hx hy hv hK
  ·rename_i sa sv hnr hx hy
   exact K1 hR b9 ho hx hy hv hK
  ·cases hv
 ·rename_i d t r b9 ho
  split at hv
  ·rename_i k e hu
   cases hb:l8 P st r with
   |false=>rw [hb] at hv;cases hv
   |true=>
    rw [hb] at hv;simp only [cond_true] at hv;cases hrw:h.rows.contains d with
    |true=>
     rw [hrw] at hv;simp only [cond_true] at hv;split at hv
     ·split at hv
      ·injection hv with hv;subst hv
       exact HD hR (hd d b9) b9 ho hu hb hK
      ·cases hv
     ·cases hv
    |false=>
    rw [hrw] at hv;simp only [cond_false,Option.some.injEq] at hv;subst hv;exact E6 hR (hd d b9) b9 ho hu hb hK
  ·cases hv
 ·rename_i t m k x b9 ho
  cases hrm:iS h m with
  |true=>rw [hrm] at hv;exact E7 hR b9 (.inl ho) hv hK
  |false=>rw [hrm] at hv;exact uo hR b9 (.inl ho) hv hK
 ·rename_i t m k x b9 ho
  cases hrm:iS h m with
  |true=>rw [hrm] at hv;exact E7 hR b9 (.inr ho) hv hK
  |false=>rw [hrm] at hv;exact uo hR b9 (.inr ho) hv hK
 ·rename_i d t m k b9 ho
  cases hrm:iS h m with
  |true=>rw [hrm] at hv;exact KX hR (hd d b9) b9 ho hv hK
  |false=>rw [hrm] at hv;cases hv
 ·rename_i d t x b9 ho
  split at hv
  ·rename_i s ht hx
   injection hv with hv;subst hv
   exact KZ hR (hd d b9) b9 ho ht hx hK
  ·cases hv
 ·rename_i d x b9 ho
  split at hv
  ·rename_i id hx
   split at hv
   ·rename_i s pos cz
    refine MX hR (hd d b9) b9 ho hx cz ?_;split at hv
    ·rename_i hp
     injection hv with hv;subst hv
     rw [if_pos hp];exact hK
    ·rename_i hp
     injection hv with hv;subst hv
     rw [if_neg hp];exact hK
   ·cases hv
  ·cases hv
 ·rename_i d t parts b9 ho
  cases hrw:h.rows.contains d with
  |false=>rw [hrw] at hv;cases hv
  |true=>rw [hrw] at hv;exact AT hR (hd d b9) b9 ho hv hK
 ·rename_i d t x b9 ho
  cases Me:h.take.contains d with
  |false=>rw [Me] at hv;cases hv
  |true=>rw [Me] at hv;exact Be hR (hd d b9) b9 ho hv hK
 ·rename_i d g first caps b9 ho
  cases J7:first.isEmpty with
  |false=>rw [J7] at hv;cases hv
  |true=>
   rw [J7] at hv;simp only [cond_true] at hv;split at hv
   ·rename_i st1 hp
    simp only [Option.map_eq_some_iff] at hv;obtain ⟨vs,hcs,rfl⟩:=hv;exact CQ hR (hd d b9) b9 ho J7 hp hcs hK
   ·cases hv
 ·rename_i d c ho
  split at hv
  ·rename_i hc
   split at hv
   ·rename_i d' x y t t' b9 hargs sj
    split at hv
    ·rename_i e s id sy hs hx hy
     split at hv
     ·rename_i e' sz xs sz' ys i cz hel hi
      split at hv
      ·rename_i c9
       obtain ⟨rfl,rfl,rfl,rfl,hpos,hby,hlen,hz,tY⟩:=c9;injection hv with hv;subst hv
       have ho':o.op= .call { callee:= .builtin .append,args:= #[x,y],argTypes:= #[t,t] }:=by
        rw [ho];obtain ⟨cal,⟨as⟩,⟨ts⟩⟩:=c;simp only at hc hargs sj;subst hc;subst hargs;subst sj;rfl
       refine HB hR (hd d' b9) b9 ho' hs hx hy cz hel hi hpos hby hlen hz ?_ hK;simp only [kP,Bool.or_eq_true] at tY;rcases tY with hm|hm
       ·left;simpa [Nat.blt_eq] using hm
       ·right;exact Nat.le_of_ble_eq_true (Bool.and_eq_true _ _▸hm).1
      ·cases hv
     ·cases hv
    ·cases hv
   ·cases hv
  ·rename_i hc
   split at hv
   ·rename_i m k t ts b9 hargs sj
    exact HC hR b9 ho hc hargs sj hv hK
   ·cases hv
  ·rename_i hc
   split at hv
   ·rename_i x t b9 hargs sj
    split at hv
    ·rename_i e s id sz lo hi hs hx
     split at hv
     ·rename_i e' sz' xs z cz hz
      split at hv
      ·rename_i c9
       injection hv with hv;subst hv
       exact KW hR b9 ho hc hargs sj hs hx cz hz c9 hK
      ·cases hv
     ·cases hv
    ·cases hv
   ·cases hv
  ·rename_i f hc
   cases how:o.dst.any h.pQ.contains with
   |true=>
    rw [how] at hv;exact AP hR eB hd ho hc hv hK
   |false=>
   rw [how] at hv;simp only [cond_false] at hv
   replace hv:=tJ hv
   cases hw:wide st c f with
   |true=>
    simp only [hw,cond_true] at hv;exact qG hR eB hd ho hc hv hK
   |false=>
   simp only [hw,cond_false] at hv;cases gd:c.args.toList.any (fun x=>(iQ h st x).isSome) with
   |true=>
    simp only [gd,cond_true] at hv;exact AQ hR eB hd ho hc hv hK
   |false=>
   simp only [gd,cond_false] at hv;split at hv
   ·rename_i st1 hp
    split at hv
    ·rename_i g caps vs hf hvs
     split at hv
     ·rename_i r hr
      cases x9:(c.args.toList.any (jJ st1)|| !r.gm) with
      |true=>rw [x9] at hv;cases hv
      |false=>
       simp only [x9,cond_false,Option.some.injEq] at hv;subst hv;obtain ⟨μ1,h1⟩:=wh hR hp;rw [Bool.or_eq_false_iff] at x9;exact yQ h1 eB hd ho hc hf hvs hr (by simp [x9.1]) (by simpa using x9.2) hK
     ·cases hv
    ·cases hv
   ·cases hv
  ·cases hv
 ·cases hv
theorem jV:∀{l:List SV} {μ:Mu} {loc:Nat→Value} {st st':St} {a:Act} {w:World},Rel N w0 μ0 L μ loc st a w→gK l st=some st'→∃μ',μ.le μ'∧Rel N w0 μ0 L μ' loc st' a w
 |[],μ,loc,st,st',a,w,hR,hv=>by simp only [gK,Option.some.injEq] at hv;subst hv;exact ⟨μ,Mu.le.refl _,hR⟩
 |s::l,μ,loc,st,st',a,w,hR,hv=>by
  unfold gK at hv;split at hv
  ·rename_i e;cases e
  ·rename_i id l' e
   injection e with e1 e2;subst e1;subst e2
   obtain ⟨st1,h1,h2⟩:=Option.bind_eq_some_iff.1 hv;obtain ⟨μ1,hle,zd⟩:=hR.bZ h1;obtain ⟨μ2,hle2,J4⟩:=jV zd h2;exact ⟨μ2,hle.trans hle2,J4⟩
  ·rename_i s' l' hne e
   injection e with e1 e2;subst e1;subst e2
   exact jV hR hv
theorem Gw (hR:Rel N w0 μ0 L μ loc st a w) (eB:dD L.q μ0 P aV) {o:Oper} (hd:∀i,o.dst=some i→i<N) (hv:step0 P h aV o st=some st') (hK:iy N w0 μ0 L st' K):o.oC P a w K Q:=by
 unfold step0 at hv;split at hv
 ·rename_i v hf
  injection hv with hv;subst hv
  exact HR hR eB hd hf hK
 ·exact K0 hR eB hd hv hK
theorem qY:∀{l:List Nat} {st st':St} {μ:Mu} {loc:Nat→Value} {a:Act} {w:World},Rel N w0 μ0 L μ loc st a w→fC l st=some st'→∃μ',μ.le μ'∧Rel N w0 μ0 L μ' loc st' a w
 |[],st,st',μ,loc,a,w,hR,hv=>by simp only [fC,Option.some.injEq] at hv;subst hv;exact ⟨μ,Mu.le.refl _,hR⟩
 |t::l,st,st',μ,loc,a,w,hR,hv=>by
  simp only [fC] at hv;obtain ⟨st1,h1,h2⟩:=Option.bind_eq_some_iff.1 hv;obtain ⟨μ1,hle,zd⟩:∃μ',μ.le μ'∧Rel N w0 μ0 L μ' loc st1 a w:=by
   unfold kG at h1;split at h1
   ·exact hR.bZ h1
   ·split at h1
    ·exact jV hR h1
    ·cases h1
   ·injection h1 with h1;subst h1;exact ⟨μ,Mu.le.refl _,hR⟩
  obtain ⟨μ2,hle2,J4⟩:=qY zd h2;exact ⟨μ2,hle.trans hle2,J4⟩
theorem Aj (hR:Rel N w0 μ0 L μ loc st a w) (eB:dD L.q μ0 P aV) {o:Oper} (hd:∀i,o.dst=some i→i<N) (hv:step P h aV o st=some st') (hK:iy N w0 μ0 L st' K):o.oC P a w K Q:=by
 unfold step at hv;obtain ⟨st1,h1,h2⟩:=Option.bind_eq_some_iff.1 hv;obtain ⟨μ1,_,zd⟩:=qY hR h1;exact Gw zd eB hd h2 hK
theorem qi (hR:Rel N w0 μ0 L μ loc st a w) {ops:Array Oper} {o:Oper} {b:Bool} (hw:iM ops o st=some b):Region.wanted o (yielded ops a.tmps)=b:=by
 unfold iM at hw;unfold Region.wanted;split at hw
 ·rename_i hg;injection hw with hw;subst hw;rw [hg]
 ·rename_i j want hg
  rw [hg];simp only;split at hw
  ·rename_i d b9
   split at hw
   ·rename_i t ht
    injection hw with hw;subst hw
    obtain ⟨v,hv,hr⟩:=hR.env d _ ht;simp only [cH,rep] at hr;subst hr;simp [yielded,b9,hv]
   ·rename_i ht
    injection hw with hw;subst hw
    obtain ⟨v,hv,hr⟩:=hR.env d _ ht;have hr:v=undef:=hr;subst hr;simp [yielded,b9,hv,undef]
   ·cases hw
  ·cases hw
theorem va (eB:dD L.q μ0 P aV) {ops:Array Oper}:∀{l:List Oper} {st:St} {μ:Mu} {loc:Nat→Value} {a:Act} {w:World},Rel N w0 μ0 L μ loc st a w→(∀o∈l,∀i,o.dst=some i→i<N)→iT P h aV ops l st=some st'→
  (∀a' w' μ' loc',Rel N w0 μ0 L μ' loc' st' a' w'→Q .normal a' w')→∀F,Wd F→wpListIn F 0 P ops Q l a w:=by
 intro l
 induction l with
 |nil=>
  intro st μ loc a w hR _ hv hQ F hF;simp only [iT,Option.some.injEq] at hv;subst hv;exact hQ _ _ _ _ hR
 |cons o l ih=>
  intro st μ loc a w hR hd hv hQ F hF;simp only [iT] at hv;split at hv
  ·rename_i b hw
   have VI:=qi hR hw;unfold wpListIn;rw [VI];cases b with
   |true=>
    simp only [cond_true] at hv;simp only [if_true];cases hs:step P h aV o st with
    |none=>simp [hs] at hv
    |some st1=>
     simp [hs] at hv;exact Aj hR eB (hd o (by simp)) hs (fun a' w' μ' loc' h1=>ih h1 (fun p hp=>hd p (by simp [hp])) hv hQ F hF) F hF
   |false=>
    simp only [cond_false] at hv;simp only [Bool.false_eq_true,if_false];exact ⟨fun f _=>hF.fn f,ih (hR.set (hd o (by simp)) (show cH μ loc .undef undef from rfl)) (fun p hp=>hd p (by simp [hp])) hv hQ F hF⟩
  ·cases hv
end
end Go.AM
