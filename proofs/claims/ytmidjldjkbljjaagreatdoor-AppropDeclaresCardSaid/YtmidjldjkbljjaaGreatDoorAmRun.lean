/- THE ABSTRACT MACHINE. -/
import Derived.Test.YtmidjldjkbljjaaGreatDoorAmEff
set_option linter.unusedVariables false
set_option linter.unusedSimpArgs false
namespace Go.AM
open Go.RowKit
def Oc (μ:Mu) (w:World):Prop:=∀b j v,μ b j=some v→zy w b j=some v
def gP (q:Prop) (loc:Nat→Value) (names:List Nat):kP:=⟨fun id=>if id∈names then some (loc id) else none,q⟩
def K9 (loc:Nat→Value) (bQ:List (Nat×Ob)):Prop:=∀i j oi oj,find bQ i=some oi→find bQ j=some oj→i≠j→∀g,fV (loc i) g→¬fV (loc j) g
structure eY (q:Prop) (μ:Mu) (loc:Nat→Value) (names:List Nat) (r:AV) (dI:List (Nat×Ob)) (w:World) (v:Value) (μ':Mu) (loc':Nat→Value) (w':World):Prop where
 ext:μ.ext w.heap.size μ'
 q8:Oc μ' w'
 res:rep μ' r v∨∃n A m c,r= .self n∧10000∈names∧loc' 10000= .slice A m c∧n≤m∧v= .slice A n c
 obs:∀id o,find dI id=some o→gQ w.heap.size (gP q loc names) μ' loc' w' id o
 apart:K9 loc' dI
 keep:∀b,b<w.heap.size→¬Da (gP q loc names) b→w'.heap[b]? =w.heap[b]?
 fix:∀id,id∈names→id<20000→loc' id=loc id
 os:w'.os=w.os
 tape:w'.tape=w.tape
 output:w'.output=w.output
 grown:w.heap.size≤w'.heap.size
 drawn:q→w.drawn≤w'.drawn
theorem eY.pure {q:Prop} {μ:Mu} {loc:Nat→Value} {names:List Nat} {r:AV} {dI:List (Nat×Ob)} {w:World} {v:Value} {μ':Mu} {loc':Nat→Value} {w':World} (h:eY q μ loc names r dI w v μ' loc' w') (hn:r.ic=true):rep μ' r v:=by
 rcases h.res with h|⟨n,A,m,c,rfl,_⟩
 ·exact h
 ·cases hn
def ez (q:Prop) (B:Mu) (P:Program) (bH:de):Prop:=∀g args bQ r dI,bH g args bQ=some (r,dI)→∀(w:World) (μ:Mu) (loc:Nat→Value) (us:List Value),B.le μ→Oc μ w→
 (∀id o,find bQ id=some o→gQ w.heap.size (gP q loc (bQ.map (·.1))) μ loc w id o)→K9 loc bQ→ep μ loc args us→
 (∀w2,(callFunc g us.toArray).run P w2= .ok (.enter g us.toArray) w2)∧
 Calls P g us.toArray w fun e w'=>∃v μ' loc',e= .returned v∧eY q μ loc (bQ.map (·.1)) r dI w v μ' loc' w'
theorem ez.mono {q:Prop} {B B':Mu} {P:Program} {bH:de} (h:ez q B P bH) (hB:B.le B'):ez q B' P bH:=
 fun g args bQ r dI hv w μ loc us hle=>h g args bQ r dI hv w μ loc us (hB.trans hle)
section
variable {P:Program} {N:Nat} {w0:World} {μ0:Mu} {L:kP} {μ:Mu} {loc:Nat→Value} {st st':St} {a:Act} {w:World} {Q:Exit→Act→World→Prop} {K:Act→World→Prop} {h:Hint} {bH:de}
theorem xu {α:Type} {c:Bool} {x:Option α} {v:α} (h:(bif c then none else x)=some v):x=some v:=by
 cases c<;>simp_all
theorem lS {α:Type} {j i:Nat} {x v:α} (hf:find [(j,x)] i=some v):i=j:=by
 simp only [find] at hf;cases hb:Nat.beq j i with
 |true=>exact (beq_iff.1 hb).symm
 |false=>simp [hb] at hf
theorem Kn (hR:Rel N w0 μ0 L μ loc st a w) {s:SV} {v:AV} {u:Value} (hl:nE st s=some v) (hs:cT μ loc s u) {μ':Mu} (hle:μ.le μ')
  (hrow:∀id,s= .row id→∀b j x,fV (loc id) b→zy w b j=some x→μ' b j=some x):rep μ' v u:=by
 cases s with
 |pv x=>simp only [nE,Option.some.injEq] at hl;subst hl;exact sj hle _ _ hs
 |row id=>
  simp only [nE] at hl;obtain ⟨ob,cQ,hval⟩:=Option.bind_eq_some_iff.1 hl;have e:u=dL (loc id):=hs;rw [e];exact My (hR.obs id _ cQ) hval hle (fun b j x hb hc=>hrow id rfl b j x hb hc)
 |_=>simp [nE] at hl
theorem tI (hR:Rel N w0 μ0 L μ loc st a w) {μ':Mu} (hle:μ.le μ') {xs:List Operand} {ts:List TypeId} {vs:List AV} (h:eW P st xs ts=some vs)
  (hrow:∀x∈xs,∀t id,bg P t st x=some (.row id)→∀b j x,fV (loc id) b→zy w b j=some x→μ' b j=some x):bB μ' vs (xs.map a.eval):=by
 induction xs generalizing ts vs with
 |nil=>simp [eW] at h;subst h;exact b8
 |cons x xs ih=>
  simp only [eW] at h;split at h
  ·rename_i v vs' hv hvs
   injection h with h;subst h
   cases ho:bg P (ts.headD 0) st x with
   |none=>rw [ho] at hv;cases hv
   |some sv=>
    rw [ho] at hv;simp only [Option.bind_some] at hv;exact bD (Kn hR hv (aX hR ho) hle (fun id e=>by subst e;exact hrow x (by simp) _ id ho)) (ih hvs (fun y hy=>hrow y (by simp [hy])))
  ·cases h
theorem NJ {μ μ':Mu} {r:AV} {v:Value} (h:r.plain=true) (k:rep μ r v):rep μ' r v:=by
 have sc:∀(r:AV) (v:Value),r.scalar=true→rep μ r v→rep μ' r v:=fun r v h k=>by
  cases r<;>simp [AV.scalar] at h<;>simpa [rep] using k
 cases r with
 |fk vs=>
  rw [rep] at k⊢;obtain ⟨us,e,hall⟩:=k;refine ⟨us,e,?_⟩;simp only [AV.plain] at h;clear e
  induction vs generalizing us with
  |nil=>simpa [bB] using hall
  |cons x xs ih=>
   rw [bB] at hall;obtain ⟨u,us',rfl,h1,h2⟩:=hall;simp only [List.all_cons,Bool.and_eq_true] at h;exact bD (sc _ _ h.1 h1) (ih h.2 us' h2)
 |bool b=>exact sc _ _ rfl k
 |int b n=>exact sc _ _ rfl k
 |str s=>exact sc _ _ rfl k
 |bS sz xs=>simp [AV.plain,AV.scalar] at h
 |agg cs=>simp [AV.plain,AV.scalar] at h
 |fn f caps=>simp [AV.plain,AV.scalar] at h
 |ref cs=>simp [AV.plain,AV.scalar] at h
 |mp ks es=>simp [AV.plain,AV.scalar] at h
 |self n=>simp [AV.plain,AV.scalar] at h
 |qB=>simp [AV.plain,AV.scalar] at h
theorem zZ {μ':Mu} {loc':Nat→Value} {r:AV} {dI:List (Nat×Ob)} {u:Value} {w':World} {q:Prop} (hP:eY q μ loc [] r dI w u μ' loc' w'):Below w.heap.size w w':=
 ⟨hP.os,hP.tape,hP.output,hP.grown,fun b hb=>hP.keep b hb (by rintro ⟨id,v,h,_⟩;simp [gP] at h)⟩
theorem zN {o:Oper} {c:Call} {f:Operand} {g:Nat} {us caps:List Value} {r:AV} {dI:List (Nat×Ob)} (ho:o.op= .call c) (hc:c.callee= .value f) (hf:a.eval f= .func (.func g) #[] caps.toArray)
  (wW:c.args.toList.map a.eval=us) (he:∀w2,(callFunc g (us++caps).toArray).run P w2= .ok (.enter g (us++caps).toArray) w2)
  {R:Value→World→Prop} (e7:Calls P g (us++caps).toArray w fun e w'=>∃v,e= .returned v∧R v w') (hK:∀v w',R v w'→K (a.put o.dst v) w'):o.wp P a w K Q:=by
 have hargs:c.args.map a.eval=us.toArray:=by rw [←wW,←Array.toList_map]
 unfold Oper.wp execOp;rw [ho];simp only [resolve,hc,hf,Deferred.ofValue,invoke,Sem.run_bind,Sem.run_pure,Result.andThen_ok,hargs];have e:(#[]++us.toArray)++caps.toArray=(us++caps).toArray:=by simp
 rw [e,he w];simp only [Oper.upon];refine e7.mono ?_
 rintro e w' ⟨v,rfl,hr⟩
 exact hK v w' hr
theorem GA (hR:Rel N w0 μ0 L μ loc st a w) {f:Operand} {g:Nat} {caps:List AV} (h:bg P 0 st f=some (.pv (.fn g caps))):∃cs:List Value,a.eval f= .func (.func g) #[] cs.toArray∧bB μ caps cs:=by
 have:=aX hR h;simp only [cT,rep] at this;exact this
theorem HQ {x:Operand} (h:jU st x=false):∀t id,bg P t st x≠some (.row id):=by
 intro t id e;cases x with
 |tmp i=>simp only [bg] at e;simp [jU,e] at h
 |const v=>
  simp only [bg] at e;cases hc:ofConst P t v<;>simp [hc] at e
 |func f=>simp [bg] at e
 |global g=>simp [bg] at e
theorem Aa (hR:Rel N w0 μ0 L μ loc st a w) (e7:ez L.q μ0 P bH) {o:Oper} {c:Call} {f:Operand} {g:Nat} {caps vs:List AV} {r:AV} (hd:∀i,o.dst=some i→i<N) (ho:o.op= .call c) (hc:c.callee= .value f)
  (hf:bg P 0 st f=some (.pv (.fn g caps))) (hvs:eW P st c.args.toList c.argTypes.toList=some vs) (hr:bH g ((vs++caps).map .pv) []=some (r,[]))
  (hp:(r.plain|| !(c.args.toList.any (jU st)))=true) (C0:r.ic=true) (hK:j4 N w0 μ0 L (st.set o.dst (.pv r)) K):o.wp P a w K Q:=by
 obtain ⟨cs,Ng,hcs⟩:=GA hR hf;cases zp:c.args.toList.any (jU st) with
 |false=>
  have hall:=tI hR (Mu.le.refl μ) hvs (fun x hx t id e=>absurd e (HQ (by
   have:=List.any_eq_false.1 zp x hx
   simpa using this) t id))
  obtain ⟨he,hC⟩:=e7 g _ [] r [] hr w μ loc (c.args.toList.map a.eval++cs) hR.base.1 hR.q8 (by simp [find]) (by intro i j oi oj hi;simp [find] at hi) (mc (jy hall hcs));refine zN (R:=fun v w'=>∃μ' loc',eY L.q μ loc [] r [] w v μ' loc' w') (r:=r) (dI:=[]) ho hc Ng rfl he (hC.mono ?_) ?_
  ·rintro e w' ⟨v,μ',loc',rfl,hP⟩
   exact ⟨v,rfl,μ',loc',hP⟩
  ·rintro v w' ⟨μ',loc',hP⟩
   exact hK _ _ _ _ ((hR.grow hP.ext hP.q8 (zZ hP) hP.drawn).set hd (hP.pure C0))
 |true=>
  have VB:r.plain=true:=by simpa [zp] using hp
  let yL:Nat→Prop:=fun b=>∃id ob,st.ob id=some ob∧ob.val.isSome=true∧fV (loc id) b
  have:∀b,Decidable (yL b):=fun b=>Classical.propDecidable _
  let μ1:Mu:=fun b j=>if yL b then zy w b j else μ b j
  have hle:μ.le μ1:=fun b j v hv=>by
   by_cases hb:yL b
   ·obtain ⟨id,ob,cQ,_,sX⟩:=hb
    have:=((hR.obs id _ cQ).block b sX).2.2 j;rw [this] at hv;cases hv
   ·simpa [μ1,hb] using hv
  have TO:Oc μ1 w:=fun b j v hv=>by
   by_cases hb:yL b
   ·simpa [μ1,hb] using hv
   ·exact hR.q8 b j v (by simpa [μ1,hb] using hv)
  have hall:=tI hR hle hvs (fun x hx t id e b j u hb hcell=>by
   have hmem:∃ob,st.ob id=some ob∧ob.val.isSome=true:=by
    clear hcell hb TO;have key:∀(xs:List Operand) (ts:List TypeId) (vs:List AV),eW P st xs ts=some vs→x∈xs→∃ob,st.ob id=some ob∧ob.val.isSome=true:=by
     intro xs
     induction xs with
     |nil=>intro ts vs _ hm;simp at hm
     |cons y ys ih=>
      intro ts vs hv hm;simp only [eW] at hv;split at hv
      ·rename_i v vs' WW VJ
       rcases List.mem_cons.1 hm with rfl|hm
       ·have hty:∀t',bg P t' st x=some (.row id):=by
         intro t';cases x with
         |tmp i=>exact e
         |const q=>simp only [bg] at e;cases hq:ofConst P t q<;>simp [hq] at e
         |func q=>simp [bg] at e
         |global q=>simp [bg] at e
        simp only [hty,Option.bind_some,nE] at WW;obtain ⟨ob,cQ,hval⟩:=Option.bind_eq_some_iff.1 WW;exact ⟨ob,cQ,by rw [hval];rfl⟩
       ·exact ih _ _ VJ hm
      ·cases hv
    exact key _ _ _ hvs hx
   obtain ⟨ob,cQ,hval⟩:=hmem;have hrow:yL b:=⟨id,ob,cQ,hval,hb⟩
   simpa [μ1,hrow] using hcell)
  obtain ⟨he,hC⟩:=e7 g _ [] r [] hr w μ1 loc (c.args.toList.map a.eval++cs) (hR.base.1.trans hle) TO (by simp [find]) (by intro i j oi oj hi;simp [find] at hi) (mc (jy hall (dg hle _ _ hcs)));refine zN (R:=fun v w'=>∃μ' loc',eY L.q μ1 loc [] r [] w v μ' loc' w') (r:=r) (dI:=[]) ho hc Ng rfl he (hC.mono ?_) ?_
  ·rintro e w' ⟨v,μ',loc',rfl,hP⟩
   exact ⟨v,rfl,μ',loc',hP⟩
  ·rintro v w' ⟨μ',loc',hP⟩
   exact hK _ _ _ _ ((hR.Ls (zZ hP) hP.drawn).set (sv:= .pv r) hd (show rep μ r v from NJ VB (hP.pure C0)))
theorem uY (hR:Rel N w0 μ0 L μ loc st a w) {xs:List Operand} {vs:List AV} (h:mo st xs=some vs):bB μ vs (xs.map a.eval):=by
 induction xs generalizing vs with
 |nil=>simp [mo] at h;subst h;exact b8
 |cons x xs ih=>
  cases x with
  |tmp i=>
   simp only [mo] at h;split at h
   ·rename_i v vs' hv hvs
    injection h with h;subst h
    obtain ⟨u,hu,hr⟩:=hR.env i _ hv;have:a.eval (.tmp i)=u:=by simp [Act.eval,hu]
    exact bD (by rw [this];exact hr) (ih hvs)
   ·rename_i cs vs' hv hvs
    injection h with h;subst h
    obtain ⟨u,hu,hr⟩:=hR.env i _ hv;have:a.eval (.tmp i)=u:=by simp [Act.eval,hu]
    obtain ⟨b,off,us,e,hc,hm⟩:=hr;exact bD (by rw [this,rep];exact ⟨b,off,us,e,hc.1,hc.2,hm⟩) (ih hvs)
   ·cases h
  |_=>simp [mo] at h
theorem Ed (hR:Rel N w0 μ0 L μ loc st a w) {xs:List Operand} {cs:List j3} (h:oE st xs=some cs):iC μ loc cs (xs.map a.eval):=by
 induction xs generalizing cs with
 |nil=>simp [oE] at h;subst h;rfl
 |cons x xs ih=>
  cases x with
  |tmp i=>
   simp only [oE] at h;split at h
   ·rename_i v vs' hv hvs
    injection h with h;subst h
    obtain ⟨u,hu,hr⟩:=hR.env i _ hv;have:a.eval (.tmp i)=u:=by simp [Act.eval,hu]
    exact ⟨_,_,rfl,by rw [this];exact hr,ih hvs⟩
   ·rename_i cs' vs' hv hvs
    injection h with h;subst h
    obtain ⟨u,hu,hr⟩:=hR.env i _ hv;have:a.eval (.tmp i)=u:=by simp [Act.eval,hu]
    obtain ⟨b,off,us,e,hc,hm⟩:=hr;refine ⟨_,_,rfl,?_,ih hvs⟩;show rep μ (.ref cs') _;rw [this,rep];exact ⟨b,off,us,e,hc.1,hc.2,hm⟩
   ·rename_i id vs' hv hvs
    injection h with h;subst h
    obtain ⟨u,hu,hr⟩:=hR.env i _ hv;have:a.eval (.tmp i)=u:=by simp [Act.eval,hu]
    obtain ⟨b,h1,h2⟩:=hr;exact ⟨_,_,rfl,⟨b,h1,by rw [this,h2]⟩,ih hvs⟩
   ·cases h
  |_=>simp [oE] at h
theorem Eh (hR:Rel N w0 μ0 L μ loc st a w) {o:Oper} {g:Nat} {first caps:Array Operand} {d:Nat} {vs:List AV} (hd:d<N) (cG:o.dst=some d) (ho:o.op= .makeFunc (.func g) first caps) (Lx:first.isEmpty=true)
  (hp:ou st caps.toList=some st') (hcs:mo st' caps.toList=some vs) (hK:j4 N w0 μ0 L (st'.set (some d) (.pv (.fn g vs))) K):o.wp P a w K Q:=by
 obtain ⟨μ',hle,rQ⟩:=Cm hR hR hp;have hall:=uY rQ hcs;have hf0:first= #[]:=by simpa using Lx
 refine kF rQ (fun i hi=>by rw [cG] at hi;injection hi with hi;subst hi;exact hd) ⟨.func (.func g) #[] (caps.toList.map a.eval).toArray,?_,?_⟩ (by rw [cG];exact hK)
 ·unfold execOp;rw [ho,hf0]
  have e:caps.map a.eval=(caps.toList.map a.eval).toArray:=by rw [←Array.toList_map]
  simp [Instr.makeFunc,e]
 ·show rep μ' (.fn g vs) _
  rw [rep];exact ⟨_,rfl,hall⟩
theorem xF (hR:Rel N w0 μ0 L μ loc st a w) {xs:List Operand} (h:mI.dQ st xs=some st'):∃μ',Rel N w0 μ0 L μ' loc st' a w:=by
 induction xs generalizing st μ with
 |nil=>simp [mI.dQ] at h;subst h;exact ⟨μ,hR⟩
 |cons x xs ih=>
  cases x with
  |tmp i=>
   simp only [mI.dQ] at h;split at h
   ·rename_i id hi
    cases hp:st.cL id with
    |none=>simp [hp] at h
    |some st1=>
     simp [hp] at h;obtain ⟨μ1,_,h1⟩:=hR.cL hp;exact ih h1 h
   ·exact ih hR h
  |_=>simp only [mI.dQ] at h;exact ih hR h
theorem Rel.W8 (hR:Rel N w0 μ0 L μ loc st a w) {id:Nat} {o:Ob} (hnone:st.ob id=none) (cQ:gQ w0.heap.size L μ loc w id o)
  (hap:∀j oj,st.ob j=some oj→∀g,fV (loc id) g→¬fV (loc j) g):Rel N w0 μ0 L μ loc { st with ob:=put st.ob id (some o) } a w:=by
 refine ⟨hR.small,hR.names,hR.fix,hR.size,hR.defers,hR.env,hR.q8,hR.base,?_,?_,hR.keep,hR.os,hR.tape,hR.output,hR.grown,hR.drawn⟩
 ·intro i oi hi
  by_cases e:id=i
  ·subst e;simp only [bO,Option.some.injEq] at hi;subst hi;exact cQ
  ·exact hR.obs i oi (by simpa only [aV _ _ e] using hi)
 ·intro i j oi oj hi hj hij g hg
  by_cases ei:id=i
  ·subst ei
   simp only [aV _ _ hij] at hj;exact hap j oj hj g hg
  ·simp only [aV _ _ ei] at hi
   by_cases ej:id=j
   ·subst ej;intro hg';exact hap i oi hi g hg' hg
   ·simp only [aV _ _ ej] at hj
    exact hR.apart i j oi oj hi hj hij g hg
theorem Ck (hR:Rel N w0 μ0 L μ loc st a w) {nR:Nat→Value}:∀{xs:List Operand} {ts:List TypeId} {vs:List SV} {ids:List Nat},sY P h st xs ts=some (vs,ids)→(∀id∈ids,nR 10000=loc id)→ep μ nR vs (xs.map a.eval):=by
 intro xs
 induction xs with
 |nil=>intro ts vs ids hv _;simp only [sY,Option.some.injEq,Prod.mk.injEq] at hv;obtain ⟨rfl,rfl⟩:=hv;rfl
 |cons x xs ih=>
  intro ts vs ids hv mu;simp only [sY] at hv;split at hv
  ·rename_i id vs' ids' gq pK
   simp only [Option.some.injEq,Prod.mk.injEq] at hv;obtain ⟨rfl,rfl⟩:=hv;refine ⟨_,_,rfl,?_,ih pK (fun i hi=>mu i (by simp [hi]))⟩;show a.eval x=dL (nR 10000);rw [mu id (by simp)];cases x with
   |tmp t=>
    simp only [jg] at gq;cases hb:h.aY.contains t with
    |false=>rw [hb] at gq;cases gq
    |true=>
     simp only [hb,cond_true] at gq;split at gq
     ·rename_i id' he
      injection gq with gq;subst gq
      obtain ⟨v,hv,hr⟩:=hR.env t _ he;have:a.eval (.tmp t)=v:=by simp [Act.eval,hv]
      rw [this];exact hr
     ·cases gq
   |_=>simp [jg] at gq
  ·rename_i vs' ids' gq pK
   split at hv
   ·rename_i v WW
    simp only [Option.some.injEq,Prod.mk.injEq] at hv;obtain ⟨rfl,rfl⟩:=hv;exact ⟨_,_,rfl,cR hR WW,ih pK mu⟩
   ·cases hv
  ·cases hv
theorem B7 (hR:Rel N w0 μ0 L μ loc st a w) (e7:ez L.q μ0 P bH) {o:Oper} {c:Call} {f:Operand} {st1:St} (hd:∀i,o.dst=some i→i<N) (ho:o.op= .call c) (hc:c.callee= .value f)
  (hv:jD P h bH st c f o.dst=some st1) (hK:j4 N w0 μ0 L st1 K):o.wp P a w K Q:=by
 unfold jD at hv;split at hv
 ·rename_i g caps vs id hf hvs
  split at hv
  ·rename_i e sz xs cQ
   split at hv
   ·rename_i r' nm e' sz' xs' hr
    cases hb:(Nat.beq e e'&&Nat.beq sz sz'&&Nat.beq nm 10000) with
    |false=>simp [hb] at hv
    |true=>
     simp only [hb,cond_true] at hv;simp only [Bool.and_eq_true] at hb;obtain ⟨cs,Ng,hcs⟩:=GA hR hf
     let nR:Nat→Value:=fun _=>loc id
     have hok:=hR.obs id _ cQ;have hargs:=Ck hR (nR:=nR) hvs (fun i hi=>by simp at hi;subst hi;rfl);have vj:∀i oi,find [(10000,Ob.row e sz xs)] i=some oi→gQ w.heap.size (gP L.q nR ([(10000,Ob.row e sz xs)].map (·.1))) μ nR w i oi:=by
      intro i oi hi;simp only [find] at hi;cases hb':Nat.beq 10000 i with
      |false=>simp [hb'] at hi
      |true=>
       simp only [hb',cond_true,Option.some.injEq] at hi;subst hi;have:=beq_iff.1 hb';subst this;obtain ⟨us,hown,hrc,hm⟩:=hok;refine ⟨us,hown,hrc,fun q hq=>⟨.inr ⟨loc id,by simp [gP,nR],hq⟩,(hm q hq).2⟩⟩
     obtain ⟨he,hC⟩:=e7 g _ _ r' _ hr w μ nR (c.args.toList.map a.eval++cs) hR.base.1 hR.q8 vj (by
      intro i j oi oj hi hj hij;have h1:=lS hi;have h2:=lS hj
      omega) (iY hargs (mc hcs))
     refine zN (R:=fun v w'=>∃μ' loc',eY L.q μ nR ([(10000,Ob.row e sz xs)].map (·.1)) r' [(nm,Ob.row e' sz' xs')] w v μ' loc' w') (r:=r') (dI:=[]) ho hc Ng rfl he (hC.mono ?_) ?_
     ·rintro e w' ⟨v,μ',loc',rfl,hP⟩
      exact ⟨v,rfl,μ',loc',hP⟩
     ·rintro v w' ⟨μ',loc',hP⟩
      have hlb:∀b,Da (gP L.q nR ([(10000,Ob.row e sz xs)].map (·.1))) b→fV (loc id) b:=by
       rintro b ⟨i,x,hx,Lw⟩
       simp only [gP] at hx;split at hx
       ·injection hx with hx;subst hx;exact Lw
       ·cases hx
      have h1:=(hR.drop id).world (w':=w') (μ':=μ') hP.ext.1 (fun b j x hx=>by
        rcases hP.ext.2 b j x hx with hx|hx
        ·exact .inl hx
        ·exact .inr (Nat.le_trans hR.grown hx)) hP.q8 (fun k ok hk b hbk=>by
        by_cases e':id=k
        ·subst e';simp [bO] at hk
        ·simp only [aV _ _ e'] at hk
         obtain ⟨_,hlt,pH⟩:=(hR.obs k ok hk).block b hbk;refine ⟨hP.keep b hlt (fun hl=>hR.apart id k _ ok cQ hk e' b (hlb b hl) hbk),fun j=> ?_⟩;cases hj:μ' b j with
         |none=>rfl
         |some x=>
          rcases hP.ext.2 b j x hj with hx|hx
          ·rw [pH j] at hx;cases hx
          ·omega) (fun b hb' hl=>hP.keep b (Nat.lt_of_lt_of_le hb' hR.grown) (fun hl'=>by
        have hbb:=hlb b hl';rcases (hok.block b hbb).1 with hx|⟨x,hx,Lw⟩
        ·omega
        ·exact hl ⟨id,x,hx,Lw⟩)) hP.os hP.tape hP.output hP.grown hP.drawn
      have hnm:loc' nm=loc id:=by
       have:=beq_iff.1 hb.2;exact hP.fix nm (by simp [this]) (by omega)
      obtain ⟨us,hown,hrc,hm⟩:=hP.obs nm (.row e' sz' xs') (by simp [find,Nat.beq_refl]);rw [hnm] at hown hm;split at hv
      ·rename_i n
       cases vi:(Nat.ble n xs'.length&&lF id) with
       |false=>rw [vi] at hv;cases hv
       |true=>
       simp only [vi,cond_true,Option.some.injEq] at hv;subst hv;simp only [Bool.and_eq_true] at vi;have hnl:n≤xs'.length:=Nat.le_of_ble_eq_true vi.1;obtain ⟨A,m,cp,SF,hnm',hvv⟩:∃A m cp,loc' 10000= .slice A m cp∧n≤m∧v= .slice A n cp:=by
        rcases hP.res with hx|⟨n',A,m,cp,e1,_,h1,h2,h3⟩
        ·rw [rep] at hx;exact hx.elim
        ·injection e1 with e1;subst e1;exact ⟨A,m,cp,h1,h2,h3⟩
       have e10:=beq_iff.1 hb.2;rw [e10] at hnm;rw [hnm] at SF;have hid:id<10000∨20000≤id:=by
        have mD:=vi.2;simp only [lF,Bool.or_eq_true] at mD;rcases mD with hm|hm
        ·left;simpa [Nat.blt_eq] using hm
        ·right;exact Nat.le_of_ble_eq_true (Bool.and_eq_true _ _▸hm).1
       have hblk:∀q,fV v q↔fV (loc id) q:=fun q=>by rw [hvv,SF,fE,fE];cases A<;>rfl
       have h2:=h1.new (id:=id) (val:=v) (o:= .row e' sz' (xs'.take n)) hid ?_ (fun j oj hj hne q hq=>by
        simp only [aV _ _ (Ne.symm hne)] at hj
        exact hR.apart id j _ oj cQ hj (Ne.symm hne) q ((hblk q).1 hq))
       ·have heq:(St.new { env:=st.env,ob:=put st.ob id none } id (.row e' sz' (xs'.take n)))=st.new id (.row e' sz' (xs'.take n)):=by
         simp only [St.new,St.bR]
         congr 1
         funext k
         by_cases e':id=k
         ·subst e';simp [bO]
         ·simp only [aV _ _ e']
        rw [heq] at h2;exact hK _ _ _ _ (h2.set hd (sv:= .row id) (HR (by rw [hvv];rfl)))
       ·have hlen:(xs'.take n).length=n:=by simp;omega
        have Yw:=tR hrc n;refine ⟨us.take (n *sz'),⟨by rw [c7 Yw],?_⟩,Yw,fun q hq=> ?_⟩
        ·rw [cA,hlen,hvv]
         rcases hown.2 with ⟨e1,e2⟩|⟨q,cap,cur,e1,k1,k2,k3,k4,k5,k6⟩
         ·rw [SF] at e1
          simp only [Value.slice.injEq] at e1;obtain ⟨rfl,rfl,rfl⟩:=e1;have:n=0:=by omega
          subst this;exact .inl ⟨rfl,rfl⟩
         ·rw [SF] at e1
          simp only [Value.slice.injEq] at e1;obtain ⟨rfl,rfl,rfl⟩:=e1;refine .inr ⟨q,cp,cur,rfl,k1,k2,by omega,k4,k5,?_⟩;rw [←k6,List.take_take,Nat.min_eq_left (Nat.mul_le_mul_right _ hnl)]
        ·rw [cA,hblk q] at hq
         exact ⟨(hok.block q hq).1,(hm q hq).2⟩
      ·rename_i C0
       cases vi:r'.plain with
       |false=>rw [vi] at hv;cases hv
       |true=>
       simp only [vi,cond_true,Option.some.injEq] at hv;subst hv;have pJ:gQ w0.heap.size L μ' loc w' id (.row e' sz' xs'):=⟨us,hown,hrc,fun q hq=>⟨(hok.block q hq).1,(hm q hq).2⟩⟩
       have h2:=h1.W8 (id:=id) (o:= .row e' sz' xs') (by simp [bO]) pJ (fun j oj hj q hq=>by
        by_cases e':id=j
        ·subst e';simp [bO] at hj
        ·simp only [aV _ _ e'] at hj
         exact hR.apart id j _ oj cQ hj e' q hq)
       have heq:({ env:=st.env,ob:=put (put st.ob id none) id (some (.row e' sz' xs')) }:St)={ env:=st.env,ob:=put st.ob id (some (.row e' sz' xs')) }:=by
        congr 1
        funext k
        by_cases e':id=k
        ·subst e';simp [bO]
        ·simp only [aV _ _ e']
       rw [heq] at h2;exact hK _ _ _ _ (h2.set hd (hP.pure (by cases r'<;>first|rfl|exact absurd rfl (C0 _))))
   ·cases hv
  ·cases hv
 ·cases hv
theorem oR (hR:Rel N w0 μ0 L μ loc st a w):∀(l:List (Nat×TypeId×Nat)) (st:St) (loc:Nat→Value),Rel N w0 μ0 L μ loc st a w→(∀x∈l,x.1<10000)→
  ∃loc',Rel N w0 μ0 L μ loc' (qA l st) a w∧(∀x∈l,loc' x.1= .slice none 0 0)∧∀i,loc i= .slice none 0 0→loc' i= .slice none 0 0
 |[],st,loc,h,_=>⟨loc,h,by simp,fun _ h=>h⟩
 |(id,e,s)::l,st,loc,h,hl=>by
  have h1:=h.new (id:=id) (val:= .slice none 0 0) (o:= .row e s []) (.inl (hl (id,e,s) (by simp))) ⟨[],⟨by simp, .inl ⟨cA _ _ _,rfl⟩⟩,rfl,fun g hg=>by rw [cA] at hg;simp [fV,bV] at hg⟩ (fun j oj hj hne g hg=>by simp [fV,bV] at hg);obtain ⟨loc',h2,h3,h4⟩:=oR hR l _ _ h1 (fun x hx=>hl x (by simp [hx]));refine ⟨loc',h2,fun x hx=> ?_,fun i hi=>h4 i ?_⟩
  ·rcases List.mem_cons.1 hx with rfl|hx
   ·exact h4 _ (cA _ _ _)
   ·exact h3 x hx
  ·by_cases e:i=id
   ·subst e;exact cA _ _ _
   ·rw [cm _ _ e];exact hi
theorem oF {d:Nat}:∀(j:Nat) (ts:List TypeId) (vs:List Value) (FP:List SV) (l:List (Nat×TypeId×Nat)),mG P d j ts vs=some (FP,l)→
  (∀x∈l,x.1<10000)∧(∀u∈vs,u.oneCell'=true)∧∀(loc:Nat→Value),(∀x∈l,loc x.1= .slice none 0 0)→ep μ loc FP vs
 |j,[],[],FP,l,hv=>by
  simp only [mG,Option.some.injEq,Prod.mk.injEq] at hv;obtain ⟨rfl,rfl⟩:=hv;exact ⟨by simp,by simp,fun _ _=>rfl⟩
 |j,[],_::_,FP,l,hv=>by simp [mG] at hv
 |j,_::_,[],FP,l,hv=>by simp [mG] at hv
 |j,t::ts,v::vs,FP,l,hv=>by
  simp only [mG] at hv;split at hv
  ·rename_i svs' l' pK
   obtain ⟨i1,i2,i3⟩:=oF (j+1) ts vs svs' l' pK;split at hv
   ·rename_i e s hs
    cases hb:(Nat.blt 0 s&&Nat.blt (5000+16 *d+j) 10000) with
    |false=>rw [hb] at hv;cases hv
    |true=>
     simp only [hb,cond_true,Option.some.injEq,Prod.mk.injEq] at hv;obtain ⟨rfl,rfl⟩:=hv;simp only [Bool.and_eq_true] at hb;have hlt:5000+16 *d+j<10000:=by have:=hb.2;simpa [Nat.blt_eq] using this
     refine ⟨fun x hx=> ?_,fun u hu=> ?_,fun loc hl=> ?_⟩
     ·rcases List.mem_cons.1 hx with rfl|hx
      ·exact hlt
      ·exact i1 x hx
     ·rcases List.mem_cons.1 hu with rfl|hu
      ·rfl
      ·exact i2 u hu
     ·exact ⟨_,_,rfl,(by show _=dL (loc _);rw [hl (5000+16 *d+j,e,s) (by simp)];rfl),i3 loc (fun x hx=>hl x (by simp [hx]))⟩
   ·simp only [Option.map_eq_some_iff,Prod.mk.injEq] at hv
    obtain ⟨av,hc,rfl,rfl⟩:=hv;have hr:=oh (μ:=μ) hc;refine ⟨i1,fun u hu=> ?_,fun loc hl=>⟨_,_,rfl,hr,i3 loc hl⟩⟩;rcases List.mem_cons.1 hu with rfl|hu
    ·unfold ofConst at hc
     split at hc<;>first|rfl|cases hc
    ·exact i2 u hu
  ·cases hv
theorem B8 (hR:Rel N w0 μ0 L μ loc st a w) {o:Oper} {d:Nat} {t:TypeId} {FP:List SV} {l:List (Nat×TypeId×Nat)} (hd:d<N) (cG:o.dst=some d) (ho:o.op= .alloc t)
  (hz:((sL P t).bind fun vs=>mG P d 0 (mH P 8 t) vs)=some (FP,l)) (hK:j4 N w0 μ0 L (((qA l st).new d (.box t (FP.map (SV.bR d)))).set (some d) (.ptr d 0)) K):o.wp P a w K Q:=by
 obtain ⟨vs,hvs,hcs⟩:=Option.bind_eq_some_iff.1 hz;unfold sL at hvs;split at hvs
 ·rename_i i hi
  simp only [Option.map_eq_some_iff] at hvs;obtain ⟨v,YI,rfl⟩:=hvs;obtain ⟨h1,h2,h3⟩:=oF (μ:=μ) 0 _ _ _ _ hcs;obtain ⟨loc',rQ,h4,_⟩:=oR hR l st loc hR h1;refine u6 (v:=v) rQ hd cG ?_ (si _ _ (h3 loc' h4)) h2 hK;unfold execOp;rw [ho];simp [Instr.alloc,zeroValue,typeInfo,hi,YI,newVar,newRow]
 ·cases hvs
theorem Fb (hR:Rel N w0 μ0 L μ loc st a w) {s:SV} {l:List SV} {u:Value} (h:KI st s=some l) (k:cT μ loc s u):ep μ loc l u.cells.toList∧∀x∈u.cells.toList,x.oneCell'=true:=by
 unfold KI at h;split at h
 ·rename_i cs
  injection h with h;subst h
  simp only [cT,rep] at k;obtain ⟨vs,rfl,h1,h2⟩:=k;exact ⟨by simpa [Value.cells] using mc h1,by simpa [Value.cells] using h2⟩
 ·cases ho:kL st s with
  |false=>rw [ho] at h;cases h
  |true=>
   rw [ho] at h;simp only [cond_true,Option.some.injEq] at h;subst h;obtain ⟨h1,h2⟩:=KG hR ho k;rw [h2];exact ⟨⟨_,[],rfl,k,rfl⟩,by simpa using h1⟩
theorem yE (hR:Rel N w0 μ0 L μ loc st a w) {place:Nat→Option (Nat×Nat)} {ty:Nat→TypeId}:∀{parts:List (Nat×Operand)} {ps:List (Nat×List SV)} {cells cs:List SV} {vs:List Value},vJ P ty st parts=some ps→Gw place cells ps=some cs→ep μ loc cells vs→(∀u∈vs,u.oneCell'=true)→
  ∃ws:List Value,Instr.fill place vs.toArray (parts.map fun p=>(p.1,a.eval p.2))=some ws.toArray∧ep μ loc cs ws∧∀u∈ws,u.oneCell'=true
 |[],ps,cells,cs,vs=>fun h1 h2 h3 h4=>by
  simp only [vJ,Option.some.injEq] at h1;subst h1;simp only [Gw,Option.some.injEq] at h2;subst h2;exact ⟨vs,by simp [Instr.fill],h3,h4⟩
 |(i,x)::parts,ps,cells,cs,vs=>fun h1 h2 h3 h4=>by
  simp only [vJ] at h1;split at h1
  ·rename_i l rest hx pK
   injection h1 with h1;subst h1
   obtain ⟨sx,VG,hl⟩:=Option.bind_eq_some_iff.1 hx;obtain ⟨hc,hone⟩:=Fb hR hl (aX hR VG);simp only [Gw] at h2;split at h2
   ·cases h2
   ·rename_i off size Nj
    split at h2
    ·rename_i c6
     have hlen:(a.eval x).cells.size=size:=by
      have:=iZ hc;simpa [c6.1] using this
     have hvl:=iZ h3;have hnews:=iY (iY (uC h3 off) hc) (uB h3 (off+size))
     obtain ⟨ws,hw,hr,ho⟩:=yE hR pK h2 hnews (fun u hu=>by
      simp only [List.mem_append] at hu;rcases hu with (hu|hu)|hu
      ·exact h4 u (List.mem_of_mem_take hu)
      ·exact hone u hu
      ·exact h4 u (List.mem_of_mem_drop hu))
     refine ⟨ws,?_,hr,ho⟩;simp only [List.map_cons,Instr.fill,Nj];rw [if_neg (by simp [hlen];omega)];rw [←hw]
     congr 1
     have hsp:=za vs (a.eval x).cells.toList off 0 (by simp;omega);simp only [Nat.add_zero,Array.length_toList,hlen] at hsp;rw [←hsp,←Array.foldl_toList,Array.toList_zipIdx]
    ·cases h2
  ·cases h1
theorem tE:∀{cs:List SV} {caps:List j3} {vs:List Value},uX st cs=some caps→ep μ loc cs vs→iC μ loc caps vs
 |[],caps,vs=>fun h k=>by simp only [uX,Option.some.injEq] at h;subst h;exact k
 |s::cs,caps,vs=>fun h ⟨u,us,e,k1,k2⟩=>by
  simp only [uX] at h;split at h
  ·rename_i c rest hc pK
   injection h with h;subst h
   refine ⟨u,us,e,?_,tE pK k2⟩;unfold Tv at hc;cases ho:kL st s with
   |false=>rw [ho] at hc;cases hc
   |true=>
    rw [ho] at hc;simp only [cond_true] at hc;split at hc
    ·injection hc with hc;subst hc;exact k1
    ·injection hc with hc;subst hc;exact k1
    ·cases hc
  ·cases h
theorem B9 (hR:Rel N w0 μ0 L μ loc st a w) {o:Oper} {d:Nat} {t:TypeId} {parts:Array (Nat×Operand)} (hd:d<N) (cG:o.dst=some d) (ho:o.op= .build t parts) (h:wN P st d t parts.toList=some st') (hK:j4 N w0 μ0 L st' K):o.wp P a w K Q:=by
 unfold wN at h;split at h
 ·rename_i fs FP l hu hz
  cases Nh:fs.toList.all (fun f=>(gz P f.type).isSome) with
  |false=>rw [Nh] at h;cases h
  |true=>
   rw [Nh] at h;simp only [cond_true] at h;split at h
   ·rename_i ps hps
    split at h
    ·rename_i cs hcs
     injection h with h;subst h
     obtain ⟨sv2,hf,hca⟩:=Option.bind_eq_some_iff.1 hcs;obtain ⟨vs,hvs,hcell⟩:=Option.bind_eq_some_iff.1 hz;unfold sL at hvs;split at hvs
     ·rename_i i hi
      simp only [Option.map_eq_some_iff] at hvs;obtain ⟨v,YI,rfl⟩:=hvs;obtain ⟨h1,h2,h3⟩:=oF (μ:=μ) 0 _ _ _ _ hcell;obtain ⟨loc',rQ,h4,_⟩:=oR hR l st loc hR h1;obtain ⟨ws,hw,hr,hone⟩:=yE rQ hps hf (h3 loc' h4) h2;refine dZ (v:= .agg ws.toArray) (w':=w) ?_ ?_
      ·obtain ⟨fl⟩:=fs
       have Nj:=run_places (P:=P) (w:=w) fl Nh;have hpe:(fun x=>Option.map (fun f:Field=>(f.offset,(gz P f.type).getD 0)) fl[x]?)=iQ P t:=by
        funext x
        simp only [iQ,nZ,hu,List.getElem?_toArray];cases hx:fl[x]? with
        |none=>rfl
        |some fd=>
         obtain ⟨n,hn⟩:=Option.isSome_iff_exists.1 (List.all_eq_true.1 Nh fd (List.mem_of_getElem? hx));simp [hn]
       simp only [Array.toArray_toList] at hw;unfold execOp;rw [ho];simp [Instr.build,zeroValue,typeInfo,hi,YI,run_underlying hu,Nj,hpe,hw]
      ·rw [cG]
       exact hK _ _ _ _ (rQ.set (fun i hi=>by injection hi with hi;omega) ⟨ws,rfl,tE hca hr,hone⟩)
     ·cases hvs
    ·cases h
   ·cases h
 ·cases h
theorem nt:∀{l:List Nat},distinct l=true→l.Nodup
 |[],_=>List.nodup_nil
 |x::l,h=>by
  simp only [distinct,Bool.and_eq_true,Bool.not_eq_true'] at h;refine List.nodup_cons.2 ⟨fun hm=> ?_,nt h.2⟩;have:l.contains x=true:=by simpa using hm
  rw [this] at h;cases h.1
theorem mT {α:Type}:∀{l:List (Nat×α)} {i:Nat} {v:α},find l i=some v→(i,v)∈l
 |[],_,_,h=>by simp [find] at h
 |(j,u)::l,i,v,h=>by
  simp only [find] at h;cases hb:Nat.beq j i with
  |true=>simp only [hb,cond_true,Option.some.injEq] at h;have:=beq_iff.1 hb;subst this;subst h;simp
  |false=>simp only [hb,cond_false] at h;exact List.mem_cons_of_mem _ (mT h)
theorem CU {α:Type}:∀{l:List (Nat×α)} {i:Nat},find l i=none→i∉l.map (·.1)
 |[],_,_=>by simp
 |(j,u)::l,i,h=>by
  simp only [find] at h;cases hb:Nat.beq j i with
  |true=>simp [hb] at h
  |false=>
   simp only [hb,cond_false] at h;simp only [List.map_cons,List.mem_cons,not_or];exact ⟨fun e=>by subst e;simp [Nat.beq_refl] at hb,CU h⟩
theorem iS {α:Type}:∀{l:List (Nat×α)} {i:Nat} {v:α},(l.map (·.1)).Nodup→(i,v)∈l→find l i=some v
 |[],_,_,_,h=>by simp at h
 |(j,u)::l,i,v,hn,h=>by
  simp only [List.map_cons,List.nodup_cons] at hn;simp only [find];rcases List.mem_cons.1 h with h|h
  ·injection h with h1 h2;subst h1;subst h2;simp [Nat.beq_refl]
  ·have:j≠i:=fun e=>by subst e;exact hn.1 (List.mem_map.2 ⟨_,h,rfl⟩)
   rw [I4 this];exact iS hn.2 h
theorem oc (mv:Nat→Bool):∀(k:Nat) (l:List Nat),(iy mv k l).map (·.1)=l
 |_,[]=>rfl
 |k,id::l=>by simp [iy,oc mv (k+1) l]
theorem oQ (mv:Nat→Bool):∀(k:Nat) (l:List Nat),k+l.length≤10000→∀p∈iy mv k l,(mv p.1=true→20000+k≤p.2)∧(mv p.1=false→10000+k≤p.2∧p.2<20000)
 |_,[],_,p,h=>by simp [iy] at h
 |k,id::l,hk,p,h=>by
  simp only [List.length_cons] at hk;simp only [iy,List.mem_cons] at h;rcases h with rfl|h
  ·cases hm:mv id<;>simp [hm]<;>omega
  ·have:=oQ mv (k+1) l (by omega) p h
   exact ⟨fun e=>by have:=this.1 e;omega,fun e=>by have:=this.2 e;omega⟩
theorem oP (mv:Nat→Bool):∀(k:Nat) (l:List Nat),k+l.length≤10000→((iy mv k l).map (·.2)).Nodup
 |_,[],_=>by simp [iy]
 |k,id::l,hk=>by
  simp only [List.length_cons] at hk;simp only [iy,List.map_cons,List.nodup_cons];refine ⟨fun hm=> ?_,oP mv (k+1) l (by omega)⟩;obtain ⟨p,hp,e⟩:=List.mem_map.1 hm;have:=oQ mv (k+1) l (by omega) p hp;cases h1:mv p.1 with
  |true=>have h2:=this.1 h1;cases h3:mv id<;>simp [h3] at e<;>omega
  |false=>have h2:=this.2 h1;cases h3:mv id<;>simp [h3] at e<;>omega
theorem Bp:∀(m:List (Nat×Nat)),(swap m).map (·.1)=m.map (·.2)
 |[]=>rfl
 |(a,b)::l=>by simp [swap,Bp l]
theorem AR:∀{m:List (Nat×Nat)} {a b:Nat},(a,b)∈m→(b,a)∈swap m
 |(x,y)::l,a,b,h=>by
  rcases List.mem_cons.1 h with h|h
  ·injection h with h1 h2;subst h1;subst h2;simp [swap]
  ·simp only [swap];exact List.mem_cons_of_mem _ (AR h)
theorem se {loc loc':Nat→Value} {ρ:Nat→Nat} {names:List Nat} (hρ:∀j∈names,loc' (ρ j)=loc j):∀{cs:List j3} {vs:List Value},SV.closed names (.cl 0 cs)=true→iC μ loc cs vs→iC μ loc' (cs.map (j3.l6 ρ)) vs
 |[],vs,_,h=>h
 |c::cs,vs,hc,⟨u,us,e,h1,h2⟩=>by
  simp only [SV.closed,List.all_cons,Bool.and_eq_true] at hc;refine ⟨u,us,e,?_,se hρ (by simpa [SV.closed] using hc.2) h2⟩;cases c with
  |v a=>exact h1
  |p id=>obtain ⟨b,k1,k2⟩:=h1;exact ⟨b,by rw [hρ id (by simpa using hc.1)];exact k1,k2⟩
  |r id=>show u=dL (loc' (ρ id));rw [hρ id (by simpa using hc.1)];exact h1
theorem HN {loc loc':Nat→Value} {ρ:Nat→Nat} {names:List Nat} (hρ:∀j∈names,loc' (ρ j)=loc j) {s:SV} {v:Value} (hc:s.closed names=true) (h:cT μ loc s v):cT μ loc' (s.l6 ρ) v:=by
 induction s generalizing v with
 |two s b ih=>obtain ⟨x,e,h⟩:=h;exact ⟨x,e,ih (by simpa [SV.closed] using hc) h⟩
 |undef=>exact h
 |any=>exact h
 |pv x=>exact h
 |cp cs=>exact h
 |ptr j off=>obtain ⟨b,h1,h2⟩:=h;exact ⟨b,by rw [hρ j (by simpa [SV.closed] using hc)];exact h1,h2⟩
 |row j=>show v=dL (loc' (ρ j));rw [hρ j (by simpa [SV.closed] using hc)];exact h
 |rp j sz i off=>obtain ⟨g,n,c,h1,h2⟩:=h;exact ⟨g,n,c,by rw [hρ j (by simpa [SV.closed] using hc)];exact h1,h2⟩
 |sub j sz lo hi=>obtain ⟨A,n,c,A',c',h1,h2⟩:=h;exact ⟨A,n,c,A',c',by rw [hρ j (by simpa [SV.closed] using hc)];exact h1,h2⟩
 |cl f caps=>obtain ⟨vs,e,h1⟩:=h;exact ⟨vs,e,se hρ (by simpa [SV.closed] using hc) h1⟩
 |ag caps=>obtain ⟨vs,e,h1,h2⟩:=h;exact ⟨vs,e,se hρ (by simpa [SV.closed] using hc) h1,h2⟩
theorem xK {loc loc':Nat→Value} {ρ:Nat→Nat} {names:List Nat} (hρ:∀j∈names,loc' (ρ j)=loc j):∀{cs:List SV} {vs:List Value},cs.all (SV.closed names)=true→ep μ loc cs vs→ep μ loc' (cs.map (SV.l6 ρ)) vs
 |[],vs,_,h=>h
 |c::cs,vs,hc,⟨u,us,e,h1,h2⟩=>by
  simp only [List.all_cons,Bool.and_eq_true] at hc;exact ⟨u,us,e,HN hρ hc.1 h1,xK hρ hc.2 h2⟩
theorem AX {n0 n0':Nat} {L L':kP} {loc loc':Nat→Value} {ρ:Nat→Nat} {names:List Nat} (hρ:∀j∈names,loc' (ρ j)=loc j) {id id':Nat} {o:Ob} (hc:o.closed names=true) (h:gQ n0 L μ loc w id o) (hid:loc' id'=loc id)
  (hown:∀b,fV (loc id) b→Fa n0' L' id' b):gQ n0' L' μ loc' w id' (o.l6 ρ):=by
 cases o with
 |box t cells=>
  obtain ⟨b,vs,hl,ho,hh,hm,hs,h1⟩:=h;exact ⟨b,vs,by rw [hid];exact hl,hown b (by rw [hl];exact jE.2 rfl),hh,hm,xK hρ hc hs,h1⟩
 |row e sz xs=>
  obtain ⟨vs,hw,hrc,hm⟩:=h;exact ⟨vs,by rw [hid];exact hw,hrc,fun g hg=>by rw [hid] at hg;exact ⟨hown g hg,(hm g hg).2⟩⟩
 |mp k e ks es=>
  obtain ⟨b,bL,clock,hl,ho,hh,hm,h1,h2,hB⟩:=h;exact ⟨b,bL,clock,by rw [hid];exact hl,hown b (by rw [hl];exact mJ.2 rfl),hh,hm,h1,h2,hB⟩
 |mr k e sz ks vs=>simp [Ob.closed] at hc
 |it s pos=>
  obtain ⟨b,hl,ho,hh,hm⟩:=h;exact ⟨b,by rw [hid];exact hl,hown b (by rw [hl];exact jE.2 rfl),hh,hm⟩
theorem vO {tm:Nat→Option Value}:∀(l:List Nat) (st:St) (loc ji:Nat→Value),(∀i,i∉l→ji i=loc i)→(∀i s,st.env i=some s→∃v,tm i=some v∧cT μ loc s v)→∀i s,(lZ l st).env i=some s→∃v,tm i=some v∧cT μ ji s v
 |[],st,loc,ji,hl,h,i,s,hs=>by
  have:ji=loc:=funext fun i=>hl i (by simp)
  rw [this];exact h i s hs
 |id::l,st,loc,ji,hl,h,i,s,hs=>by
  refine vO l (st.bR id) (tV loc id (ji id)) ji (fun i hi=> ?_) (fun i s hs=> ?_) i s hs
  ·by_cases e:i=id
   ·subst e;rw [cA]
   ·rw [cm _ _ e];exact hl i (by simp [e,hi])
  ·simp only [St.bR,Option.map_eq_some_iff] at hs
   obtain ⟨s0,hs0,rfl⟩:=hs;obtain ⟨v,hv,hr⟩:=h i s0 hs0;exact ⟨v,hv,qK hr⟩
theorem yX:∀(l:List Nat) (st:St) (loc ji:Nat→Value),(∀i,i∉l→ji i=loc i)→∀i o',(lZ l st).ob i=some o'→i∉l∧∃o,st.ob i=some o∧∀n0 L μ w,gQ n0 L μ loc w i o→gQ n0 L μ ji w i o'
 |[],st,loc,ji,hl,i,o',ho=>by
  have:ji=loc:=funext fun i=>hl i (by simp)
  rw [this];exact ⟨by simp,o',ho,fun _ _ _ _ h=>h⟩
 |id::l,st,loc,ji,hl,i,o',ho=>by
  obtain ⟨h1,o1,h2,h3⟩:=yX l (st.bR id) (tV loc id (ji id)) ji (fun i hi=>by
   by_cases e:i=id
   ·subst e;rw [cA]
   ·rw [cm _ _ e];exact hl i (by simp [e,hi])) i o' ho
  by_cases e:id=i
  ·subst e;simp [St.bR,bO] at h2
  ·simp only [St.bR,aV _ _ e,Option.map_eq_some_iff] at h2
   obtain ⟨o,ho,rfl⟩:=h2;exact ⟨by simp [Ne.symm e,h1],o,ho,fun n0 L μ w h=>h3 n0 L μ w (uy h (Ne.symm e))⟩
theorem uU (hR:Rel N w0 μ0 L μ loc st a w):∀{xs:List Operand} {ts:List TypeId} {vs:List SV},oC P h st xs ts=some vs→ep μ loc vs (xs.map a.eval)
 |[],ts,vs,hv=>by simp only [oC,Option.some.injEq] at hv;subst hv;rfl
 |x::xs,ts,vs,hv=>by
  simp only [oC] at hv;split at hv
  ·rename_i v vs' h1 h2
   injection hv with hv;subst hv
   refine ⟨_,_,rfl,?_,uU hR h2⟩;unfold Ol at h1;split at h1
   all_goals first
    |(rename_i hx;injection h1 with h1;subst h1;exact aX hR hx)
    |cases h1
    |(rename_i hx;cases hb:isRef h x with
      |false=>rw [hb] at h1;cases h1
      |true=>rw [hb] at h1;simp only [cond_true,Option.some.injEq] at h1;subst h1;exact aX hR hx)
  ·cases hv
theorem tK {ids:List Nat} {ρ:Nat→Nat}:∀{l:List (Nat×Nat)} {bQ:List (Nat×Ob)},fW st ids ρ l=some bQ→bQ.map (·.1)=l.map (·.2)∧∀nm o',(nm,o')∈bQ→∃id o,(id,nm)∈l∧st.ob id=some o∧o.closed ids=true∧o'=o.l6 ρ
 |[],bQ,hv=>by simp only [fW,Option.some.injEq] at hv;subst hv;simp
 |(id,nm)::l,bQ,hv=>by
  simp only [fW] at hv;split at hv
  ·rename_i o os ho hos
   cases hc:o.closed ids with
   |false=>rw [hc] at hv;cases hv
   |true=>
    simp only [hc,cond_true,Option.some.injEq] at hv;subst hv;obtain ⟨h1,h2⟩:=tK hos;refine ⟨by simp [h1],fun KA o' hm=> ?_⟩;rcases List.mem_cons.1 hm with hm|hm
    ·injection hm with e1 e2;subst e1;subst e2;exact ⟨id,o,by simp,ho,hc,rfl⟩
    ·obtain ⟨id',o1,k1,k2⟩:=h2 KA o' hm
     exact ⟨id',o1,by simp [k1],k2⟩
  ·cases hv
theorem tC {names:List Nat} {ρ:Nat→Nat}:∀{l:List (Nat×Nat)} {bQ back:List (Nat×Ob)},lE names ρ l bQ=some back→bQ.map (·.1)=l.map (·.2)∧back.map (·.1)=l.map (·.1)∧∀id o',(id,o')∈back→∃nm o,(id,nm)∈l∧(nm,o)∈bQ∧o.closed names=true∧o'=o.l6 ρ
 |[],[],back,hv=>by simp only [lE,Option.some.injEq] at hv;subst hv;simp
 |[],_::_,back,hv=>by simp [lE] at hv
 |_::_,[],back,hv=>by simp [lE] at hv
 |(id,nm)::l,(KA,o)::os,back,hv=>by
  simp only [lE] at hv;cases hb:(Nat.beq nm KA&&o.closed names) with
  |false=>rw [hb] at hv;cases hv
  |true=>
   simp only [hb,cond_true,Option.map_eq_some_iff] at hv;obtain ⟨r,hr,rfl⟩:=hv;simp only [Bool.and_eq_true] at hb;have:=beq_iff.1 hb.1;subst this;obtain ⟨h1,h2,h3⟩:=tC hr;refine ⟨by simp [h1],by simp [h2],fun id' o' hm=> ?_⟩;rcases List.mem_cons.1 hm with hm|hm
   ·injection hm with e1 e2;subst e1;subst e2;exact ⟨nm,o,by simp,by simp,hb.2,rfl⟩
   ·obtain ⟨nm1,o1,k1,k2,k3⟩:=h3 id' o' hm
    exact ⟨nm1,o1,by simp [k1],by simp [k2],k3⟩
theorem rG (hR:Rel N w0 μ0 L μ loc st a w) (e7:ez L.q μ0 P bH) {o:Oper} {c:Call} {f:Operand} {st1:St} (hd:∀i,o.dst=some i→i<N) (ho:o.op= .call c) (hc:c.callee= .value f)
  (hv:gd P h bH st c f o.dst=some st1) (hK:j4 N w0 μ0 L st1 K):o.wp P a w K Q:=by
 unfold gd at hv;split at hv
 ·rename_i g caps vs hf hvs
  simp only [] at hv;generalize zq:eO st 200 ((vs++caps).flatMap SV.ids) []=ids at hv;generalize mD:s6 (o.dst.any h.stay.contains) st (xL (vs++caps))=mv at hv;generalize hm:iy mv 0 ids=m at hv;cases c6:(distinct ids&&Nat.blt ids.length 10000&&(vs++caps).all (SV.closed ids)) with
  |false=>rw [c6] at hv;cases hv
  |true=>
  simp only [c6,cond_true] at hv;simp only [Bool.and_eq_true] at c6;obtain ⟨⟨Po,hlen⟩,Ye⟩:=c6;have hlen:ids.length<10000:=by simpa [Nat.blt_eq] using hlen
  have hnd:=nt Po;have SG:m.map (·.1)=ids:=by rw [←hm];exact oc _ _ _
  have VD:∀p∈m,(mv p.1=true→20000≤p.2)∧(mv p.1=false→10000≤p.2∧p.2<20000):=by
   rw [←hm];intro p hp;have:=oQ mv 0 ids (by omega) p hp;exact ⟨fun e=>by have:=this.1 e;omega,fun e=>by have:=this.2 e;omega⟩
  have uP:(m.map (·.2)).Nodup:=by rw [←hm];exact oP mv 0 ids (by omega)
  have iU:∀id nm,(id,nm)∈m→find m id=some nm:=fun id nm hp=>iS (by rw [SG];exact hnd) hp
  have hswap:∀id nm,(id,nm)∈m→find (swap m) nm=some id:=fun id nm hp=>iS (by rw [Bp];exact uP) (AR hp)
  have hex:∀id∈ids,∃nm,(id,nm)∈m:=fun id hid=>by
   rw [←SG] at hid;obtain ⟨p,hp,rfl⟩:=List.mem_map.1 hid;exact ⟨p.2,hp⟩
  let nR:Nat→Value:=fun nm=>match find (swap m) nm with
   |some id=>loc id
   |none=>loc nm
  have yJ:∀id nm,(id,nm)∈m→nR nm=loc id:=fun id nm hp=>by simp only [nR,hswap id nm hp]
  have hren:∀id nm,(id,nm)∈m→jT m id=nm:=fun id nm hp=>by simp [jT,iU id nm hp]
  have Yx:∀id nm,(id,nm)∈m→jT (swap m) nm=id:=fun id nm hp=>by simp [jT,hswap id nm hp]
  have hρ:∀j∈ids,nR (jT m j)=loc j:=fun j hj=>by
   obtain ⟨nm,hp⟩:=hex j hj;rw [hren j nm hp,yJ j nm hp]
  split at hv
  ·rename_i bQ vj
   obtain ⟨hl1,N5⟩:=tK vj;have hlnd:(bQ.map (·.1)).Nodup:=by rw [hl1];exact uP
   split at hv
   ·rename_i r dI hr
    split at hv
    ·rename_i back rR
     obtain ⟨hb1,SC,hb3⟩:=tC rR;have hbnd:(dI.map (·.1)).Nodup:=by rw [hb1];exact uP
     have hbid:back.map (·.1)=ids:=by rw [SC,SG]
     cases C0:r.ic with
     |false=>rw [C0] at hv;cases hv
     |true=>
     simp only [C0,cond_true,Option.some.injEq] at hv;subst hv;obtain ⟨sf,hsf,hfn⟩:=Option.bind_eq_some_iff.1 hf;have Yk:=aX hR hsf;obtain ⟨cs,Ng,hcs⟩:∃cs:List Value,a.eval f= .func (.func g) #[] cs.toArray∧ep μ loc caps cs:=by
      unfold Sw at hfn;split at hfn
      ·simp only [Option.some.injEq,Prod.mk.injEq] at hfn
       obtain ⟨rfl,rfl⟩:=hfn;simp only [cT,rep] at Yk;obtain ⟨us,e,hu⟩:=Yk;exact ⟨us,e,mc hu⟩
      ·rename_i g' OG
       simp only [Option.some.injEq,Prod.mk.injEq] at hfn;obtain ⟨rfl,rfl⟩:=hfn;obtain ⟨us,e,hu⟩:=Yk;exact ⟨us,e,qk hu⟩
      ·cases hfn
     have hargs:=uU hR hvs;have hall:=xK hρ Ye (iY hargs hcs);have qp:∀i oi,find bQ i=some oi→gQ w.heap.size (gP L.q nR (bQ.map (·.1))) μ nR w i oi:=by
      intro i oi hi;obtain ⟨id,ob,hp,cQ,hoc,rfl⟩:=N5 i oi (mT hi);refine AX hρ hoc (hR.obs id _ cQ) (yJ id i hp) (fun b hb=> .inr ⟨loc id,?_,hb⟩);have:i∈bQ.map (·.1):=by rw [hl1];exact List.mem_map.2 ⟨_,hp,rfl⟩
      simp only [gP,if_pos this,yJ id i hp]
     have hapC:K9 nR bQ:=by
      intro i j oi oj hi hj hij q hq;obtain ⟨id,ob,hp,cQ,_⟩:=N5 i oi (mT hi);obtain ⟨id',W1,hp',pJ,_⟩:=N5 j oj (mT hj);rw [yJ id i hp] at hq;rw [yJ id' j hp'];refine hR.apart id id' ob W1 cQ pJ (fun e=>hij ?_) q hq;subst e;have:=(iU id i hp).symm.trans (iU id j hp');injection this
     obtain ⟨he,hC⟩:=e7 g _ _ r _ hr w μ nR (c.args.toList.map a.eval++cs) hR.base.1 hR.q8 qp hapC hall;refine zN (R:=fun v w'=>∃μ' loc',eY L.q μ nR (bQ.map (·.1)) r dI w v μ' loc' w') (r:=r) (dI:=[]) ho hc Ng rfl he (hC.mono ?_) ?_
     ·rintro e w' ⟨v,μ',loc',rfl,hP⟩
      exact ⟨v,rfl,μ',loc',hP⟩
     rintro v w' ⟨μ',loc',hP⟩
     let ji:Nat→Value:=fun i=>match find m i with
      |some nm=>loc' nm
      |none=>loc i
     have Nc:∀id nm,(id,nm)∈m→ji id=loc' nm:=fun id nm hp=>by simp only [ji,iU id nm hp]
     have Lt:∀i,i∉ids.filter mv→ji i=loc i:=by
      intro i hi;cases Lx:find m i with
      |none=>simp only [ji,Lx]
      |some nm=>
       have hp:=mT Lx;have hmem:i∈ids:=by rw [←SG];exact List.mem_map.2 ⟨_,hp,rfl⟩
       have hmv0:mv i=false:=by
        cases hx:mv i with
        |false=>rfl
        |true=>exact absurd (List.mem_filter.2 ⟨hmem,hx⟩) hi
       rw [Nc i nm hp,hP.fix nm (by rw [hl1];exact List.mem_map.2 ⟨_,hp,rfl⟩) ((VD _ hp).2 hmv0).2];exact yJ i nm hp
     have hlb:∀b,Da (gP L.q nR (bQ.map (·.1))) b→∃id ob,id∈ids∧st.ob id=some ob∧fV (loc id) b:=by
      rintro b ⟨nm,x,hx,Lw⟩
      simp only [gP] at hx;split at hx
      ·rename_i hmem
       injection hx with hx;subst hx
       rw [hl1] at hmem;obtain ⟨p,hp,rfl⟩:=List.mem_map.1 hmem;rw [yJ p.1 p.2 hp] at Lw;obtain ⟨q,hq,e⟩:=List.mem_map.1 (show p.2∈bQ.map (·.1) by rw [hl1];exact List.mem_map.2 ⟨_,hp,rfl⟩);obtain ⟨id,ob,k1,k2,_⟩:=N5 q.1 q.2 hq;rw [e] at k1;have:=(hswap p.1 p.2 hp).symm.trans (hswap id p.2 k1);injection this with this
       exact ⟨p.1,ob,by rw [←SG];exact List.mem_map.2 ⟨_,hp,rfl⟩,by rw [this];exact k2,Lw⟩
      ·cases hx
     have Vx:∀i oi,st.ob i=some oi→i∉ids→gQ w0.heap.size L μ' loc w' i oi:=by
      intro i oi hi hni;refine (hR.obs i oi hi).keep hP.ext.1 (fun b hb=> ?_);obtain ⟨_,hlt,pH⟩:=(hR.obs i oi hi).block b hb;refine ⟨hP.keep b hlt (fun hl=> ?_),fun j=> ?_⟩
      ·obtain ⟨id,ob,h1,h2,h3⟩:=hlb b hl
       exact hR.apart id i ob oi h2 hi (fun e=>hni (by rw [←e];exact h1)) b h3 hb
      ·cases hj:μ' b j with
       |none=>rfl
       |some x=>
        rcases hP.ext.2 b j x hj with hx|hx
        ·rw [pH j] at hx;cases hx
        ·omega
     have Vl:∀id o',find back id=some o'→∃nm o,(id,nm)∈m∧find dI nm=some o∧o.closed (m.map (·.2))=true∧o'=o.l6 (jT (swap m)):=by
      intro id o' B5;obtain ⟨nm,o,h1,h2,h3,h4⟩:=hb3 id o' (mT B5);exact ⟨nm,o,h1,iS hbnd h2,h3,h4⟩
     have GN:∀id nm ob b,(id,nm)∈m→find dI nm=some ob→fV (loc' nm) b→w.heap.size≤b∨fV (loc id) b:=by
      intro id nm ob b hp hfo hb;rcases ((hP.obs nm ob hfo).block b hb).1 with hx|⟨x,hx,Lw⟩
      ·exact .inl hx
      ·right
       simp only [gP] at hx;split at hx
       ·injection hx with hx;subst hx;rw [yJ id nm hp] at Lw;exact Lw
       ·cases hx
     have TK:∀id nm,(id,nm)∈m→∃ob,st.ob id=some ob:=by
      intro id nm hp;obtain ⟨q,hq,e⟩:=List.mem_map.1 (show nm∈bQ.map (·.1) by rw [hl1];exact List.mem_map.2 ⟨_,hp,rfl⟩);obtain ⟨id',ob,k1,k2,_⟩:=N5 q.1 q.2 hq;rw [e] at k1;have:=(hswap id nm hp).symm.trans (hswap id' nm k1);injection this with this
      exact ⟨ob,by rw [this];exact k2⟩
     have Lz:∀i oi,((find back i).orElse fun _=>(lZ (ids.filter mv) st).ob i)=some oi→gQ w0.heap.size L μ' ji w' i oi∧((∃nm o,(i,nm)∈m∧find dI nm=some o)∨(i∉ids∧∃o,st.ob i=some o)):=by
      intro i oi hi;cases B5:find back i with
      |some o'=>
       rw [B5] at hi;simp at hi;subst hi;obtain ⟨nm,ob,hp,hfo,rS,rfl⟩:=Vl i o' B5;refine ⟨AX (names:=m.map (·.2)) (fun j hj=> ?_) rS (hP.obs nm ob hfo) (Nc i nm hp) (fun b hb=> ?_), .inl ⟨nm,ob,hp,hfo⟩⟩
       ·obtain ⟨q,hq,rfl⟩:=List.mem_map.1 hj
        rw [Yx q.1 q.2 hq,Nc q.1 q.2 hq]
       ·rcases GN i nm ob b hp hfo hb with hx|hx
        ·exact .inl (Nat.le_trans hR.grown hx)
        ·obtain ⟨ob0,Vv⟩:=TK i nm hp
         exact ((hR.obs i ob0 Vv).block b hx).1
      |none=>
       rw [B5] at hi;have hni:i∉ids:=by rw [←hbid];exact CU B5
       have hi':(lZ (ids.filter mv) st).ob i=some oi:=by simpa using hi
       obtain ⟨_,ob,cQ,hk⟩:=yX _ st loc ji Lt i oi hi';exact ⟨hk _ _ _ _ (Vx i ob cQ hni), .inr ⟨hni,ob,cQ⟩⟩
     refine hK _ _ μ' ji (Rel.set (sv:= .pv r) ?_ hd (hP.pure C0));refine ⟨hR.small,hR.names,?_,hR.size,hR.defers,?_,hP.q8,⟨hR.base.1.trans hP.ext.1,?_⟩,fun i oi hi=>(Lz i oi hi).1,?_,?_,hP.os.trans hR.os,hP.tape.trans hR.tape,hP.output.trans hR.output,Nat.le_trans hR.grown hP.grown,fun q=>Nat.le_trans (hR.drawn q) (hP.drawn q)⟩
     ·intro id x hx hlt
      rw [Lt id (fun hmem=> ?_)]
      ·exact hR.fix id x hx hlt
      ·have hmt:=(List.mem_filter.1 hmem).2
       rw [←mD] at hmt;simp only [s6,Bool.and_eq_true,lF,Bool.or_eq_true] at hmt;rcases hmt.1.1.2 with hh|hh
       ·have:id<10000:=by simpa [Nat.blt_eq] using hh
        rw [hR.names id this] at hx;cases hx
       ·have:=Nat.le_of_ble_eq_true hh.1;omega
     ·exact vO (tm:=fun i=>a.tmps[i]?) _ st loc ji Lt (fun i s hs=>by
       obtain ⟨u,hu,hr⟩:=hR.env i s hs
       exact ⟨u,hu,xJ hP.ext.1 hr⟩)
     ·intro b j x hx
      rcases hP.ext.2 b j x hx with hx|hx
      ·exact hR.base.2 b j x hx
      ·exact .inr (Nat.le_trans hR.grown hx)
     ·intro i j oi oj hi hj hij q hq
      have KH:∀k ok,k∉ids→st.ob k=some ok→∀q,fV (ji k) q→fV (loc k) q∧q<w.heap.size:=by
       intro k ok hk hok q hq;have:ji k=loc k:=Lt k (fun hm=>hk (List.mem_filter.1 hm).1);rw [this] at hq;exact ⟨hq,((hR.obs k ok hok).block q hq).2.1⟩
      have mixed:∀i nm o j oj q,(i,nm)∈m→find dI nm=some o→j∉ids→st.ob j=some oj→fV (ji i) q→fV (ji j) q→False:=by
       intro i nm o j oj q hp hfo hj R1 hqi JD;obtain ⟨hqj',hlt⟩:=KH j oj hj R1 q JD;rw [Nc i nm hp] at hqi;rcases GN i nm o q hp hfo hqi with hx|hx
       ·omega
       ·obtain ⟨ob0,Vv⟩:=TK i nm hp
        exact hR.apart i j ob0 oj Vv R1 (fun e=>hj (by rw [←e,←SG];exact List.mem_map.2 ⟨_,hp,rfl⟩)) q hx hqj'
      rcases (Lz i oi hi).2 with ⟨nm,o,hp,hfo⟩|⟨hni,ob,cQ⟩
      ·rcases (Lz j oj hj).2 with ⟨KA,o',hp',Vp⟩|⟨TJ,W1,pJ⟩
       ·rw [Nc i nm hp] at hq
        rw [Nc j KA hp'];refine hP.apart nm KA o o' hfo Vp (fun e=>hij ?_) q hq;subst e;have:=(hswap i nm hp).symm.trans (hswap j nm hp');injection this
       ·exact fun JD=>mixed i nm o j W1 q hp hfo TJ pJ hq JD
      ·rcases (Lz j oj hj).2 with ⟨KA,o',hp',Vp⟩|⟨TJ,W1,pJ⟩
       ·exact fun JD=>mixed j KA o' i ob q hp' Vp hni cQ JD hq
       ·obtain ⟨hqi,_⟩:=KH i ob hni cQ q hq
        intro JD;obtain ⟨JD,_⟩:=KH j W1 TJ pJ q JD;exact hR.apart i j ob W1 cQ pJ hij q hqi JD
     ·intro b hb hl
      refine (hP.keep b (Nat.lt_of_lt_of_le hb hR.grown) (fun hl'=> ?_)).trans (hR.keep b hb hl);obtain ⟨id,ob,_,h2,h3⟩:=hlb b hl';rcases ((hR.obs id ob h2).block b h3).1 with hx|⟨x,hx,Lw⟩
      ·omega
      ·exact hl ⟨id,x,hx,Lw⟩
    ·cases hv
   ·cases hv
  ·cases hv
 ·cases hv
mutual
theorem AV.mO:∀(a b:AV),AV.same a b=true→a=b
 | .bool a,b=>by cases b<;>simp [AV.same]
 | .int k a,b=>by cases b<;>simp [AV.same]
 | .str a,b=>by cases b<;>simp [AV.same]
 | .bS s xs,b=>by
  cases b<;>simp only [AV.same,Bool.and_eq_true,Bool.false_eq_true,false_imp_iff]
  rintro ⟨h1,h2⟩
  rw [beq_iff.1 h1,vW _ _ h2]
 | .agg a,b=>by
  cases b<;>simp only [AV.same,Bool.false_eq_true,false_imp_iff];intro h;rw [gT _ _ h]
 | .fn f a,b=>by
  cases b<;>simp only [AV.same,Bool.and_eq_true,Bool.false_eq_true,false_imp_iff]
  rintro ⟨h1,h2⟩
  rw [beq_iff.1 h1,gT _ _ h2]
 | .fk a,b=>by
  cases b<;>simp only [AV.same,Bool.false_eq_true,false_imp_iff];intro h;rw [gT _ _ h]
 | .ref a,b=>by
  cases b<;>simp only [AV.same,Bool.false_eq_true,false_imp_iff];intro h;rw [gT _ _ h]
 | .mp a b,c=>by
  cases c<;>simp only [AV.same,Bool.and_eq_true,Bool.false_eq_true,false_imp_iff]
  rintro ⟨h1,h2⟩
  rw [gT _ _ h1,gT _ _ h2]
 | .self n,b=>by
  cases b<;>simp only [AV.same,Bool.false_eq_true,false_imp_iff];intro h;rw [beq_iff.1 h]
 | .qB,b=>by cases b<;>simp [AV.same]
theorem gT:∀(a b:List AV),kM a b=true→a=b
 |[],[]=>fun _=>rfl
 |[],_::_=>fun h=>by simp [kM] at h
 |_::_,[]=>fun h=>by simp [kM] at h
 |x::l,y::m=>fun h=>by
  simp only [kM,Bool.and_eq_true] at h;rw [AV.mO x y h.1,gT l m h.2]
theorem vW:∀(a b:List (List AV)),tT a b=true→a=b
 |[],[]=>fun _=>rfl
 |[],_::_=>fun h=>by simp [tT] at h
 |_::_,[]=>fun h=>by simp [tT] at h
 |x::l,y::m=>fun h=>by
  simp only [tT,Bool.and_eq_true] at h;rw [gT x y h.1,vW l m h.2]
end
mutual
theorem AV.ja:∀a:AV,AV.same a a=true
 | .bool a=>by simp [AV.same]
 | .int k a=>by simp [AV.same]
 | .str a=>by simp [AV.same]
 | .bS s xs=>by simp [AV.same,Nat.beq_refl,qM xs]
 | .agg a=>by simp [AV.same,fR a]
 | .fn f a=>by simp [AV.same,Nat.beq_refl,fR a]
 | .fk a=>by simp [AV.same,fR a]
 | .ref a=>by simp [AV.same,fR a]
 | .mp a b=>by simp [AV.same,fR a,fR b]
 | .self n=>by simp [AV.same,Nat.beq_refl]
 | .qB=>by simp [AV.same]
theorem fR:∀a:List AV,kM a a=true
 |[]=>rfl
 |x::l=>by simp [kM,AV.ja x,fR l]
theorem qM:∀a:List (List AV),tT a a=true
 |[]=>rfl
 |x::l=>by simp [tT,fR x,qM l]
end
theorem j3.mO {a b:j3} (h:a.same b=true):a=b:=by
 cases a<;>cases b<;>simp only [j3.same,Bool.false_eq_true] at h
 ·rw [AV.mO _ _ h]
 ·rw [beq_iff.1 h]
 ·rw [beq_iff.1 h]
theorem j3.ja (a:j3):a.same a=true:=by
 cases a<;>simp [j3.same,AV.ja,Nat.beq_refl]
theorem sn:∀{a b:List j3},kC a b=true→a=b
 |[],[]=>fun _=>rfl
 |[],_::_=>fun h=>by simp [kC] at h
 |_::_,[]=>fun h=>by simp [kC] at h
 |x::l,y::m=>fun h=>by
  simp only [kC,Bool.and_eq_true] at h;rw [j3.mO h.1,sn h.2]
theorem tS:∀a:List j3,kC a a=true
 |[]=>rfl
 |x::l=>by simp [kC,j3.ja x,tS l]
theorem SV.mO {a b:SV} (h:a.same b=true):a=b:=by
 induction a generalizing b with
 |two s x ih=>
  cases b<;>simp only [SV.same,Bool.and_eq_true,Bool.false_eq_true] at h;rw [ih h.1,beq_iff_eq.1 h.2]
 |undef=>cases b<;>simp only [SV.same,Bool.false_eq_true] at h;rfl
 |any=>cases b<;>simp only [SV.same,Bool.false_eq_true] at h;rfl
 |pv x=>cases b<;>simp only [SV.same,Bool.false_eq_true] at h;rw [AV.mO _ _ h]
 |ptr x y=>cases b<;>simp only [SV.same,Bool.and_eq_true,Bool.false_eq_true] at h;rw [beq_iff.1 h.1,beq_iff.1 h.2]
 |row x=>cases b<;>simp only [SV.same,Bool.false_eq_true] at h;rw [beq_iff.1 h]
 |rp x y z u=>cases b<;>simp only [SV.same,Bool.and_eq_true,Bool.false_eq_true] at h;rw [beq_iff.1 h.1.1.1,beq_iff.1 h.1.1.2,beq_iff.1 h.1.2,beq_iff.1 h.2]
 |sub x y z u=>cases b<;>simp only [SV.same,Bool.and_eq_true,Bool.false_eq_true] at h;rw [beq_iff.1 h.1.1.1,beq_iff.1 h.1.1.2,beq_iff.1 h.1.2,beq_iff.1 h.2]
 |cp x=>cases b<;>simp only [SV.same,Bool.false_eq_true] at h;rw [gT _ _ h]
 |cl f x=>cases b<;>simp only [SV.same,Bool.and_eq_true,Bool.false_eq_true] at h;rw [beq_iff.1 h.1,sn h.2]
 |ag x=>cases b<;>simp only [SV.same,Bool.false_eq_true] at h;rw [sn h]
theorem SV.ja (a:SV):a.same a=true:=by
 induction a<;>simp [SV.same,AV.ja,Nat.beq_refl,fR,tS, *]
theorem Bj:∀{a b:List SV},ow a b=true→a=b
 |[],[]=>fun _=>rfl
 |[],_::_=>fun h=>by simp [ow] at h
 |_::_,[]=>fun h=>by simp [ow] at h
 |x::l,y::m=>fun h=>by
  simp only [ow,Bool.and_eq_true] at h;rw [SV.mO h.1,Bj h.2]
theorem vX:∀a:List SV,ow a a=true
 |[]=>rfl
 |x::l=>by simp [ow,SV.ja x,vX l]
theorem xP:∀{a b:List (Option (List (List AV)))},kD a b=true→a=b
 |[],[]=>fun _=>rfl
 |[],_::_=>fun h=>by simp [kD] at h
 |none::_,[]=>fun h=>by simp [kD] at h
 |some _::_,[]=>fun h=>by simp [kD] at h
 |some x::l,some y::m=>fun h=>by
  simp only [kD,Bool.and_eq_true] at h;rw [vW _ _ h.1,xP h.2]
 |none::l,none::m=>fun h=>by
  simp only [kD] at h;rw [xP h]
 |some _::_,none::_=>fun h=>by simp [kD] at h
 |none::_,some _::_=>fun h=>by simp [kD] at h
theorem sq:∀a:List (Option (List (List AV))),kD a a=true
 |[]=>rfl
 |some x::l=>by simp [kD,qM x,sq l]
 |none::l=>by simp [kD,sq l]
theorem Ob.mO {a b:Ob} (h:a.same b=true):a=b:=by
 cases a<;>cases b<;>simp only [Ob.same,Bool.and_eq_true,Bool.false_eq_true] at h
 ·rw [beq_iff.1 h.1,Bj h.2]
 ·rw [beq_iff.1 h.1.1,beq_iff.1 h.1.2,vW _ _ h.2]
 ·rw [beq_iff.1 h.1.1.1,beq_iff.1 h.1.1.2,gT _ _ h.1.2,gT _ _ h.2]
 ·rw [beq_iff.1 h.1.1.1.1,beq_iff.1 h.1.1.1.2,beq_iff.1 h.1.1.2,gT _ _ h.1.2,xP h.2]
 ·rw [of_decide_eq_true h.1,beq_iff.1 h.2]
theorem Ob.ja (a:Ob):a.same a=true:=by
 cases a<;>simp [Ob.same,qM,Nat.beq_refl,fR,vX,sq]
theorem Bi:∀{a b:List (Nat×Ob)},mN a b=true→a=b
 |[],[]=>fun _=>rfl
 |[],_::_=>fun h=>by simp [mN] at h
 |_::_,[]=>fun h=>by simp [mN] at h
 |(i,x)::l,(j,y)::m=>fun h=>by
  simp only [mN,Bool.and_eq_true] at h;rw [beq_iff.1 h.1.1,Ob.mO h.1.2,Bi h.2]
theorem vV:∀a:List (Nat×Ob),mN a a=true
 |[]=>rfl
 |(i,x)::l=>by simp [mN,Nat.beq_refl,Ob.ja x,vV l]
theorem j3.nJ {ρ ρ':Nat→Nat} {ids:List Nat} (h:∀j∈ids,ρ' (ρ j)=j):∀{cs:List j3},SV.closed ids (.cl 0 cs)=true→(cs.map (j3.l6 ρ)).map (j3.l6 ρ')=cs
 |[],_=>rfl
 |c::cs,hc=>by
  simp only [SV.closed,List.all_cons,Bool.and_eq_true] at hc;simp only [List.map_cons];rw [j3.nJ h (by simpa [SV.closed] using hc.2)];cases c with
  |v a=>rfl
  |p id=>simp only [j3.l6];rw [h id (by simpa using hc.1)]
  |r id=>simp only [j3.l6];rw [h id (by simpa using hc.1)]
theorem SV.nJ {ρ ρ':Nat→Nat} {ids:List Nat} (h:∀j∈ids,ρ' (ρ j)=j) {s:SV} (hc:s.closed ids=true):(s.l6 ρ).l6 ρ'=s:=by
 induction s with
 |two s b ih=>simp only [SV.l6];rw [ih (by simpa [SV.closed] using hc)]
 |ptr j off=>simp only [SV.l6];rw [h j (by simpa [SV.closed] using hc)]
 |row j=>simp only [SV.l6];rw [h j (by simpa [SV.closed] using hc)]
 |rp j sz i off=>simp only [SV.l6];rw [h j (by simpa [SV.closed] using hc)]
 |sub j sz lo hi=>simp only [SV.l6];rw [h j (by simpa [SV.closed] using hc)]
 |cl f caps=>simp only [SV.l6];rw [j3.nJ h (by simpa [SV.closed] using hc)]
 |ag caps=>simp only [SV.l6];rw [j3.nJ h (by simpa [SV.closed] using hc)]
 |_=>rfl
theorem mq {ρ:Nat→Nat} {ids names:List Nat} (h:∀j∈ids,ρ j∈names):∀{cs:List j3},SV.closed ids (.cl 0 cs)=true→SV.closed names (.cl 0 (cs.map (j3.l6 ρ)))=true
 |[],_=>rfl
 |c::cs,hc=>by
  simp only [SV.closed,List.all_cons,Bool.and_eq_true] at hc;have ih:=mq h (cs:=cs) (by simpa [SV.closed] using hc.2);simp only [SV.closed,List.map_cons,List.all_cons,Bool.and_eq_true];refine ⟨?_,by simpa [SV.closed] using ih⟩;cases c with
  |v a=>rfl
  |p id=>simpa [j3.l6] using h id (by simpa using hc.1)
  |r id=>simpa [j3.l6] using h id (by simpa using hc.1)
theorem SV.tZ {ρ:Nat→Nat} {ids names:List Nat} (h:∀j∈ids,ρ j∈names) {s:SV} (hc:s.closed ids=true):(s.l6 ρ).closed names=true:=by
 induction s with
 |two s b ih=>simp only [SV.l6,SV.closed];exact ih (by simpa [SV.closed] using hc)
 |ptr j off=>simpa [SV.l6,SV.closed] using h j (by simpa [SV.closed] using hc)
 |row j=>simpa [SV.l6,SV.closed] using h j (by simpa [SV.closed] using hc)
 |rp j sz i off=>simpa [SV.l6,SV.closed] using h j (by simpa [SV.closed] using hc)
 |sub j sz lo hi=>simpa [SV.l6,SV.closed] using h j (by simpa [SV.closed] using hc)
 |cl f caps=>have:=mq h (cs:=caps) (by simpa [SV.closed] using hc);simpa [SV.l6,SV.closed] using this
 |ag caps=>have:=mq h (cs:=caps) (by simpa [SV.closed] using hc);simpa [SV.l6,SV.closed] using this
 |_=>rfl
theorem Ob.nJ {ρ ρ':Nat→Nat} {ids:List Nat} (h:∀j∈ids,ρ' (ρ j)=j) {o:Ob} (hc:o.closed ids=true):(o.l6 ρ).l6 ρ'=o:=by
 cases o with
 |box t cells=>
  simp only [Ob.l6,List.map_map]
  congr 1
  simp only [Ob.closed,List.all_eq_true] at hc;exact (List.map_congr_left fun s hs=>SV.nJ h (hc s hs)).trans (List.map_id _)
 |_=>rfl
theorem Ob.tZ {ρ:Nat→Nat} {ids names:List Nat} (h:∀j∈ids,ρ j∈names) {o:Ob} (hc:o.closed ids=true):(o.l6 ρ).closed names=true:=by
 cases o with
 |box t cells=>
  simp only [Ob.closed,List.all_eq_true] at hc;simp only [Ob.l6,Ob.closed,List.all_eq_true,List.mem_map]
  rintro _ ⟨s,hs,rfl⟩
  exact SV.tZ h (hc s hs)
 |mr k e s ks vs=>simp [Ob.closed] at hc
 |_=>rfl
theorem CL {ids names:List Nat} {ρ ρ':Nat→Nat} (h1:∀j∈ids,ρ' (ρ j)=j) (h2:∀j∈ids,ρ j∈names):∀{l:List (Nat×Nat)} {bQ:List (Nat×Ob)},fW st ids ρ l=some bQ→∃back,lE names ρ' l bQ=some back∧∀i o,find back i=some o→st.ob i=some o
 |[],bQ,hv=>by
  simp only [fW,Option.some.injEq] at hv;subst hv;exact ⟨[],rfl,fun i o h=>by simp [find] at h⟩
 |(id,nm)::l,bQ,hv=>by
  simp only [fW] at hv;split at hv
  ·rename_i o os ho hos
   obtain ⟨hc,hv⟩:=(show o.closed ids=true∧some ((nm,o.l6 ρ)::os)=some bQ from by
    cases hc:o.closed ids with
    |false=>rw [hc] at hv;cases hv
    |true=>rw [hc] at hv;exact ⟨rfl,hv⟩)
   injection hv with hv
   subst hv;obtain ⟨back,hb,hg⟩:=CL h1 h2 hos;refine ⟨(id,(o.l6 ρ).l6 ρ')::back,?_,fun i o' hf=> ?_⟩
   ·simp only [lE,Nat.beq_refl,Ob.tZ h2 hc,Bool.and_self,cond_true,hb,Option.map_some]
   ·simp only [find] at hf
    cases hbq:Nat.beq id i with
    |true=>
     simp only [hbq,cond_true,Option.some.injEq] at hf;rw [←beq_iff.1 hbq,ho,←hf,Ob.nJ h1 hc]
    |false=>simp only [hbq,cond_false] at hf;exact hg i o' hf
  ·cases hv
theorem F7 {c:Call} {f:Operand} {r:AV} {d:Option Nat} (hst:d.any h.stay.contains=true) (hv:kQ P h bH st c f=some r):gd P h bH st c f d=some (st.set d (.pv r)):=by
 unfold kQ at hv;split at hv
 ·rename_i g args hargs
  unfold qL at hargs;split at hargs
  ·rename_i g' caps vs hf hvs
   simp only [Option.some.injEq,Prod.mk.injEq] at hargs;obtain ⟨rfl,rfl⟩:=hargs;have mD:s6 (d.any h.stay.contains) st (xL (vs++caps))=fun _=>false:=by
    funext id;simp only [s6,hst,Bool.not_true,Bool.and_false]
   have zq:eO st 200 ((vs++caps).flatMap SV.ids) []=fM st (vs++caps):=rfl;generalize fM st (vs++caps)=ids at hv zq;have hm:iy (fun _=>false) 0 ids=eD ids:=rfl;cases c6:(distinct ids&&Nat.blt ids.length 10000&&(vs++caps).all (SV.closed ids)) with
   |false=>rw [c6] at hv;cases hv
   |true=>
   simp only [c6,cond_true] at hv;have Pm:=c6;simp only [Bool.and_eq_true] at Pm;obtain ⟨⟨Po,hlen⟩,Ye⟩:=Pm;have hlen:ids.length<10000:=by simpa [Nat.blt_eq] using hlen
   have hnd:=nt Po;have SG:(eD ids).map (·.1)=ids:=oc _ _ _;have uP:((eD ids).map (·.2)).Nodup:=oP _ 0 ids (by omega);have iU:∀id nm,(id,nm)∈eD ids→find (eD ids) id=some nm:=fun id nm hp=>iS (by rw [SG];exact hnd) hp
   have hswap:∀id nm,(id,nm)∈eD ids→find (swap (eD ids)) nm=some id:=fun id nm hp=>iS (by rw [Bp];exact uP) (AR hp)
   have hex:∀id∈ids,∃nm,(id,nm)∈eD ids:=fun id hid=>by
    rw [←SG] at hid;obtain ⟨p,hp,rfl⟩:=List.mem_map.1 hid;exact ⟨p.2,hp⟩
   split at hv
   ·rename_i bQ vj
    split at hv
    ·rename_i r' dI hr
     cases hs:(mN dI bQ&&r'.ic) with
     |false=>rw [hs] at hv;cases hv
     |true=>
      rw [hs] at hv;simp only [cond_true,Option.some.injEq] at hv;subst hv;simp only [Bool.and_eq_true] at hs;have e:=Bi hs.1;subst e
      obtain ⟨back,hb,hg⟩:=CL (ids:=ids) (names:=(eD ids).map (·.2)) (ρ:=jT (eD ids)) (ρ':=jT (swap (eD ids))) (fun j hj=>by
       obtain ⟨nm,hp⟩:=hex j hj
       simp [jT,iU j nm hp,hswap j nm hp]) (fun j hj=>by
       obtain ⟨nm,hp⟩:=hex j hj;simp only [jT,iU j nm hp,Option.getD_some]
       exact List.mem_map.2 ⟨(j,nm),hp,rfl⟩) vj
      unfold gd;simp only [hf,hvs,mD,zq,hm,c6,cond_true,vj,hr,hb,hs.2];have e1:lZ (ids.filter fun _=>false) st=st:=by
       have e0:(ids.filter fun _=>false)=[]:=List.filter_eq_nil_iff.2 (fun _ _=>by decide);rw [e0];rfl
      rw [e1]
      congr 2
      congr 1
      funext i
      cases Lx:find back i with
      |none=>rfl
      |some o=>rw [hg i o Lx];rfl
    ·cases hv
   ·cases hv
  ·cases hargs
 ·cases hv
theorem Ea (hR:Rel N w0 μ0 L μ loc st a w) (e7:ez L.q μ0 P bH) {o:Oper} {c:Call} {f:Operand} {r:AV} (hd:∀i,o.dst=some i→i<N) (ho:o.op= .call c) (hc:c.callee= .value f) (hst:o.dst.any h.stay.contains=true)
  (hv:kQ P h bH st c f=some r) (hK:j4 N w0 μ0 L (st.set o.dst (.pv r)) K):o.wp P a w K Q:=
 rG hR e7 hd ho hc (F7 hst hv) hK
theorem Jv (hR:Rel N w0 μ0 L μ loc st a w) (e7:ez L.q μ0 P bH) {o:Oper} {v:SV} (hd:∀i,o.dst=some i→i<N) (hv:cH P h bH o st=some v) (hK:j4 N w0 μ0 L (st.set o.dst v) K):o.wp P a w K Q:=by
 unfold cH at hv;split at hv
 ·rename_i t len parts ho
  cases hb:o.dst.any h.rows.contains with
  |true=>simp [hb] at hv
  |false=>
   simp only [hb,cond_false] at hv;cases hl:lW P t len parts.toList st with
   |none=>simp [hl] at hv
   |some x=>
    obtain ⟨e,s,xs⟩:=x;simp [hl] at hv;subst hv;exact Jt hR hd ho hl hK
 ·rename_i c ho
  split at hv
  ·rename_i f hc
   cases hro:(o.dst.any h.stay.contains&&wide st c f) with
   |true=>
    rw [hro] at hv;simp only [cond_true,Option.map_eq_some_iff] at hv;obtain ⟨r,hr,rfl⟩:=hv;rw [Bool.and_eq_true] at hro;exact Ea hR e7 hd ho hc hro.1 hr hK
   |false=>
   rw [hro] at hv
   replace hv:=xu hv
   split at hv
   ·rename_i g caps vs hf hvs
    split at hv
    ·rename_i r hr
     cases hp:((!(c.args.toList.any (jU st))||r.plain)&&r.ic) with
     |true=>
      simp only [hp,cond_true,Option.some.injEq] at hv;subst hv;rw [Bool.and_eq_true] at hp;exact Aa hR e7 hd ho hc hf hvs hr (by rw [Bool.or_comm];exact hp.1) hp.2 hK
     |false=>rw [hp] at hv;cases hv
    ·cases hv
   ·cases hv
  ·exact kF hR hd (yH hR ho hv) hK
 ·rename_i t x k ok ho
  exact kF hR hd (nI hR (xu hv)) hK
 ·exact kF hR hd (nI hR (xu hv)) hK
 ·rename_i g first caps ho
  cases Lx:first.isEmpty with
  |false=>simp [Lx] at hv
  |true=>
   simp only [Lx,cond_true] at hv;have hf0:first= #[]:=by simpa using Lx
   have run:(execOp a.eval o).run P w= .ok (.value (.func (.func g) #[] (caps.toList.map a.eval).toArray)) w:=by
    unfold execOp;rw [ho,hf0];have e:caps.map a.eval=(caps.toList.map a.eval).toArray:=by rw [←Array.toList_map]
    simp [Instr.makeFunc,e]
   cases hby:o.dst.any h.aY.contains with
   |true=>
    simp only [hby,cond_true] at hv;cases hcs:oE st caps.toList with
    |none=>simp [hcs] at hv
    |some vs=>
     simp [hcs] at hv;subst hv;exact kF hR hd ⟨_,run,(show cT μ loc (.cl g vs) _ from ⟨_,rfl,Ed hR hcs⟩)⟩ hK
   |false=>
   simp only [hby,cond_false] at hv;cases hcs:mo st caps.toList with
   |none=>simp [hcs] at hv
   |some vs=>
    simp [hcs] at hv;subst hv;have hall:=uY hR hcs;refine kF hR hd ⟨_,run,?_⟩ hK;show rep μ (.fn g vs) _;rw [rep];exact ⟨_,rfl,hall⟩
 ·rename_i x ho
  have key:cM P o st=some v:=by
   split at hv
   ·rename_i hp;exact hp.trans (xu hv)
   ·rename_i hp;exact hp.trans (xu hv)
   ·exact hv
  exact kF hR hd (nI hR key) hK
 ·exact kF hR hd (nI hR hv) hK
theorem M4 (hR:Rel N w0 μ0 L μ loc st a w) (e7:ez L.q μ0 P bH) {o:Oper} (hd:∀i,o.dst=some i→i<N) (hv:mI P h bH o st=some st') (hK:j4 N w0 μ0 L st' K):o.wp P a w K Q:=by
 unfold mI at hv;split at hv
 ·rename_i d cG ho
  split at hv
  ·rename_i e s hs
   split at hv
   ·injection hv with hv;subst hv
    exact Sn hR (hd d cG) cG ho hK
   ·cases hv
  ·cases hv
 ·rename_i d x hnc cG ho
  split at hv
  ·rename_i id hx
   split at hv
   ·rename_i st1 hp
    split at hv
    ·rename_i v WW
     injection hv with hv;subst hv
     obtain ⟨μ1,_,h1⟩:=hR.cL hp;exact kF h1 hd (uh h1 (.inr ho) WW) (by rw [cG];exact hK)
    ·cases hv
   ·cases hv
  ·cases hv
 ·rename_i d t x cG ho
  split at hv
  ·rename_i cs hx hagg
   injection hv with hv;subst hv
   have oV:=aX hR hx;simp only [cT,rep] at oV;obtain ⟨vs,oV,hall,hone⟩:=oV;refine u6 (v:= .agg vs.toArray) hR (hd d cG) cG ?_ (by simpa [Value.cells] using mc hall) (by simpa [Value.cells] using hone) hK;unfold execOp;rw [ho];simp [Instr.box,newVar,newRow,oV,Value.cells]
  ·rename_i cs hx hagg
   cases hm:(SV.ag cs).mentions d with
   |true=>rw [hm] at hv;cases hv
   |false=>
   rw [hm] at hv;simp only [cond_false,Option.some.injEq] at hv;subst hv;have oV:=HO (x:= .pointer (some ⟨w.heap.size,0,none⟩)) hm (aX hR hx);obtain ⟨vs,oV,hall,hone⟩:=oV;refine u6 (v:= .agg vs.toArray) hR (hd d cG) cG ?_ (by simpa [Value.cells] using qk hall) (by simpa [Value.cells] using hone) hK;unfold execOp;rw [ho];simp [Instr.box,newVar,newRow,oV,Value.cells]
  ·rename_i v hnot hx hagg
   split at hv
   ·rename_i hone
    injection hv with hv;subst hv
    have oV:=aX hR hx;obtain ⟨h1,hc1⟩:=KG hR hone oV;refine u6 (v:=a.eval x) hR (hd d cG) cG ?_ (by rw [hc1];exact ⟨_,[],rfl,qK oV,rfl⟩) (by rw [hc1];simpa using h1) hK;unfold execOp;rw [ho];simp [Instr.box,newVar,newRow]
   ·cases hv
  ·cases hv
 ·rename_i d t cG ho
  cases hrw:h.rows.contains d with
  |true=>
   rw [hrw] at hv;simp only [cond_true] at hv;split at hv
   ·rename_i FP l hz
    injection hv with hv;subst hv
    exact B8 hR (hd d cG) cG ho hz hK
   ·cases hv
  |false=>
  rw [hrw] at hv;simp only [cond_false] at hv;split at hv
  ·rename_i z hz
   injection hv with hv;subst hv
   obtain ⟨i,v,hi,YI,hc⟩:=jB (μ:=μ) hz;refine u6 (v:=v) hR (hd d cG) cG ?_ (mc hc.1) hc.2 hK;unfold execOp;rw [ho];simp [Instr.alloc,zeroValue,typeInfo,hi,YI,newVar,newRow]
  ·cases hv
 ·rename_i d t l c cG ho
  split at hv
  ·rename_i e s kl nl kc nc hs hl hc
   split at hv
   ·rename_i z i hz hi
    split at hv
    ·rename_i c6
     injection hv with hv;subst hv
     exact OR hR (hd d cG) cG ho hs hl hc hz hi c6 hK
    ·cases hv
   ·cases hv
  ·cases hv
 ·rename_i d t len parts cG ho
  split at hv
  ·rename_i e s xs hl
   injection hv with hv;subst hv
   exact Eg hR (hd d cG) cG ho hl hK
  ·cases hv
 ·rename_i t x y cG ho
  split at hv
  ·rename_i sa sv hx hy
   exact M5 hR cG ho hx hy hv hK
  ·cases hv
 ·rename_i d t r cG ho
  split at hv
  ·rename_i k e hu
   cases hb:ng P st r with
   |false=>rw [hb] at hv;cases hv
   |true=>
    rw [hb] at hv;simp only [cond_true] at hv;cases hrw:h.rows.contains d with
    |true=>
     rw [hrw] at hv;simp only [cond_true] at hv;split at hv
     ·split at hv
      ·injection hv with hv;subst hv
       exact Jl hR (hd d cG) cG ho hu hb hK
      ·cases hv
     ·cases hv
    |false=>
    rw [hrw] at hv;simp only [cond_false,Option.some.injEq] at hv;subst hv;exact Gh hR (hd d cG) cG ho hu hb hK
  ·cases hv
 ·rename_i t m k x cG ho
  cases hrm:jk h m with
  |true=>rw [hrm] at hv;exact Gi hR cG (.inl ho) hv hK
  |false=>rw [hrm] at hv;exact u7 hR cG (.inl ho) hv hK
 ·rename_i t m k x cG ho
  cases hrm:jk h m with
  |true=>rw [hrm] at hv;exact Gi hR cG (.inr ho) hv hK
  |false=>rw [hrm] at hv;exact u7 hR cG (.inr ho) hv hK
 ·rename_i d t m k cG ho
  cases hrm:jk h m with
  |true=>rw [hrm] at hv;exact MZ hR (hd d cG) cG ho hv hK
  |false=>rw [hrm] at hv;cases hv
 ·rename_i d t x cG ho
  split at hv
  ·rename_i s ht hx
   injection hv with hv;subst hv
   exact M3 hR (hd d cG) cG ho ht hx hK
  ·cases hv
 ·rename_i d x cG ho
  split at hv
  ·rename_i id hx
   split at hv
   ·rename_i s pos cQ
    refine OS hR (hd d cG) cG ho hx cQ ?_;split at hv
    ·rename_i hp
     injection hv with hv;subst hv
     rw [if_pos hp];exact hK
    ·rename_i hp
     injection hv with hv;subst hv
     rw [if_neg hp];exact hK
   ·cases hv
  ·cases hv
 ·rename_i d t parts cG ho
  cases hrw:h.rows.contains d with
  |false=>rw [hrw] at hv;cases hv
  |true=>rw [hrw] at hv;exact B9 hR (hd d cG) cG ho hv hK
 ·rename_i d g first caps cG ho
  cases Lx:first.isEmpty with
  |false=>rw [Lx] at hv;cases hv
  |true=>
   rw [Lx] at hv;simp only [cond_true] at hv;split at hv
   ·rename_i st1 hp
    simp only [Option.map_eq_some_iff] at hv;obtain ⟨vs,hcs,rfl⟩:=hv;exact Eh hR (hd d cG) cG ho Lx hp hcs hK
   ·cases hv
 ·rename_i d c ho
  split at hv
  ·rename_i hc
   split at hv
   ·rename_i d' x y t t' cG hargs vl
    split at hv
    ·rename_i e s id sy hs hx hy
     split at hv
     ·rename_i e' sz xs sz' ys i cQ hel hi
      split at hv
      ·rename_i c6
       obtain ⟨rfl,rfl,rfl,rfl,hpos,hby,hlen,hz,mD⟩:=c6;injection hv with hv;subst hv
       have ho':o.op= .call { callee:= .builtin .append,args:= #[x,y],argTypes:= #[t,t] }:=by
        rw [ho];obtain ⟨cal,⟨as⟩,⟨ts⟩⟩:=c;simp only at hc hargs vl;subst hc;subst hargs;subst vl;rfl
       refine Jj hR (hd d' cG) cG ho' hs hx hy cQ hel hi hpos hby hlen hz ?_ hK;simp only [lF,Bool.or_eq_true] at mD;rcases mD with hm|hm
       ·left;simpa [Nat.blt_eq] using hm
       ·right;exact Nat.le_of_ble_eq_true (Bool.and_eq_true _ _▸hm).1
      ·cases hv
     ·cases hv
    ·cases hv
   ·cases hv
  ·rename_i hc
   split at hv
   ·rename_i m k t ts cG hargs vl
    exact Jk hR cG ho hc hargs vl hv hK
   ·cases hv
  ·rename_i hc
   split at hv
   ·rename_i x t cG hargs vl
    split at hv
    ·rename_i e s id sz lo hi hs hx
     split at hv
     ·rename_i e' sz' xs z cQ hz
      split at hv
      ·rename_i c6
       injection hv with hv;subst hv
       exact MY hR cG ho hc hargs vl hs hx cQ hz c6 hK
      ·cases hv
     ·cases hv
    ·cases hv
   ·cases hv
  ·rename_i f hc
   replace hv:=xu hv
   cases hw:wide st c f with
   |true=>
    simp only [hw,cond_true] at hv;exact rG hR e7 hd ho hc hv hK
   |false=>
   simp only [hw,cond_false] at hv;cases gq:c.args.toList.any (fun x=>(jg h st x).isSome) with
   |true=>
    simp only [gq,cond_true] at hv;exact B7 hR e7 hd ho hc hv hK
   |false=>
   simp only [gq,cond_false] at hv;split at hv
   ·rename_i st1 hp
    split at hv
    ·rename_i g caps vs hf hvs
     split at hv
     ·rename_i r hr
      cases zp:(c.args.toList.any (jU st1)|| !r.ic) with
      |true=>rw [zp] at hv;cases hv
      |false=>
       simp only [zp,cond_false,Option.some.injEq] at hv;subst hv;obtain ⟨μ1,h1⟩:=xF hR hp;rw [Bool.or_eq_false_iff] at zp;exact Aa h1 e7 hd ho hc hf hvs hr (by simp [zp.1]) (by simpa using zp.2) hK
     ·cases hv
    ·cases hv
   ·cases hv
  ·cases hv
 ·cases hv
theorem Bn (hR:Rel N w0 μ0 L μ loc st a w) (e7:ez L.q μ0 P bH) {o:Oper} (hd:∀i,o.dst=some i→i<N) (hv:step P h bH o st=some st') (hK:j4 N w0 μ0 L st' K):o.wp P a w K Q:=by
 unfold step at hv;split at hv
 ·rename_i v hf
  injection hv with hv;subst hv
  exact Jv hR e7 hd hf hK
 ·exact M4 hR e7 hd hv hK
theorem qT (hR:Rel N w0 μ0 L μ loc st a w) {ops:Array Oper} {o:Oper} {b:Bool} (hw:fe ops o st=some b):Region.wanted o (yielded ops a.tmps)=b:=by
 unfold fe at hw;unfold Region.wanted;split at hw
 ·rename_i hg;injection hw with hw;subst hw;rw [hg]
 ·rename_i j want hg
  rw [hg];simp only;split at hw
  ·rename_i d cG
   split at hw
   ·rename_i t ht
    injection hw with hw;subst hw
    obtain ⟨v,hv,hr⟩:=hR.env d _ ht;simp only [cT,rep] at hr;subst hr;simp [yielded,cG,hv]
   ·rename_i ht
    injection hw with hw;subst hw
    obtain ⟨v,hv,hr⟩:=hR.env d _ ht;have hr:v=undef:=hr;subst hr;simp [yielded,cG,hv,undef]
   ·cases hw
  ·cases hw
theorem vU (e7:ez L.q μ0 P bH) {ops:Array Oper}:∀{l:List Oper} {st:St} {μ:Mu} {loc:Nat→Value} {a:Act} {w:World},Rel N w0 μ0 L μ loc st a w→(∀o∈l,∀i,o.dst=some i→i<N)→jl P h bH ops l st=some st'→
  (∀a' w' μ' loc',Rel N w0 μ0 L μ' loc' st' a' w'→Q .normal a' w')→wpList P ops Q l a w:=by
 intro l
 induction l with
 |nil=>
  intro st μ loc a w hR _ hv hQ;simp only [jl,Option.some.injEq] at hv;subst hv;exact hQ _ _ _ _ hR
 |cons o l ih=>
  intro st μ loc a w hR hd hv hQ;simp only [jl] at hv;split at hv
  ·rename_i b hw
   have GV:=qT hR hw;unfold wpList;rw [GV];cases b with
   |true=>
    simp only [cond_true] at hv;simp only [if_true];cases hs:step P h bH o st with
    |none=>simp [hs] at hv
    |some st1=>
     simp [hs] at hv;exact .inl (Bn hR e7 (hd o (by simp)) hs (fun a' w' μ' loc' h1=>ih h1 (fun p hp=>hd p (by simp [hp])) hv hQ))
   |false=>
    simp only [cond_false] at hv;simp only [Bool.false_eq_true,if_false];exact ih (hR.set (hd o (by simp)) (show cT μ loc .undef undef from rfl)) (fun p hp=>hd p (by simp [hp])) hv hQ
  ·cases hv
end
end Go.AM
