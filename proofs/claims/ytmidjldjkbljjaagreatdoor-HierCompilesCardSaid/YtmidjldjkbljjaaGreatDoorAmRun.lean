/- THE ABSTRACT MACHINE. -/
import Derived.Test.YtmidjldjkbljjaaGreatDoorAmEff
set_option linter.unusedVariables false
set_option linter.unusedSimpArgs false
namespace Go.AM
open Go.RowKit
def PS (μ:Mu) (w:World):Prop:=∀b j v,μ b j=some v→Au w b j=some v
def gU (q:Prop) (loc:Nat→Value) (names:List Nat):lp:=⟨fun id=>if id∈names then some (loc id) else none,q⟩
def Mq (loc:Nat→Value) (bU:List (Nat×Ob)):Prop:=∀i j oi oj,find bU i=some oi→find bU j=some oj→i≠j→∀g,gi (loc i) g→¬gi (loc j) g
structure fk (q:Prop) (μ:Mu) (loc:Nat→Value) (names:List Nat) (r:AV) (dP:List (Nat×Ob)) (w:World) (v:Value) (μ':Mu) (loc':Nat→Value) (w':World):Prop where
 ext:μ.ext w.heap.size μ'
 r7:PS μ' w'
 res:rep μ' r v∨∃n A m c,r= .self n∧10000∈names∧loc' 10000= .slice A m c∧n≤m∧v= .slice A n c
 obs:∀id o,find dP id=some o→gV w.heap.size (gU q loc names) μ' loc' w' id o
 apart:Mq loc' dP
 keep:∀b,b<w.heap.size→¬Eh (gU q loc names) b→w'.heap[b]? =w.heap[b]?
 fix:∀id,id∈names→id<20000→loc' id=loc id
 os:w'.os=w.os
 tape:w'.tape=w.tape
 output:w'.output=w.output
 grown:w.heap.size≤w'.heap.size
 drawn:q→w.drawn≤w'.drawn
theorem fk.pure {q:Prop} {μ:Mu} {loc:Nat→Value} {names:List Nat} {r:AV} {dP:List (Nat×Ob)} {w:World} {v:Value} {μ':Mu} {loc':Nat→Value} {w':World} (h:fk q μ loc names r dP w v μ' loc' w') (hn:r.ig=true):rep μ' r v:=by
 rcases h.res with h|⟨n,A,m,c,rfl,_⟩
 ·exact h
 ·cases hn
def eF (q:Prop) (B:Mu) (P:Program) (bN:dm):Prop:=∀g args bU r dP,bN g args bU=some (r,dP)→∀(w:World) (μ:Mu) (loc:Nat→Value) (us:List Value),B.le μ→PS μ w→
 (∀id o,find bU id=some o→gV w.heap.size (gU q loc (bU.map (·.1))) μ loc w id o)→Mq loc bU→eD μ loc args us→
 (∀w2,(callFunc g us.toArray).run P w2= .ok (.enter g us.toArray) w2)∧
 Calls P g us.toArray w fun e w'=>∃v μ' loc',e= .returned v∧fk q μ loc (bU.map (·.1)) r dP w v μ' loc' w'
theorem eF.mono {q:Prop} {B B':Mu} {P:Program} {bN:dm} (h:eF q B P bN) (hB:B.le B'):eF q B' P bN:=
 fun g args bU r dP hv w μ loc us hle=>h g args bU r dP hv w μ loc us (hB.trans hle)
section
variable {P:Program} {N:Nat} {w0:World} {μ0:Mu} {L:lp} {μ:Mu} {loc:Nat→Value} {st st':St} {a:Act} {w:World} {Q:Exit→Act→World→Prop} {K:Act→World→Prop} {h:Hint} {bN:dm}
theorem yw {α:Type} {c:Bool} {x:Option α} {v:α} (h:(bif c then none else x)=some v):x=some v:=by
 cases c<;>simp_all
theorem mg {α:Type} {j i:Nat} {x v:α} (hf:find [(j,x)] i=some v):i=j:=by
 simp only [find] at hf;cases hb:Nat.beq j i with
 |true=>exact (beq_iff.1 hb).symm
 |false=>simp [hb] at hf
theorem Lu (hR:Rel N w0 μ0 L μ loc st a w) {s:SV} {v:AV} {u:Value} (hl:nS st s=some v) (hs:cW μ loc s u) {μ':Mu} (hle:μ.le μ')
  (hrow:∀id,s= .row id→∀b j x,gi (loc id) b→Au w b j=some x→μ' b j=some x):rep μ' v u:=by
 cases s with
 |pv x=>simp only [nS,Option.some.injEq] at hl;subst hl;exact tf hle _ _ hs
 |row id=>
  simp only [nS] at hl;obtain ⟨ob,cU,hval⟩:=Option.bind_eq_some_iff.1 hl;have e:u=dR (loc id):=hs;rw [e];exact NZ (hR.obs id _ cU) hval hle (fun b j x hb hc=>hrow id rfl b j x hb hc)
 |_=>simp [nS] at hl
theorem uD (hR:Rel N w0 μ0 L μ loc st a w) {μ':Mu} (hle:μ.le μ') {xs:List Operand} {ts:List TypeId} {vs:List AV} (h:ff P st xs ts=some vs)
  (hrow:∀x∈xs,∀t id,bw P t st x=some (.row id)→∀b j x,gi (loc id) b→Au w b j=some x→μ' b j=some x):bF μ' vs (xs.map a.eval):=by
 induction xs generalizing ts vs with
 |nil=>simp [ff] at h;subst h;exact bZ
 |cons x xs ih=>
  simp only [ff] at h;split at h
  ·rename_i v vs' hv hvs
   injection h with h;subst h
   cases ho:bw P (ts.headD 0) st x with
   |none=>rw [ho] at hv;cases hv
   |some sv=>
    rw [ho] at hv;simp only [Option.bind_some] at hv;exact bq (Lu hR hv (bf hR ho) hle (fun id e=>by subst e;exact hrow x (by simp) _ id ho)) (ih hvs (fun y hy=>hrow y (by simp [hy])))
  ·cases h
theorem Pc {μ μ':Mu} {r:AV} {v:Value} (h:r.plain=true) (k:rep μ r v):rep μ' r v:=by
 have sc:∀(r:AV) (v:Value),r.scalar=true→rep μ r v→rep μ' r v:=fun r v h k=>by
  cases r<;>simp [AV.scalar] at h<;>simpa [rep] using k
 cases r with
 |fG vs=>
  rw [rep] at k⊢;obtain ⟨us,e,hall⟩:=k;refine ⟨us,e,?_⟩;simp only [AV.plain] at h;clear e
  induction vs generalizing us with
  |nil=>simpa [bF] using hall
  |cons x xs ih=>
   rw [bF] at hall;obtain ⟨u,us',rfl,h1,h2⟩:=hall;simp only [List.all_cons,Bool.and_eq_true] at h;exact bq (sc _ _ h.1 h1) (ih h.2 us' h2)
 |bool b=>exact sc _ _ rfl k
 |int b n=>exact sc _ _ rfl k
 |str s=>exact sc _ _ rfl k
 |cm sz xs=>simp [AV.plain,AV.scalar] at h
 |agg cs=>simp [AV.plain,AV.scalar] at h
 |fn f caps=>simp [AV.plain,AV.scalar] at h
 |ref cs=>simp [AV.plain,AV.scalar] at h
 |mp ks es=>simp [AV.plain,AV.scalar] at h
 |self n=>simp [AV.plain,AV.scalar] at h
 |ri=>simp [AV.plain,AV.scalar] at h
theorem AX {μ':Mu} {loc':Nat→Value} {r:AV} {dP:List (Nat×Ob)} {u:Value} {w':World} {q:Prop} (hP:fk q μ loc [] r dP w u μ' loc' w'):Below w.heap.size w w':=
 ⟨hP.os,hP.tape,hP.output,hP.grown,fun b hb=>hP.keep b hb (by rintro ⟨id,v,h,_⟩;simp [gU] at h)⟩
theorem AL {o:Oper} {c:Call} {f:Operand} {g:Nat} {us caps:List Value} {r:AV} {dP:List (Nat×Ob)} (ho:o.op= .call c) (hc:c.callee= .value f) (hf:a.eval f= .func (.func g) #[] caps.toArray)
  (yc:c.args.toList.map a.eval=us) (he:∀w2,(callFunc g (us++caps).toArray).run P w2= .ok (.enter g (us++caps).toArray) w2)
  {R:Value→World→Prop} (fm:Calls P g (us++caps).toArray w fun e w'=>∃v,e= .returned v∧R v w') (hK:∀v w',R v w'→K (a.put o.dst v) w'):o.wp P a w K Q:=by
 have hargs:c.args.map a.eval=us.toArray:=by rw [←yc,←Array.toList_map]
 unfold Oper.wp execOp;rw [ho];simp only [resolve,hc,hf,Deferred.ofValue,invoke,Sem.run_bind,Sem.run_pure,Result.andThen_ok,hargs];have e:(#[]++us.toArray)++caps.toArray=(us++caps).toArray:=by simp
 rw [e,he w];simp only [Oper.upon];refine fm.mono ?_
 rintro e w' ⟨v,rfl,hr⟩
 exact hK v w' hr
theorem HW (hR:Rel N w0 μ0 L μ loc st a w) {f:Operand} {g:Nat} {caps:List AV} (h:bw P 0 st f=some (.pv (.fn g caps))):∃cs:List Value,a.eval f= .func (.func g) #[] cs.toArray∧bF μ caps cs:=by
 have:=bf hR h;simp only [cW,rep] at this;exact this
theorem Jg {x:Operand} (h:j7 st x=false):∀t id,bw P t st x≠some (.row id):=by
 intro t id e;cases x with
 |tmp i=>simp only [bw] at e;simp [j7,e] at h
 |const v=>
  simp only [bw] at e;cases hc:ofConst P t v<;>simp [hc] at e
 |func f=>simp [bw] at e
 |global g=>simp [bw] at e
theorem A7 (hR:Rel N w0 μ0 L μ loc st a w) (fm:eF L.q μ0 P bN) {o:Oper} {c:Call} {f:Operand} {g:Nat} {caps vs:List AV} {r:AV} (hd:∀i,o.dst=some i→i<N) (ho:o.op= .call c) (hc:c.callee= .value f)
  (hf:bw P 0 st f=some (.pv (.fn g caps))) (hvs:ff P st c.args.toList c.argTypes.toList=some vs) (hr:bN g ((vs++caps).map .pv) []=some (r,[]))
  (hp:(r.plain|| !(c.args.toList.any (j7 st)))=true) (Eb:r.ig=true) (hK:ku N w0 μ0 L (st.set o.dst (.pv r)) K):o.wp P a w K Q:=by
 obtain ⟨cs,Vs,hcs⟩:=HW hR hf;cases Am:c.args.toList.any (j7 st) with
 |false=>
  have hall:=uD hR (Mu.le.refl μ) hvs (fun x hx t id e=>absurd e (Jg (by
   have:=List.any_eq_false.1 Am x hx
   simpa using this) t id))
  obtain ⟨he,hC⟩:=fm g _ [] r [] hr w μ loc (c.args.toList.map a.eval++cs) hR.base.1 hR.r7 (by simp [find]) (by intro i j oi oj hi;simp [find] at hi) (mA (jC hall hcs));refine AL (R:=fun v w'=>∃μ' loc',fk L.q μ loc [] r [] w v μ' loc' w') (r:=r) (dP:=[]) ho hc Vs rfl he (hC.mono ?_) ?_
  ·rintro e w' ⟨v,μ',loc',rfl,hP⟩
   exact ⟨v,rfl,μ',loc',hP⟩
  ·rintro v w' ⟨μ',loc',hP⟩
   exact hK _ _ _ _ ((hR.grow hP.ext hP.r7 (AX hP) hP.drawn).set hd (hP.pure Eb))
 |true=>
  have Xv:r.plain=true:=by simpa [Am] using hp
  let zG:Nat→Prop:=fun b=>∃id ob,st.ob id=some ob∧ob.val.isSome=true∧gi (loc id) b
  have:∀b,Decidable (zG b):=fun b=>Classical.propDecidable _
  let μ1:Mu:=fun b j=>if zG b then Au w b j else μ b j
  have hle:μ.le μ1:=fun b j v hv=>by
   by_cases hb:zG b
   ·obtain ⟨id,ob,cU,_,tV⟩:=hb
    have:=((hR.obs id _ cU).block b tV).2.2 j;rw [this] at hv;cases hv
   ·simpa [μ1,hb] using hv
  have VB:PS μ1 w:=fun b j v hv=>by
   by_cases hb:zG b
   ·simpa [μ1,hb] using hv
   ·exact hR.r7 b j v (by simpa [μ1,hb] using hv)
  have hall:=uD hR hle hvs (fun x hx t id e b j u hb hcell=>by
   have hmem:∃ob,st.ob id=some ob∧ob.val.isSome=true:=by
    clear hcell hb VB;have key:∀(xs:List Operand) (ts:List TypeId) (vs:List AV),ff P st xs ts=some vs→x∈xs→∃ob,st.ob id=some ob∧ob.val.isSome=true:=by
     intro xs
     induction xs with
     |nil=>intro ts vs _ hm;simp at hm
     |cons y ys ih=>
      intro ts vs hv hm;simp only [ff] at hv;split at hv
      ·rename_i v vs' YR XE
       rcases List.mem_cons.1 hm with rfl|hm
       ·have hty:∀t',bw P t' st x=some (.row id):=by
         intro t';cases x with
         |tmp i=>exact e
         |const q=>simp only [bw] at e;cases hq:ofConst P t q<;>simp [hq] at e
         |func q=>simp [bw] at e
         |global q=>simp [bw] at e
        simp only [hty,Option.bind_some,nS] at YR;obtain ⟨ob,cU,hval⟩:=Option.bind_eq_some_iff.1 YR;exact ⟨ob,cU,by rw [hval];rfl⟩
       ·exact ih _ _ XE hm
      ·cases hv
    exact key _ _ _ hvs hx
   obtain ⟨ob,cU,hval⟩:=hmem;have hrow:zG b:=⟨id,ob,cU,hval,hb⟩
   simpa [μ1,hrow] using hcell)
  obtain ⟨he,hC⟩:=fm g _ [] r [] hr w μ1 loc (c.args.toList.map a.eval++cs) (hR.base.1.trans hle) VB (by simp [find]) (by intro i j oi oj hi;simp [find] at hi) (mA (jC hall (dr hle _ _ hcs)));refine AL (R:=fun v w'=>∃μ' loc',fk L.q μ1 loc [] r [] w v μ' loc' w') (r:=r) (dP:=[]) ho hc Vs rfl he (hC.mono ?_) ?_
  ·rintro e w' ⟨v,μ',loc',rfl,hP⟩
   exact ⟨v,rfl,μ',loc',hP⟩
  ·rintro v w' ⟨μ',loc',hP⟩
   exact hK _ _ _ _ ((hR.MJ (AX hP) hP.drawn).set (sv:= .pv r) hd (show rep μ r v from Pc Xv (hP.pure Eb)))
theorem vQ (hR:Rel N w0 μ0 L μ loc st a w) {xs:List Operand} {vs:List AV} (h:mE st xs=some vs):bF μ vs (xs.map a.eval):=by
 induction xs generalizing vs with
 |nil=>simp [mE] at h;subst h;exact bZ
 |cons x xs ih=>
  cases x with
  |tmp i=>
   simp only [mE] at h;split at h
   ·rename_i v vs' hv hvs
    injection h with h;subst h
    obtain ⟨u,hu,hr⟩:=hR.env i _ hv;have:a.eval (.tmp i)=u:=by simp [Act.eval,hu]
    exact bq (by rw [this];exact hr) (ih hvs)
   ·rename_i cs vs' hv hvs
    injection h with h;subst h
    obtain ⟨u,hu,hr⟩:=hR.env i _ hv;have:a.eval (.tmp i)=u:=by simp [Act.eval,hu]
    obtain ⟨b,off,us,e,hc,hm⟩:=hr;exact bq (by rw [this,rep];exact ⟨b,off,us,e,hc.1,hc.2,hm⟩) (ih hvs)
   ·cases h
  |_=>simp [mE] at h
theorem Fk (hR:Rel N w0 μ0 L μ loc st a w) {xs:List Operand} {cs:List ko} (h:pK st xs=some cs):iB μ loc cs (xs.map a.eval):=by
 induction xs generalizing cs with
 |nil=>simp [pK] at h;subst h;rfl
 |cons x xs ih=>
  cases x with
  |tmp i=>
   simp only [pK] at h;split at h
   ·rename_i v vs' hv hvs
    injection h with h;subst h
    obtain ⟨u,hu,hr⟩:=hR.env i _ hv;have:a.eval (.tmp i)=u:=by simp [Act.eval,hu]
    exact ⟨_,_,rfl,by rw [this];exact hr,ih hvs⟩
   ·rename_i cs' vs' hv hvs
    injection h with h;subst h
    obtain ⟨u,hu,hr⟩:=hR.env i _ hv;have:a.eval (.tmp i)=u:=by simp [Act.eval,hu]
    obtain ⟨b,off,us,e,hc,hm⟩:=hr;refine ⟨_,_,rfl,?_,ih hvs⟩;show rep μ (.ref cs') _;rw [this,rep];exact ⟨b,off,us,e,hc.1,hc.2,hm⟩
   ·rename_i id vs' hv hvs
    injection h with h;subst h
    obtain ⟨u,hu,hr⟩:=hR.env i _ hv;have:a.eval (.tmp i)=u:=by simp [Act.eval,hu]
    obtain ⟨b,h1,h2⟩:=hr;exact ⟨_,_,rfl,⟨b,h1,by rw [this,h2]⟩,ih hvs⟩
   ·cases h
  |_=>simp [pK] at h
theorem Fq (hR:Rel N w0 μ0 L μ loc st a w) {o:Oper} {g:Nat} {first caps:Array Operand} {d:Nat} {vs:List AV} (hd:d<N) (cK:o.dst=some d) (ho:o.op= .makeFunc (.func g) first caps) (MP:first.isEmpty=true)
  (hp:oW st caps.toList=some st') (hcs:mE st' caps.toList=some vs) (hK:ku N w0 μ0 L (st'.set (some d) (.pv (.fn g vs))) K):o.wp P a w K Q:=by
 obtain ⟨μ',hle,sL⟩:=Dr hR hR hp;have hall:=vQ sL hcs;have hf0:first= #[]:=by simpa using MP
 refine kM sL (fun i hi=>by rw [cK] at hi;injection hi with hi;subst hi;exact hd) ⟨.func (.func g) #[] (caps.toList.map a.eval).toArray,?_,?_⟩ (by rw [cK];exact hK)
 ·unfold execOp;rw [ho,hf0]
  have e:caps.map a.eval=(caps.toList.map a.eval).toArray:=by rw [←Array.toList_map]
  simp [Instr.makeFunc,e]
 ·show rep μ' (.fn g vs) _
  rw [rep];exact ⟨_,rfl,hall⟩
theorem yG (hR:Rel N w0 μ0 L μ loc st a w) {xs:List Operand} (h:mS.dV st xs=some st'):∃μ',Rel N w0 μ0 L μ' loc st' a w:=by
 induction xs generalizing st μ with
 |nil=>simp [mS.dV] at h;subst h;exact ⟨μ,hR⟩
 |cons x xs ih=>
  cases x with
  |tmp i=>
   simp only [mS.dV] at h;split at h
   ·rename_i id hi
    cases hp:st.cQ id with
    |none=>simp [hp] at h
    |some st1=>
     simp [hp] at h;obtain ⟨μ1,_,h1⟩:=hR.cQ hp;exact ih h1 h
   ·exact ih hR h
  |_=>simp only [mS.dV] at h;exact ih hR h
theorem Rel.Y1 (hR:Rel N w0 μ0 L μ loc st a w) {id:Nat} {o:Ob} (hnone:st.ob id=none) (cU:gV w0.heap.size L μ loc w id o)
  (hap:∀j oj,st.ob j=some oj→∀g,gi (loc id) g→¬gi (loc j) g):Rel N w0 μ0 L μ loc { st with ob:=put st.ob id (some o) } a w:=by
 refine ⟨hR.small,hR.names,hR.fix,hR.size,hR.defers,hR.env,hR.r7,hR.base,?_,?_,hR.keep,hR.os,hR.tape,hR.output,hR.grown,hR.drawn⟩
 ·intro i oi hi
  by_cases e:id=i
  ·subst e;simp only [bT,Option.some.injEq] at hi;subst hi;exact cU
  ·exact hR.obs i oi (by simpa only [aX _ _ e] using hi)
 ·intro i j oi oj hi hj hij g hg
  by_cases ei:id=i
  ·subst ei
   simp only [aX _ _ hij] at hj;exact hap j oj hj g hg
  ·simp only [aX _ _ ei] at hi
   by_cases ej:id=j
   ·subst ej;intro hg';exact hap i oi hi g hg' hg
   ·simp only [aX _ _ ej] at hj
    exact hR.apart i j oi oj hi hj hij g hg
theorem Dl (hR:Rel N w0 μ0 L μ loc st a w) {oz:Nat→Value}:∀{xs:List Operand} {ts:List TypeId} {vs:List SV} {ids:List Nat},tW P h st xs ts=some (vs,ids)→(∀id∈ids,oz 10000=loc id)→eD μ oz vs (xs.map a.eval):=by
 intro xs
 induction xs with
 |nil=>intro ts vs ids hv _;simp only [tW,Option.some.injEq,Prod.mk.injEq] at hv;obtain ⟨rfl,rfl⟩:=hv;rfl
 |cons x xs ih=>
  intro ts vs ids hv mG;simp only [tW] at hv;split at hv
  ·rename_i id vs' ids' gw qm
   simp only [Option.some.injEq,Prod.mk.injEq] at hv;obtain ⟨rfl,rfl⟩:=hv;refine ⟨_,_,rfl,?_,ih qm (fun i hi=>mG i (by simp [hi]))⟩;show a.eval x=dR (oz 10000);rw [mG id (by simp)];cases x with
   |tmp t=>
    simp only [ji] at gw;cases hb:h.bg.contains t with
    |false=>rw [hb] at gw;cases gw
    |true=>
     simp only [hb,cond_true] at gw;split at gw
     ·rename_i id' he
      injection gw with gw;subst gw
      obtain ⟨v,hv,hr⟩:=hR.env t _ he;have:a.eval (.tmp t)=v:=by simp [Act.eval,hv]
      rw [this];exact hr
     ·cases gw
   |_=>simp [ji] at gw
  ·rename_i vs' ids' gw qm
   split at hv
   ·rename_i v YR
    simp only [Option.some.injEq,Prod.mk.injEq] at hv;obtain ⟨rfl,rfl⟩:=hv;exact ⟨_,_,rfl,cV hR YR,ih qm mG⟩
   ·cases hv
  ·cases hv
theorem C6 (hR:Rel N w0 μ0 L μ loc st a w) (fm:eF L.q μ0 P bN) {o:Oper} {c:Call} {f:Operand} {st1:St} (hd:∀i,o.dst=some i→i<N) (ho:o.op= .call c) (hc:c.callee= .value f)
  (hv:jG P h bN st c f o.dst=some st1) (hK:ku N w0 μ0 L st1 K):o.wp P a w K Q:=by
 unfold jG at hv;split at hv
 ·rename_i g caps vs id hf hvs
  split at hv
  ·rename_i e sz xs cU
   split at hv
   ·rename_i r' nm e' sz' xs' hr
    cases hb:(Nat.beq e e'&&Nat.beq sz sz'&&Nat.beq nm 10000) with
    |false=>simp [hb] at hv
    |true=>
     simp only [hb,cond_true] at hv;simp only [Bool.and_eq_true] at hb;obtain ⟨cs,Vs,hcs⟩:=HW hR hf
     let oz:Nat→Value:=fun _=>loc id
     have hok:=hR.obs id _ cU;have hargs:=Dl hR (oz:=oz) hvs (fun i hi=>by simp at hi;subst hi;rfl);have wj:∀i oi,find [(10000,Ob.row e sz xs)] i=some oi→gV w.heap.size (gU L.q oz ([(10000,Ob.row e sz xs)].map (·.1))) μ oz w i oi:=by
      intro i oi hi;simp only [find] at hi;cases hb':Nat.beq 10000 i with
      |false=>simp [hb'] at hi
      |true=>
       simp only [hb',cond_true,Option.some.injEq] at hi;subst hi;have:=beq_iff.1 hb';subst this;obtain ⟨us,hown,hrc,hm⟩:=hok;refine ⟨us,hown,hrc,fun q hq=>⟨.inr ⟨loc id,by simp [gU,oz],hq⟩,(hm q hq).2⟩⟩
     obtain ⟨he,hC⟩:=fm g _ _ r' _ hr w μ oz (c.args.toList.map a.eval++cs) hR.base.1 hR.r7 wj (by
      intro i j oi oj hi hj hij;have h1:=mg hi;have h2:=mg hj
      omega) (iZ hargs (mA hcs))
     refine AL (R:=fun v w'=>∃μ' loc',fk L.q μ oz ([(10000,Ob.row e sz xs)].map (·.1)) r' [(nm,Ob.row e' sz' xs')] w v μ' loc' w') (r:=r') (dP:=[]) ho hc Vs rfl he (hC.mono ?_) ?_
     ·rintro e w' ⟨v,μ',loc',rfl,hP⟩
      exact ⟨v,rfl,μ',loc',hP⟩
     ·rintro v w' ⟨μ',loc',hP⟩
      have hlb:∀b,Eh (gU L.q oz ([(10000,Ob.row e sz xs)].map (·.1))) b→gi (loc id) b:=by
       rintro b ⟨i,x,hx,MO⟩
       simp only [gU] at hx;split at hx
       ·injection hx with hx;subst hx;exact MO
       ·cases hx
      have h1:=(hR.drop id).world (w':=w') (μ':=μ') hP.ext.1 (fun b j x hx=>by
        rcases hP.ext.2 b j x hx with hx|hx
        ·exact .inl hx
        ·exact .inr (Nat.le_trans hR.grown hx)) hP.r7 (fun k ok hk b hbk=>by
        by_cases e':id=k
        ·subst e';simp [bT] at hk
        ·simp only [aX _ _ e'] at hk
         obtain ⟨_,hlt,qk⟩:=(hR.obs k ok hk).block b hbk;refine ⟨hP.keep b hlt (fun hl=>hR.apart id k _ ok cU hk e' b (hlb b hl) hbk),fun j=> ?_⟩;cases hj:μ' b j with
         |none=>rfl
         |some x=>
          rcases hP.ext.2 b j x hj with hx|hx
          ·rw [qk j] at hx;cases hx
          ·omega) (fun b hb' hl=>hP.keep b (Nat.lt_of_lt_of_le hb' hR.grown) (fun hl'=>by
        have hbb:=hlb b hl';rcases (hok.block b hbb).1 with hx|⟨x,hx,MO⟩
        ·omega
        ·exact hl ⟨id,x,hx,MO⟩)) hP.os hP.tape hP.output hP.grown hP.drawn
      have hnm:loc' nm=loc id:=by
       have:=beq_iff.1 hb.2;exact hP.fix nm (by simp [this]) (by omega)
      obtain ⟨us,hown,hrc,hm⟩:=hP.obs nm (.row e' sz' xs') (by simp [find,Nat.beq_refl]);rw [hnm] at hown hm;split at hv
      ·rename_i n
       cases Dh:(Nat.ble n xs'.length&&lQ id) with
       |false=>rw [Dh] at hv;cases hv
       |true=>
       simp only [Dh,cond_true,Option.some.injEq] at hv;subst hv;simp only [Bool.and_eq_true] at Dh;have hnl:n≤xs'.length:=Nat.le_of_ble_eq_true Dh.1;obtain ⟨A,m,cp,Uv,hnm',hvv⟩:∃A m cp,loc' 10000= .slice A m cp∧n≤m∧v= .slice A n cp:=by
        rcases hP.res with hx|⟨n',A,m,cp,e1,_,h1,h2,h3⟩
        ·rw [rep] at hx;exact hx.elim
        ·injection e1 with e1;subst e1;exact ⟨A,m,cp,h1,h2,h3⟩
       have e10:=beq_iff.1 hb.2;rw [e10] at hnm;rw [hnm] at Uv;have hid:id<10000∨20000≤id:=by
        have mK:=Dh.2;simp only [lQ,Bool.or_eq_true] at mK;rcases mK with hm|hm
        ·left;simpa [Nat.blt_eq] using hm
        ·right;exact Nat.le_of_ble_eq_true (Bool.and_eq_true _ _▸hm).1
       have hblk:∀q,gi v q↔gi (loc id) q:=fun q=>by rw [hvv,Uv,fM,fM];cases A<;>rfl
       have h2:=h1.new (id:=id) (val:=v) (o:= .row e' sz' (xs'.take n)) hid ?_ (fun j oj hj hne q hq=>by
        simp only [aX _ _ (Ne.symm hne)] at hj
        exact hR.apart id j _ oj cU hj (Ne.symm hne) q ((hblk q).1 hq))
       ·have heq:(St.new { env:=st.env,ob:=put st.ob id none } id (.row e' sz' (xs'.take n)))=st.new id (.row e' sz' (xs'.take n)):=by
         simp only [St.new,St.bV]
         congr 1
         funext k
         by_cases e':id=k
         ·subst e';simp [bT]
         ·simp only [aX _ _ e']
        rw [heq] at h2;exact hK _ _ _ _ (h2.set hd (sv:= .row id) (Jh (by rw [hvv];rfl)))
       ·have hlen:(xs'.take n).length=n:=by simp;omega
        have hrc2:=uN hrc n;refine ⟨us.take (n *sz'),⟨by rw [dh hrc2],?_⟩,hrc2,fun q hq=> ?_⟩
        ·rw [cC,hlen,hvv]
         rcases hown.2 with ⟨e1,e2⟩|⟨q,cap,cur,e1,k1,k2,k3,k4,k5,k6⟩
         ·rw [Uv] at e1
          simp only [Value.slice.injEq] at e1;obtain ⟨rfl,rfl,rfl⟩:=e1;have:n=0:=by omega
          subst this;exact .inl ⟨rfl,rfl⟩
         ·rw [Uv] at e1
          simp only [Value.slice.injEq] at e1;obtain ⟨rfl,rfl,rfl⟩:=e1;refine .inr ⟨q,cp,cur,rfl,k1,k2,by omega,k4,k5,?_⟩;rw [←k6,List.take_take,Nat.min_eq_left (Nat.mul_le_mul_right _ hnl)]
        ·rw [cC,hblk q] at hq
         exact ⟨(hok.block q hq).1,(hm q hq).2⟩
      ·rename_i Eb
       cases Dh:r'.plain with
       |false=>rw [Dh] at hv;cases hv
       |true=>
       simp only [Dh,cond_true,Option.some.injEq] at hv;subst hv;have ql:gV w0.heap.size L μ' loc w' id (.row e' sz' xs'):=⟨us,hown,hrc,fun q hq=>⟨(hok.block q hq).1,(hm q hq).2⟩⟩
       have h2:=h1.Y1 (id:=id) (o:= .row e' sz' xs') (by simp [bT]) ql (fun j oj hj q hq=>by
        by_cases e':id=j
        ·subst e';simp [bT] at hj
        ·simp only [aX _ _ e'] at hj
         exact hR.apart id j _ oj cU hj e' q hq)
       have heq:({ env:=st.env,ob:=put (put st.ob id none) id (some (.row e' sz' xs')) }:St)={ env:=st.env,ob:=put st.ob id (some (.row e' sz' xs')) }:=by
        congr 1
        funext k
        by_cases e':id=k
        ·subst e';simp [bT]
        ·simp only [aX _ _ e']
       rw [heq] at h2;exact hK _ _ _ _ (h2.set hd (hP.pure (by cases r'<;>first|rfl|exact absurd rfl (Eb _))))
   ·cases hv
  ·cases hv
 ·cases hv
theorem p8 (hR:Rel N w0 μ0 L μ loc st a w):∀(l:List (Nat×TypeId×Nat)) (st:St) (loc:Nat→Value),Rel N w0 μ0 L μ loc st a w→(∀x∈l,x.1<10000)→
  ∃loc',Rel N w0 μ0 L μ loc' (rf l st) a w∧(∀x∈l,loc' x.1= .slice none 0 0)∧∀i,loc i= .slice none 0 0→loc' i= .slice none 0 0
 |[],st,loc,h,_=>⟨loc,h,by simp,fun _ h=>h⟩
 |(id,e,s)::l,st,loc,h,hl=>by
  have h1:=h.new (id:=id) (val:= .slice none 0 0) (o:= .row e s []) (.inl (hl (id,e,s) (by simp))) ⟨[],⟨by simp, .inl ⟨cC _ _ _,rfl⟩⟩,rfl,fun g hg=>by rw [cC] at hg;simp [gi,bX] at hg⟩ (fun j oj hj hne g hg=>by simp [gi,bX] at hg);obtain ⟨loc',h2,h3,h4⟩:=p8 hR l _ _ h1 (fun x hx=>hl x (by simp [hx]));refine ⟨loc',h2,fun x hx=> ?_,fun i hi=>h4 i ?_⟩
  ·rcases List.mem_cons.1 hx with rfl|hx
   ·exact h4 _ (cC _ _ _)
   ·exact h3 x hx
  ·by_cases e:i=id
   ·subst e;exact cC _ _ _
   ·rw [cr _ _ e];exact hi
theorem pL {d:Nat}:∀(j:Nat) (ts:List TypeId) (vs:List Value) (G5:List SV) (l:List (Nat×TypeId×Nat)),mQ P d j ts vs=some (G5,l)→
  (∀x∈l,x.1<10000)∧(∀u∈vs,u.oneCell'=true)∧∀(loc:Nat→Value),(∀x∈l,loc x.1= .slice none 0 0)→eD μ loc G5 vs
 |j,[],[],G5,l,hv=>by
  simp only [mQ,Option.some.injEq,Prod.mk.injEq] at hv;obtain ⟨rfl,rfl⟩:=hv;exact ⟨by simp,by simp,fun _ _=>rfl⟩
 |j,[],_::_,G5,l,hv=>by simp [mQ] at hv
 |j,_::_,[],G5,l,hv=>by simp [mQ] at hv
 |j,t::ts,v::vs,G5,l,hv=>by
  simp only [mQ] at hv;split at hv
  ·rename_i svs' l' qm
   obtain ⟨i1,i2,i3⟩:=pL (j+1) ts vs svs' l' qm;split at hv
   ·rename_i e s hs
    cases hb:(Nat.blt 0 s&&Nat.blt (5000+16 *d+j) 10000) with
    |false=>rw [hb] at hv;cases hv
    |true=>
     simp only [hb,cond_true,Option.some.injEq,Prod.mk.injEq] at hv;obtain ⟨rfl,rfl⟩:=hv;simp only [Bool.and_eq_true] at hb;have hlt:5000+16 *d+j<10000:=by have:=hb.2;simpa [Nat.blt_eq] using this
     refine ⟨fun x hx=> ?_,fun u hu=> ?_,fun loc hl=> ?_⟩
     ·rcases List.mem_cons.1 hx with rfl|hx
      ·exact hlt
      ·exact i1 x hx
     ·rcases List.mem_cons.1 hu with rfl|hu
      ·rfl
      ·exact i2 u hu
     ·exact ⟨_,_,rfl,(by show _=dR (loc _);rw [hl (5000+16 *d+j,e,s) (by simp)];rfl),i3 loc (fun x hx=>hl x (by simp [hx]))⟩
   ·simp only [Option.map_eq_some_iff,Prod.mk.injEq] at hv
    obtain ⟨av,hc,rfl,rfl⟩:=hv;have hr:=oU (μ:=μ) hc;refine ⟨i1,fun u hu=> ?_,fun loc hl=>⟨_,_,rfl,hr,i3 loc hl⟩⟩;rcases List.mem_cons.1 hu with rfl|hu
    ·unfold ofConst at hc
     split at hc<;>first|rfl|cases hc
    ·exact i2 u hu
  ·cases hv
theorem C8 (hR:Rel N w0 μ0 L μ loc st a w) {o:Oper} {d:Nat} {t:TypeId} {G5:List SV} {l:List (Nat×TypeId×Nat)} (hd:d<N) (cK:o.dst=some d) (ho:o.op= .alloc t)
  (hz:((tL P t).bind fun vs=>mQ P d 0 (mR P 8 t) vs)=some (G5,l)) (hK:ku N w0 μ0 L (((rf l st).new d (.box t (G5.map (SV.bV d)))).set (some d) (.ptr d 0)) K):o.wp P a w K Q:=by
 obtain ⟨vs,hvs,hcs⟩:=Option.bind_eq_some_iff.1 hz;unfold tL at hvs;split at hvs
 ·rename_i i hi
  simp only [Option.map_eq_some_iff] at hvs;obtain ⟨v,hzv,rfl⟩:=hvs;obtain ⟨h1,h2,h3⟩:=pL (μ:=μ) 0 _ _ _ _ hcs;obtain ⟨loc',sL,h4,_⟩:=p8 hR l st loc hR h1;refine vS (v:=v) sL hd cK ?_ (td _ _ (h3 loc' h4)) h2 hK;unfold execOp;rw [ho];simp [Instr.alloc,zeroValue,typeInfo,hi,hzv,newVar,newRow]
 ·cases hvs
theorem Gj (hR:Rel N w0 μ0 L μ loc st a w) {s:SV} {l:List SV} {u:Value} (h:LV st s=some l) (k:cW μ loc s u):eD μ loc l u.cells.toList∧∀x∈u.cells.toList,x.oneCell'=true:=by
 unfold LV at h;split at h
 ·rename_i cs
  injection h with h;subst h
  simp only [cW,rep] at k;obtain ⟨vs,rfl,h1,h2⟩:=k;exact ⟨by simpa [Value.cells] using mA h1,by simpa [Value.cells] using h2⟩
 ·cases ho:kX st s with
  |false=>rw [ho] at h;cases h
  |true=>
   rw [ho] at h;simp only [cond_true,Option.some.injEq] at h;subst h;obtain ⟨h1,h2⟩:=LS hR ho k;rw [h2];exact ⟨⟨_,[],rfl,k,rfl⟩,by simpa using h1⟩
theorem zz (hR:Rel N w0 μ0 L μ loc st a w) {place:Nat→Option (Nat×Nat)} {ty:Nat→TypeId}:∀{parts:List (Nat×Operand)} {ps:List (Nat×List SV)} {cells cs:List SV} {vs:List Value},wT P ty st parts=some ps→HQ place cells ps=some cs→eD μ loc cells vs→(∀u∈vs,u.oneCell'=true)→
  ∃ws:List Value,Instr.fill place vs.toArray (parts.map fun p=>(p.1,a.eval p.2))=some ws.toArray∧eD μ loc cs ws∧∀u∈ws,u.oneCell'=true
 |[],ps,cells,cs,vs=>fun h1 h2 h3 h4=>by
  simp only [wT,Option.some.injEq] at h1;subst h1;simp only [HQ,Option.some.injEq] at h2;subst h2;exact ⟨vs,by simp [Instr.fill],h3,h4⟩
 |(i,x)::parts,ps,cells,cs,vs=>fun h1 h2 h3 h4=>by
  simp only [wT] at h1;split at h1
  ·rename_i l rest hx qm
   injection h1 with h1;subst h1
   obtain ⟨sx,XB,hl⟩:=Option.bind_eq_some_iff.1 hx;obtain ⟨hc,hone⟩:=Gj hR hl (bf hR XB);simp only [HQ] at h2;split at h2
   ·cases h2
   ·rename_i off size OL
    split at h2
    ·rename_i de
     have hlen:(a.eval x).cells.size=size:=by
      have:=ja hc;simpa [de.1] using this
     have hvl:=ja h3;have hnews:=iZ (iZ (vp h3 off) hc) (vo h3 (off+size))
     obtain ⟨ws,hw,hr,ho⟩:=zz hR qm h2 hnews (fun u hu=>by
      simp only [List.mem_append] at hu;rcases hu with (hu|hu)|hu
      ·exact h4 u (List.mem_of_mem_take hu)
      ·exact hone u hu
      ·exact h4 u (List.mem_of_mem_drop hu))
     refine ⟨ws,?_,hr,ho⟩;simp only [List.map_cons,Instr.fill,OL];rw [if_neg (by simp [hlen];omega)];rw [←hw]
     congr 1
     have hsp:=z6 vs (a.eval x).cells.toList off 0 (by simp;omega);simp only [Nat.add_zero,Array.length_toList,hlen] at hsp;rw [←hsp,←Array.foldl_toList,Array.toList_zipIdx]
    ·cases h2
  ·cases h1
theorem uz:∀{cs:List SV} {caps:List ko} {vs:List Value},vP st cs=some caps→eD μ loc cs vs→iB μ loc caps vs
 |[],caps,vs=>fun h k=>by simp only [vP,Option.some.injEq] at h;subst h;exact k
 |s::cs,caps,vs=>fun h ⟨u,us,e,k1,k2⟩=>by
  simp only [vP] at h;split at h
  ·rename_i c rest hc qm
   injection h with h;subst h
   refine ⟨u,us,e,?_,uz qm k2⟩;unfold Vi at hc;cases ho:kX st s with
   |false=>rw [ho] at hc;cases hc
   |true=>
    rw [ho] at hc;simp only [cond_true] at hc;split at hc
    ·injection hc with hc;subst hc;exact k1
    ·injection hc with hc;subst hc;exact k1
    ·cases hc
  ·cases h
theorem Da (hR:Rel N w0 μ0 L μ loc st a w) {o:Oper} {d:Nat} {t:TypeId} {parts:Array (Nat×Operand)} (hd:d<N) (cK:o.dst=some d) (ho:o.op= .build t parts) (h:xY P st d t parts.toList=some st') (hK:ku N w0 μ0 L st' K):o.wp P a w K Q:=by
 unfold xY at h;split at h
 ·rename_i fs G5 l hu hz
  cases OH:fs.toList.all (fun f=>(gC P f.type).isSome) with
  |false=>rw [OH] at h;cases h
  |true=>
   rw [OH] at h;simp only [cond_true] at h;split at h
   ·rename_i ps hps
    split at h
    ·rename_i cs hcs
     injection h with h;subst h
     obtain ⟨sv2,hf,hca⟩:=Option.bind_eq_some_iff.1 hcs;obtain ⟨vs,hvs,hcell⟩:=Option.bind_eq_some_iff.1 hz;unfold tL at hvs;split at hvs
     ·rename_i i hi
      simp only [Option.map_eq_some_iff] at hvs;obtain ⟨v,hzv,rfl⟩:=hvs;obtain ⟨h1,h2,h3⟩:=pL (μ:=μ) 0 _ _ _ _ hcell;obtain ⟨loc',sL,h4,_⟩:=p8 hR l st loc hR h1;obtain ⟨ws,hw,hr,hone⟩:=zz sL hps hf (h3 loc' h4) h2;refine ez (v:= .agg ws.toArray) (w':=w) ?_ ?_
      ·obtain ⟨fl⟩:=fs
       have OL:=run_places (P:=P) (w:=w) fl OH;have hpe:(fun x=>Option.map (fun f:Field=>(f.offset,(gC P f.type).getD 0)) fl[x]?)=iS P t:=by
        funext x
        simp only [iS,oK,hu,List.getElem?_toArray];cases hx:fl[x]? with
        |none=>rfl
        |some fd=>
         obtain ⟨n,hn⟩:=Option.isSome_iff_exists.1 (List.all_eq_true.1 OH fd (List.mem_of_getElem? hx));simp [hn]
       simp only [Array.toArray_toList] at hw;unfold execOp;rw [ho];simp [Instr.build,zeroValue,typeInfo,hi,hzv,run_underlying hu,OL,hpe,hw]
      ·rw [cK]
       exact hK _ _ _ _ (sL.set (fun i hi=>by injection hi with hi;omega) ⟨ws,rfl,uz hca hr,hone⟩)
     ·cases hvs
    ·cases h
   ·cases h
 ·cases h
theorem nK:∀{l:List Nat},distinct l=true→l.Nodup
 |[],_=>List.nodup_nil
 |x::l,h=>by
  simp only [distinct,Bool.and_eq_true,Bool.not_eq_true'] at h;refine List.nodup_cons.2 ⟨fun hm=> ?_,nK h.2⟩;have:l.contains x=true:=by simpa using hm
  rw [this] at h;cases h.1
theorem nk {α:Type}:∀{l:List (Nat×α)} {i:Nat} {v:α},find l i=some v→(i,v)∈l
 |[],_,_,h=>by simp [find] at h
 |(j,u)::l,i,v,h=>by
  simp only [find] at h;cases hb:Nat.beq j i with
  |true=>simp only [hb,cond_true,Option.some.injEq] at h;have:=beq_iff.1 hb;subst this;subst h;simp
  |false=>simp only [hb,cond_false] at h;exact List.mem_cons_of_mem _ (nk h)
theorem D1 {α:Type}:∀{l:List (Nat×α)} {i:Nat},find l i=none→i∉l.map (·.1)
 |[],_,_=>by simp
 |(j,u)::l,i,h=>by
  simp only [find] at h;cases hb:Nat.beq j i with
  |true=>simp [hb] at h
  |false=>
   simp only [hb,cond_false] at h;simp only [List.map_cons,List.mem_cons,not_or];exact ⟨fun e=>by subst e;simp [Nat.beq_refl] at hb,D1 h⟩
theorem iU {α:Type}:∀{l:List (Nat×α)} {i:Nat} {v:α},(l.map (·.1)).Nodup→(i,v)∈l→find l i=some v
 |[],_,_,_,h=>by simp at h
 |(j,u)::l,i,v,hn,h=>by
  simp only [List.map_cons,List.nodup_cons] at hn;simp only [find];rcases List.mem_cons.1 h with h|h
  ·injection h with h1 h2;subst h1;subst h2;simp [Nat.beq_refl]
  ·have:j≠i:=fun e=>by subst e;exact hn.1 (List.mem_map.2 ⟨_,h,rfl⟩)
   rw [J6 this];exact iU hn.2 h
theorem oP (mv:Nat→Bool):∀(k:Nat) (l:List Nat),(iz mv k l).map (·.1)=l
 |_,[]=>rfl
 |k,id::l=>by simp [iz,oP mv (k+1) l]
theorem pZ (mv:Nat→Bool):∀(k:Nat) (l:List Nat),k+l.length≤10000→∀p∈iz mv k l,(mv p.1=true→20000+k≤p.2)∧(mv p.1=false→10000+k≤p.2∧p.2<20000)
 |_,[],_,p,h=>by simp [iz] at h
 |k,id::l,hk,p,h=>by
  simp only [List.length_cons] at hk;simp only [iz,List.mem_cons] at h;rcases h with rfl|h
  ·cases hm:mv id<;>simp [hm]<;>omega
  ·have:=pZ mv (k+1) l (by omega) p h
   exact ⟨fun e=>by have:=this.1 e;omega,fun e=>by have:=this.2 e;omega⟩
theorem pY (mv:Nat→Bool):∀(k:Nat) (l:List Nat),k+l.length≤10000→((iz mv k l).map (·.2)).Nodup
 |_,[],_=>by simp [iz]
 |k,id::l,hk=>by
  simp only [List.length_cons] at hk;simp only [iz,List.map_cons,List.nodup_cons];refine ⟨fun hm=> ?_,pY mv (k+1) l (by omega)⟩;obtain ⟨p,hp,e⟩:=List.mem_map.1 hm;have:=pZ mv (k+1) l (by omega) p hp;cases h1:mv p.1 with
  |true=>have h2:=this.1 h1;cases h3:mv id<;>simp [h3] at e<;>omega
  |false=>have h2:=this.2 h1;cases h3:mv id<;>simp [h3] at e<;>omega
theorem Cj:∀(m:List (Nat×Nat)),(swap m).map (·.1)=m.map (·.2)
 |[]=>rfl
 |(a,b)::l=>by simp [swap,Cj l]
theorem BK:∀{m:List (Nat×Nat)} {a b:Nat},(a,b)∈m→(b,a)∈swap m
 |(x,y)::l,a,b,h=>by
  rcases List.mem_cons.1 h with h|h
  ·injection h with h1 h2;subst h1;subst h2;simp [swap]
  ·simp only [swap];exact List.mem_cons_of_mem _ (BK h)
theorem s8 {loc loc':Nat→Value} {ρ:Nat→Nat} {names:List Nat} (hρ:∀j∈names,loc' (ρ j)=loc j):∀{cs:List ko} {vs:List Value},SV.closed names (.cl 0 cs)=true→iB μ loc cs vs→iB μ loc' (cs.map (ko.mw ρ)) vs
 |[],vs,_,h=>h
 |c::cs,vs,hc,⟨u,us,e,h1,h2⟩=>by
  simp only [SV.closed,List.all_cons,Bool.and_eq_true] at hc;refine ⟨u,us,e,?_,s8 hρ (by simpa [SV.closed] using hc.2) h2⟩;cases c with
  |v a=>exact h1
  |p id=>obtain ⟨b,k1,k2⟩:=h1;exact ⟨b,by rw [hρ id (by simpa using hc.1)];exact k1,k2⟩
  |r id=>show u=dR (loc' (ρ id));rw [hρ id (by simpa using hc.1)];exact h1
theorem Jd {loc loc':Nat→Value} {ρ:Nat→Nat} {names:List Nat} (hρ:∀j∈names,loc' (ρ j)=loc j) {s:SV} {v:Value} (hc:s.closed names=true) (h:cW μ loc s v):cW μ loc' (s.mw ρ) v:=by
 induction s generalizing v with
 |two s b ih=>obtain ⟨x,e,h⟩:=h;exact ⟨x,e,ih (by simpa [SV.closed] using hc) h⟩
 |undef=>exact h
 |any=>exact h
 |pv x=>exact h
 |cp cs=>exact h
 |ptr j off=>obtain ⟨b,h1,h2⟩:=h;exact ⟨b,by rw [hρ j (by simpa [SV.closed] using hc)];exact h1,h2⟩
 |row j=>show v=dR (loc' (ρ j));rw [hρ j (by simpa [SV.closed] using hc)];exact h
 |rp j sz i off=>obtain ⟨g,n,c,h1,h2⟩:=h;exact ⟨g,n,c,by rw [hρ j (by simpa [SV.closed] using hc)];exact h1,h2⟩
 |sub j sz lo hi=>obtain ⟨A,n,c,A',c',h1,h2⟩:=h;exact ⟨A,n,c,A',c',by rw [hρ j (by simpa [SV.closed] using hc)];exact h1,h2⟩
 |cl f caps=>obtain ⟨vs,e,h1⟩:=h;exact ⟨vs,e,s8 hρ (by simpa [SV.closed] using hc) h1⟩
 |ag caps=>obtain ⟨vs,e,h1,h2⟩:=h;exact ⟨vs,e,s8 hρ (by simpa [SV.closed] using hc) h1,h2⟩
theorem yK {loc loc':Nat→Value} {ρ:Nat→Nat} {names:List Nat} (hρ:∀j∈names,loc' (ρ j)=loc j):∀{cs:List SV} {vs:List Value},cs.all (SV.closed names)=true→eD μ loc cs vs→eD μ loc' (cs.map (SV.mw ρ)) vs
 |[],vs,_,h=>h
 |c::cs,vs,hc,⟨u,us,e,h1,h2⟩=>by
  simp only [List.all_cons,Bool.and_eq_true] at hc;exact ⟨u,us,e,Jd hρ hc.1 h1,yK hρ hc.2 h2⟩
theorem BP {n0 n0':Nat} {L L':lp} {loc loc':Nat→Value} {ρ:Nat→Nat} {names:List Nat} (hρ:∀j∈names,loc' (ρ j)=loc j) {id id':Nat} {o:Ob} (hc:o.closed names=true) (h:gV n0 L μ loc w id o) (hid:loc' id'=loc id)
  (hown:∀b,gi (loc id) b→Gi n0' L' id' b):gV n0' L' μ loc' w id' (o.mw ρ):=by
 cases o with
 |box t cells=>
  obtain ⟨b,vs,hl,ho,hh,hm,hs,h1⟩:=h;exact ⟨b,vs,by rw [hid];exact hl,hown b (by rw [hl];exact jH.2 rfl),hh,hm,yK hρ hc hs,h1⟩
 |row e sz xs=>
  obtain ⟨vs,hw,hrc,hm⟩:=h;exact ⟨vs,by rw [hid];exact hw,hrc,fun g hg=>by rw [hid] at hg;exact ⟨hown g hg,(hm g hg).2⟩⟩
 |mp k e ks es=>
  obtain ⟨b,bK,clock,hl,ho,hh,hm,h1,h2,hB⟩:=h;exact ⟨b,bK,clock,by rw [hid];exact hl,hown b (by rw [hl];exact mU.2 rfl),hh,hm,h1,h2,hB⟩
 |mr k e sz ks vs=>simp [Ob.closed] at hc
 |it s pos=>
  obtain ⟨b,hl,ho,hh,hm⟩:=h;exact ⟨b,by rw [hid];exact hl,hown b (by rw [hl];exact jH.2 rfl),hh,hm⟩
theorem wX {tm:Nat→Option Value}:∀(l:List Nat) (st:St) (loc jl:Nat→Value),(∀i,i∉l→jl i=loc i)→(∀i s,st.env i=some s→∃v,tm i=some v∧cW μ loc s v)→∀i s,(mu l st).env i=some s→∃v,tm i=some v∧cW μ jl s v
 |[],st,loc,jl,hl,h,i,s,hs=>by
  have:jl=loc:=funext fun i=>hl i (by simp)
  rw [this];exact h i s hs
 |id::l,st,loc,jl,hl,h,i,s,hs=>by
  refine wX l (st.bV id) (uR loc id (jl id)) jl (fun i hi=> ?_) (fun i s hs=> ?_) i s hs
  ·by_cases e:i=id
   ·subst e;rw [cC]
   ·rw [cr _ _ e];exact hl i (by simp [e,hi])
  ·simp only [St.bV,Option.map_eq_some_iff] at hs
   obtain ⟨s0,hs0,rfl⟩:=hs;obtain ⟨v,hv,hr⟩:=h i s0 hs0;exact ⟨v,hv,rG hr⟩
theorem zT:∀(l:List Nat) (st:St) (loc jl:Nat→Value),(∀i,i∉l→jl i=loc i)→∀i o',(mu l st).ob i=some o'→i∉l∧∃o,st.ob i=some o∧∀n0 L μ w,gV n0 L μ loc w i o→gV n0 L μ jl w i o'
 |[],st,loc,jl,hl,i,o',ho=>by
  have:jl=loc:=funext fun i=>hl i (by simp)
  rw [this];exact ⟨by simp,o',ho,fun _ _ _ _ h=>h⟩
 |id::l,st,loc,jl,hl,i,o',ho=>by
  obtain ⟨h1,o1,h2,h3⟩:=zT l (st.bV id) (uR loc id (jl id)) jl (fun i hi=>by
   by_cases e:i=id
   ·subst e;rw [cC]
   ·rw [cr _ _ e];exact hl i (by simp [e,hi])) i o' ho
  by_cases e:id=i
  ·subst e;simp [St.bV,bT] at h2
  ·simp only [St.bV,aX _ _ e,Option.map_eq_some_iff] at h2
   obtain ⟨o,ho,rfl⟩:=h2;exact ⟨by simp [Ne.symm e,h1],o,ho,fun n0 L μ w h=>h3 n0 L μ w (vl h (Ne.symm e))⟩
theorem vL (hR:Rel N w0 μ0 L μ loc st a w):∀{xs:List Operand} {ts:List TypeId} {vs:List SV},pH P h st xs ts=some vs→eD μ loc vs (xs.map a.eval)
 |[],ts,vs,hv=>by simp only [pH,Option.some.injEq] at hv;subst hv;rfl
 |x::xs,ts,vs,hv=>by
  simp only [pH] at hv;split at hv
  ·rename_i v vs' h1 h2
   injection hv with hv;subst hv
   refine ⟨_,_,rfl,?_,vL hR h2⟩;unfold PZ at h1;split at h1
   all_goals first
    |(rename_i hx;injection h1 with h1;subst h1;exact bf hR hx)
    |cases h1
    |(rename_i hx;cases hb:isRef h x with
      |false=>rw [hb] at h1;cases h1
      |true=>rw [hb] at h1;simp only [cond_true,Option.some.injEq] at h1;subst h1;exact bf hR hx)
  ·cases hv
theorem uF {ids:List Nat} {ρ:Nat→Nat}:∀{l:List (Nat×Nat)} {bU:List (Nat×Ob)},gj st ids ρ l=some bU→bU.map (·.1)=l.map (·.2)∧∀nm o',(nm,o')∈bU→∃id o,(id,nm)∈l∧st.ob id=some o∧o.closed ids=true∧o'=o.mw ρ
 |[],bU,hv=>by simp only [gj,Option.some.injEq] at hv;subst hv;simp
 |(id,nm)::l,bU,hv=>by
  simp only [gj] at hv;split at hv
  ·rename_i o os ho hos
   cases hc:o.closed ids with
   |false=>rw [hc] at hv;cases hv
   |true=>
    simp only [hc,cond_true,Option.some.injEq] at hv;subst hv;obtain ⟨h1,h2⟩:=uF hos;refine ⟨by simp [h1],fun LJ o' hm=> ?_⟩;rcases List.mem_cons.1 hm with hm|hm
    ·injection hm with e1 e2;subst e1;subst e2;exact ⟨id,o,by simp,ho,hc,rfl⟩
    ·obtain ⟨id',o1,k1,k2⟩:=h2 LJ o' hm
     exact ⟨id',o1,by simp [k1],k2⟩
  ·cases hv
theorem ux {names:List Nat} {ρ:Nat→Nat}:∀{l:List (Nat×Nat)} {bU back:List (Nat×Ob)},lN names ρ l bU=some back→bU.map (·.1)=l.map (·.2)∧back.map (·.1)=l.map (·.1)∧∀id o',(id,o')∈back→∃nm o,(id,nm)∈l∧(nm,o)∈bU∧o.closed names=true∧o'=o.mw ρ
 |[],[],back,hv=>by simp only [lN,Option.some.injEq] at hv;subst hv;simp
 |[],_::_,back,hv=>by simp [lN] at hv
 |_::_,[],back,hv=>by simp [lN] at hv
 |(id,nm)::l,(LJ,o)::os,back,hv=>by
  simp only [lN] at hv;cases hb:(Nat.beq nm LJ&&o.closed names) with
  |false=>rw [hb] at hv;cases hv
  |true=>
   simp only [hb,cond_true,Option.map_eq_some_iff] at hv;obtain ⟨r,hr,rfl⟩:=hv;simp only [Bool.and_eq_true] at hb;have:=beq_iff.1 hb.1;subst this;obtain ⟨h1,h2,h3⟩:=ux hr;refine ⟨by simp [h1],by simp [h2],fun id' o' hm=> ?_⟩;rcases List.mem_cons.1 hm with hm|hm
   ·injection hm with e1 e2;subst e1;subst e2;exact ⟨nm,o,by simp,by simp,hb.2,rfl⟩
   ·obtain ⟨nm1,o1,k1,k2,k3⟩:=h3 id' o' hm
    exact ⟨nm1,o1,by simp [k1],by simp [k2],k3⟩
theorem sw (hR:Rel N w0 μ0 L μ loc st a w) (fm:eF L.q μ0 P bN) {o:Oper} {c:Call} {f:Operand} {st1:St} (hd:∀i,o.dst=some i→i<N) (ho:o.op= .call c) (hc:c.callee= .value f)
  (hv:gp P h bN st c f o.dst=some st1) (hK:ku N w0 μ0 L st1 K):o.wp P a w K Q:=by
 unfold gp at hv;split at hv
 ·rename_i g caps vs hf hvs
  simp only [] at hv;generalize An:eZ st 200 ((vs++caps).flatMap SV.ids) []=ids at hv;generalize mK:tZ (o.dst.any h.stay.contains) st (yL (vs++caps))=mv at hv;generalize hm:iz mv 0 ids=m at hv;cases de:(distinct ids&&Nat.blt ids.length 10000&&(vs++caps).all (SV.closed ids)) with
  |false=>rw [de] at hv;cases hv
  |true=>
  simp only [de,cond_true] at hv;simp only [Bool.and_eq_true] at de;obtain ⟨⟨Re,hlen⟩,Z5⟩:=de;have hlen:ids.length<10000:=by simpa [Nat.blt_eq] using hlen
  have kq:=nK Re;have Rm:m.map (·.1)=ids:=by rw [←hm];exact oP _ _ _
  have Xx:∀p∈m,(mv p.1=true→20000≤p.2)∧(mv p.1=false→10000≤p.2∧p.2<20000):=by
   rw [←hm];intro p hp;have:=pZ mv 0 ids (by omega) p hp;exact ⟨fun e=>by have:=this.1 e;omega,fun e=>by have:=this.2 e;omega⟩
  have vG:(m.map (·.2)).Nodup:=by rw [←hm];exact pY mv 0 ids (by omega)
  have iW:∀id nm,(id,nm)∈m→find m id=some nm:=fun id nm hp=>iU (by rw [Rm];exact kq) hp
  have hswap:∀id nm,(id,nm)∈m→find (swap m) nm=some id:=fun id nm hp=>iU (by rw [Cj];exact vG) (BK hp)
  have hex:∀id∈ids,∃nm,(id,nm)∈m:=fun id hid=>by
   rw [←Rm] at hid;obtain ⟨p,hp,rfl⟩:=List.mem_map.1 hid;exact ⟨p.2,hp⟩
  let oz:Nat→Value:=fun nm=>match find (swap m) nm with
   |some id=>loc id
   |none=>loc nm
  have zD:∀id nm,(id,nm)∈m→oz nm=loc id:=fun id nm hp=>by simp only [oz,hswap id nm hp]
  have hren:∀id nm,(id,nm)∈m→j5 m id=nm:=fun id nm hp=>by simp [j5,iW id nm hp]
  have hren2:∀id nm,(id,nm)∈m→j5 (swap m) nm=id:=fun id nm hp=>by simp [j5,hswap id nm hp]
  have hρ:∀j∈ids,oz (j5 m j)=loc j:=fun j hj=>by
   obtain ⟨nm,hp⟩:=hex j hj;rw [hren j nm hp,zD j nm hp]
  split at hv
  ·rename_i bU wj
   obtain ⟨hl1,PE⟩:=uF wj;have hlnd:(bU.map (·.1)).Nodup:=by rw [hl1];exact vG
   split at hv
   ·rename_i r dP hr
    split at hv
    ·rename_i back sM
     obtain ⟨hb1,Us,hb3⟩:=ux sM;have hbnd:(dP.map (·.1)).Nodup:=by rw [hb1];exact vG
     have hbid:back.map (·.1)=ids:=by rw [Us,Rm]
     cases Eb:r.ig with
     |false=>rw [Eb] at hv;cases hv
     |true=>
     simp only [Eb,cond_true,Option.some.injEq] at hv;subst hv;obtain ⟨sf,hsf,hfn⟩:=Option.bind_eq_some_iff.1 hf;have hfv:=bf hR hsf;obtain ⟨cs,Vs,hcs⟩:∃cs:List Value,a.eval f= .func (.func g) #[] cs.toArray∧eD μ loc caps cs:=by
      unfold Uo at hfn;split at hfn
      ·simp only [Option.some.injEq,Prod.mk.injEq] at hfn
       obtain ⟨rfl,rfl⟩:=hfn;simp only [cW,rep] at hfv;obtain ⟨us,e,hu⟩:=hfv;exact ⟨us,e,mA hu⟩
      ·rename_i g' Qj
       simp only [Option.some.injEq,Prod.mk.injEq] at hfn;obtain ⟨rfl,rfl⟩:=hfn;obtain ⟨us,e,hu⟩:=hfv;exact ⟨us,e,qP hu⟩
      ·cases hfn
     have hargs:=vL hR hvs;have hall:=yK hρ Z5 (iZ hargs hcs);have qU:∀i oi,find bU i=some oi→gV w.heap.size (gU L.q oz (bU.map (·.1))) μ oz w i oi:=by
      intro i oi hi;obtain ⟨id,ob,hp,cU,hoc,rfl⟩:=PE i oi (nk hi);refine BP hρ hoc (hR.obs id _ cU) (zD id i hp) (fun b hb=> .inr ⟨loc id,?_,hb⟩);have:i∈bU.map (·.1):=by rw [hl1];exact List.mem_map.2 ⟨_,hp,rfl⟩
      simp only [gU,if_pos this,zD id i hp]
     have hapC:Mq oz bU:=by
      intro i j oi oj hi hj hij q hq;obtain ⟨id,ob,hp,cU,_⟩:=PE i oi (nk hi);obtain ⟨id',YV,hp',ql,_⟩:=PE j oj (nk hj);rw [zD id i hp] at hq;rw [zD id' j hp'];refine hR.apart id id' ob YV cU ql (fun e=>hij ?_) q hq;subst e;have:=(iW id i hp).symm.trans (iW id j hp');injection this
     obtain ⟨he,hC⟩:=fm g _ _ r _ hr w μ oz (c.args.toList.map a.eval++cs) hR.base.1 hR.r7 qU hapC hall;refine AL (R:=fun v w'=>∃μ' loc',fk L.q μ oz (bU.map (·.1)) r dP w v μ' loc' w') (r:=r) (dP:=[]) ho hc Vs rfl he (hC.mono ?_) ?_
     ·rintro e w' ⟨v,μ',loc',rfl,hP⟩
      exact ⟨v,rfl,μ',loc',hP⟩
     rintro v w' ⟨μ',loc',hP⟩
     let jl:Nat→Value:=fun i=>match find m i with
      |some nm=>loc' nm
      |none=>loc i
     have OD:∀id nm,(id,nm)∈m→jl id=loc' nm:=fun id nm hp=>by simp only [jl,iW id nm hp]
     have MK:∀i,i∉ids.filter mv→jl i=loc i:=by
      intro i hi;cases MP:find m i with
      |none=>simp only [jl,MP]
      |some nm=>
       have hp:=nk MP;have hmem:i∈ids:=by rw [←Rm];exact List.mem_map.2 ⟨_,hp,rfl⟩
       have hmv0:mv i=false:=by
        cases hx:mv i with
        |false=>rfl
        |true=>exact absurd (List.mem_filter.2 ⟨hmem,hx⟩) hi
       rw [OD i nm hp,hP.fix nm (by rw [hl1];exact List.mem_map.2 ⟨_,hp,rfl⟩) ((Xx _ hp).2 hmv0).2];exact zD i nm hp
     have hlb:∀b,Eh (gU L.q oz (bU.map (·.1))) b→∃id ob,id∈ids∧st.ob id=some ob∧gi (loc id) b:=by
      rintro b ⟨nm,x,hx,MO⟩
      simp only [gU] at hx;split at hx
      ·rename_i hmem
       injection hx with hx;subst hx
       rw [hl1] at hmem;obtain ⟨p,hp,rfl⟩:=List.mem_map.1 hmem;rw [zD p.1 p.2 hp] at MO;obtain ⟨q,hq,e⟩:=List.mem_map.1 (show p.2∈bU.map (·.1) by rw [hl1];exact List.mem_map.2 ⟨_,hp,rfl⟩);obtain ⟨id,ob,k1,k2,_⟩:=PE q.1 q.2 hq;rw [e] at k1;have:=(hswap p.1 p.2 hp).symm.trans (hswap id p.2 k1);injection this with this
       exact ⟨p.1,ob,by rw [←Rm];exact List.mem_map.2 ⟨_,hp,rfl⟩,by rw [this];exact k2,MO⟩
      ·cases hx
     have Xt:∀i oi,st.ob i=some oi→i∉ids→gV w0.heap.size L μ' loc w' i oi:=by
      intro i oi hi hni;refine (hR.obs i oi hi).keep hP.ext.1 (fun b hb=> ?_);obtain ⟨_,hlt,qk⟩:=(hR.obs i oi hi).block b hb;refine ⟨hP.keep b hlt (fun hl=> ?_),fun j=> ?_⟩
      ·obtain ⟨id,ob,h1,h2,h3⟩:=hlb b hl
       exact hR.apart id i ob oi h2 hi (fun e=>hni (by rw [←e];exact h1)) b h3 hb
      ·cases hj:μ' b j with
       |none=>rfl
       |some x=>
        rcases hP.ext.2 b j x hj with hx|hx
        ·rw [qk j] at hx;cases hx
        ·omega
     have Xh:∀id o',find back id=some o'→∃nm o,(id,nm)∈m∧find dP nm=some o∧o.closed (m.map (·.2))=true∧o'=o.mw (j5 (swap m)):=by
      intro id o' C0;obtain ⟨nm,o,h1,h2,h3,h4⟩:=hb3 id o' (nk C0);exact ⟨nm,o,h1,iU hbnd h2,h3,h4⟩
     have Ii:∀id nm ob b,(id,nm)∈m→find dP nm=some ob→gi (loc' nm) b→w.heap.size≤b∨gi (loc id) b:=by
      intro id nm ob b hp hfo hb;rcases ((hP.obs nm ob hfo).block b hb).1 with hx|⟨x,hx,MO⟩
      ·exact .inl hx
      ·right
       simp only [gU] at hx;split at hx
       ·injection hx with hx;subst hx;rw [zD id nm hp] at MO;exact MO
       ·cases hx
     have Vw:∀id nm,(id,nm)∈m→∃ob,st.ob id=some ob:=by
      intro id nm hp;obtain ⟨q,hq,e⟩:=List.mem_map.1 (show nm∈bU.map (·.1) by rw [hl1];exact List.mem_map.2 ⟨_,hp,rfl⟩);obtain ⟨id',ob,k1,k2,_⟩:=PE q.1 q.2 hq;rw [e] at k1;have:=(hswap id nm hp).symm.trans (hswap id' nm k1);injection this with this
      exact ⟨ob,by rw [this];exact k2⟩
     have MT:∀i oi,((find back i).orElse fun _=>(mu (ids.filter mv) st).ob i)=some oi→gV w0.heap.size L μ' jl w' i oi∧((∃nm o,(i,nm)∈m∧find dP nm=some o)∨(i∉ids∧∃o,st.ob i=some o)):=by
      intro i oi hi;cases C0:find back i with
      |some o'=>
       rw [C0] at hi;simp at hi;subst hi;obtain ⟨nm,ob,hp,hfo,xS,rfl⟩:=Xh i o' C0;refine ⟨BP (names:=m.map (·.2)) (fun j hj=> ?_) xS (hP.obs nm ob hfo) (OD i nm hp) (fun b hb=> ?_), .inl ⟨nm,ob,hp,hfo⟩⟩
       ·obtain ⟨q,hq,rfl⟩:=List.mem_map.1 hj
        rw [hren2 q.1 q.2 hq,OD q.1 q.2 hq]
       ·rcases Ii i nm ob b hp hfo hb with hx|hx
        ·exact .inl (Nat.le_trans hR.grown hx)
        ·obtain ⟨ob0,Xr⟩:=Vw i nm hp
         exact ((hR.obs i ob0 Xr).block b hx).1
      |none=>
       rw [C0] at hi;have hni:i∉ids:=by rw [←hbid];exact D1 C0
       have hi':(mu (ids.filter mv) st).ob i=some oi:=by simpa using hi
       obtain ⟨_,ob,cU,hk⟩:=zT _ st loc jl MK i oi hi';exact ⟨hk _ _ _ _ (Xt i ob cU hni), .inr ⟨hni,ob,cU⟩⟩
     refine hK _ _ μ' jl (Rel.set (sv:= .pv r) ?_ hd (hP.pure Eb));refine ⟨hR.small,hR.names,?_,hR.size,hR.defers,?_,hP.r7,⟨hR.base.1.trans hP.ext.1,?_⟩,fun i oi hi=>(MT i oi hi).1,?_,?_,hP.os.trans hR.os,hP.tape.trans hR.tape,hP.output.trans hR.output,Nat.le_trans hR.grown hP.grown,fun q=>Nat.le_trans (hR.drawn q) (hP.drawn q)⟩
     ·intro id x hx hlt
      rw [MK id (fun hmem=> ?_)]
      ·exact hR.fix id x hx hlt
      ·have hmt:=(List.mem_filter.1 hmem).2
       rw [←mK] at hmt;simp only [tZ,Bool.and_eq_true,lQ,Bool.or_eq_true] at hmt;rcases hmt.1.1.2 with hh|hh
       ·have:id<10000:=by simpa [Nat.blt_eq] using hh
        rw [hR.names id this] at hx;cases hx
       ·have:=Nat.le_of_ble_eq_true hh.1;omega
     ·exact wX (tm:=fun i=>a.tmps[i]?) _ st loc jl MK (fun i s hs=>by
       obtain ⟨u,hu,hr⟩:=hR.env i s hs
       exact ⟨u,hu,yJ hP.ext.1 hr⟩)
     ·intro b j x hx
      rcases hP.ext.2 b j x hx with hx|hx
      ·exact hR.base.2 b j x hx
      ·exact .inr (Nat.le_trans hR.grown hx)
     ·intro i j oi oj hi hj hij q hq
      have LU:∀k ok,k∉ids→st.ob k=some ok→∀q,gi (jl k) q→gi (loc k) q∧q<w.heap.size:=by
       intro k ok hk hok q hq;have:jl k=loc k:=MK k (fun hm=>hk (List.mem_filter.1 hm).1);rw [this] at hq;exact ⟨hq,((hR.obs k ok hok).block q hq).2.1⟩
      have mixed:∀i nm o j oj q,(i,nm)∈m→find dP nm=some o→j∉ids→st.ob j=some oj→gi (jl i) q→gi (jl j) q→False:=by
       intro i nm o j oj q hp hfo hj TS hqi KI;obtain ⟨hqj',hlt⟩:=LU j oj hj TS q KI;rw [OD i nm hp] at hqi;rcases Ii i nm o q hp hfo hqi with hx|hx
       ·omega
       ·obtain ⟨ob0,Xr⟩:=Vw i nm hp
        exact hR.apart i j ob0 oj Xr TS (fun e=>hj (by rw [←e,←Rm];exact List.mem_map.2 ⟨_,hp,rfl⟩)) q hx hqj'
      rcases (MT i oi hi).2 with ⟨nm,o,hp,hfo⟩|⟨hni,ob,cU⟩
      ·rcases (MT j oj hj).2 with ⟨LJ,o',hp',Xl⟩|⟨Vv,YV,ql⟩
       ·rw [OD i nm hp] at hq
        rw [OD j LJ hp'];refine hP.apart nm LJ o o' hfo Xl (fun e=>hij ?_) q hq;subst e;have:=(hswap i nm hp).symm.trans (hswap j nm hp');injection this
       ·exact fun KI=>mixed i nm o j YV q hp hfo Vv ql hq KI
      ·rcases (MT j oj hj).2 with ⟨LJ,o',hp',Xl⟩|⟨Vv,YV,ql⟩
       ·exact fun KI=>mixed j LJ o' i ob q hp' Xl hni cU KI hq
       ·obtain ⟨hqi,_⟩:=LU i ob hni cU q hq
        intro KI;obtain ⟨KI,_⟩:=LU j YV Vv ql q KI;exact hR.apart i j ob YV cU ql hij q hqi KI
     ·intro b hb hl
      refine (hP.keep b (Nat.lt_of_lt_of_le hb hR.grown) (fun hl'=> ?_)).trans (hR.keep b hb hl);obtain ⟨id,ob,_,h2,h3⟩:=hlb b hl';rcases ((hR.obs id ob h2).block b h3).1 with hx|⟨x,hx,MO⟩
      ·omega
      ·exact hl ⟨id,x,hx,MO⟩
    ·cases hv
   ·cases hv
  ·cases hv
 ·cases hv
mutual
theorem AV.nh:∀(a b:AV),AV.same a b=true→a=b
 | .bool a,b=>by cases b<;>simp [AV.same]
 | .int k a,b=>by cases b<;>simp [AV.same]
 | .str a,b=>by cases b<;>simp [AV.same]
 | .cm s xs,b=>by
  cases b<;>simp only [AV.same,Bool.and_eq_true,Bool.false_eq_true,false_imp_iff]
  rintro ⟨h1,h2⟩
  rw [beq_iff.1 h1,xg _ _ h2]
 | .agg a,b=>by
  cases b<;>simp only [AV.same,Bool.false_eq_true,false_imp_iff];intro h;rw [gX _ _ h]
 | .fn f a,b=>by
  cases b<;>simp only [AV.same,Bool.and_eq_true,Bool.false_eq_true,false_imp_iff]
  rintro ⟨h1,h2⟩
  rw [beq_iff.1 h1,gX _ _ h2]
 | .fG a,b=>by
  cases b<;>simp only [AV.same,Bool.false_eq_true,false_imp_iff];intro h;rw [gX _ _ h]
 | .ref a,b=>by
  cases b<;>simp only [AV.same,Bool.false_eq_true,false_imp_iff];intro h;rw [gX _ _ h]
 | .mp a b,c=>by
  cases c<;>simp only [AV.same,Bool.and_eq_true,Bool.false_eq_true,false_imp_iff]
  rintro ⟨h1,h2⟩
  rw [gX _ _ h1,gX _ _ h2]
 | .self n,b=>by
  cases b<;>simp only [AV.same,Bool.false_eq_true,false_imp_iff];intro h;rw [beq_iff.1 h]
 | .ri,b=>by cases b<;>simp [AV.same]
theorem gX:∀(a b:List AV),kY a b=true→a=b
 |[],[]=>fun _=>rfl
 |[],_::_=>fun h=>by simp [kY] at h
 |_::_,[]=>fun h=>by simp [kY] at h
 |x::l,y::m=>fun h=>by
  simp only [kY,Bool.and_eq_true] at h;rw [AV.nh x y h.1,gX l m h.2]
theorem xg:∀(a b:List (List AV)),uP a b=true→a=b
 |[],[]=>fun _=>rfl
 |[],_::_=>fun h=>by simp [uP] at h
 |_::_,[]=>fun h=>by simp [uP] at h
 |x::l,y::m=>fun h=>by
  simp only [uP,Bool.and_eq_true] at h;rw [gX x y h.1,xg l m h.2]
end
mutual
theorem AV.jb:∀a:AV,AV.same a a=true
 | .bool a=>by simp [AV.same]
 | .int k a=>by simp [AV.same]
 | .str a=>by simp [AV.same]
 | .cm s xs=>by simp [AV.same,Nat.beq_refl,rI xs]
 | .agg a=>by simp [AV.same,fW a]
 | .fn f a=>by simp [AV.same,Nat.beq_refl,fW a]
 | .fG a=>by simp [AV.same,fW a]
 | .ref a=>by simp [AV.same,fW a]
 | .mp a b=>by simp [AV.same,fW a,fW b]
 | .self n=>by simp [AV.same,Nat.beq_refl]
 | .ri=>by simp [AV.same]
theorem fW:∀a:List AV,kY a a=true
 |[]=>rfl
 |x::l=>by simp [kY,AV.jb x,fW l]
theorem rI:∀a:List (List AV),uP a a=true
 |[]=>rfl
 |x::l=>by simp [uP,fW x,rI l]
end
theorem ko.nh {a b:ko} (h:a.same b=true):a=b:=by
 cases a<;>cases b<;>simp only [ko.same,Bool.false_eq_true] at h
 ·rw [AV.nh _ _ h]
 ·rw [beq_iff.1 h]
 ·rw [beq_iff.1 h]
theorem ko.jb (a:ko):a.same a=true:=by
 cases a<;>simp [ko.same,AV.jb,Nat.beq_refl]
theorem tn:∀{a b:List ko},kJ a b=true→a=b
 |[],[]=>fun _=>rfl
 |[],_::_=>fun h=>by simp [kJ] at h
 |_::_,[]=>fun h=>by simp [kJ] at h
 |x::l,y::m=>fun h=>by
  simp only [kJ,Bool.and_eq_true] at h;rw [ko.nh h.1,tn h.2]
theorem uO:∀a:List ko,kJ a a=true
 |[]=>rfl
 |x::l=>by simp [kJ,ko.jb x,uO l]
theorem SV.nh {a b:SV} (h:a.same b=true):a=b:=by
 induction a generalizing b with
 |two s x ih=>
  cases b<;>simp only [SV.same,Bool.and_eq_true,Bool.false_eq_true] at h;rw [ih h.1,beq_iff_eq.1 h.2]
 |undef=>cases b<;>simp only [SV.same,Bool.false_eq_true] at h;rfl
 |any=>cases b<;>simp only [SV.same,Bool.false_eq_true] at h;rfl
 |pv x=>cases b<;>simp only [SV.same,Bool.false_eq_true] at h;rw [AV.nh _ _ h]
 |ptr x y=>cases b<;>simp only [SV.same,Bool.and_eq_true,Bool.false_eq_true] at h;rw [beq_iff.1 h.1,beq_iff.1 h.2]
 |row x=>cases b<;>simp only [SV.same,Bool.false_eq_true] at h;rw [beq_iff.1 h]
 |rp x y z u=>cases b<;>simp only [SV.same,Bool.and_eq_true,Bool.false_eq_true] at h;rw [beq_iff.1 h.1.1.1,beq_iff.1 h.1.1.2,beq_iff.1 h.1.2,beq_iff.1 h.2]
 |sub x y z u=>cases b<;>simp only [SV.same,Bool.and_eq_true,Bool.false_eq_true] at h;rw [beq_iff.1 h.1.1.1,beq_iff.1 h.1.1.2,beq_iff.1 h.1.2,beq_iff.1 h.2]
 |cp x=>cases b<;>simp only [SV.same,Bool.false_eq_true] at h;rw [gX _ _ h]
 |cl f x=>cases b<;>simp only [SV.same,Bool.and_eq_true,Bool.false_eq_true] at h;rw [beq_iff.1 h.1,tn h.2]
 |ag x=>cases b<;>simp only [SV.same,Bool.false_eq_true] at h;rw [tn h]
theorem SV.jb (a:SV):a.same a=true:=by
 induction a<;>simp [SV.same,AV.jb,Nat.beq_refl,fW,uO, *]
theorem Cb:∀{a b:List SV},pe a b=true→a=b
 |[],[]=>fun _=>rfl
 |[],_::_=>fun h=>by simp [pe] at h
 |_::_,[]=>fun h=>by simp [pe] at h
 |x::l,y::m=>fun h=>by
  simp only [pe,Bool.and_eq_true] at h;rw [SV.nh h.1,Cb h.2]
theorem xk:∀a:List SV,pe a a=true
 |[]=>rfl
 |x::l=>by simp [pe,SV.jb x,xk l]
theorem yP:∀{a b:List (Option (List (List AV)))},kK a b=true→a=b
 |[],[]=>fun _=>rfl
 |[],_::_=>fun h=>by simp [kK] at h
 |none::_,[]=>fun h=>by simp [kK] at h
 |some _::_,[]=>fun h=>by simp [kK] at h
 |some x::l,some y::m=>fun h=>by
  simp only [kK,Bool.and_eq_true] at h;rw [xg _ _ h.1,yP h.2]
 |none::l,none::m=>fun h=>by
  simp only [kK] at h;rw [yP h]
 |some _::_,none::_=>fun h=>by simp [kK] at h
 |none::_,some _::_=>fun h=>by simp [kK] at h
theorem tq:∀a:List (Option (List (List AV))),kK a a=true
 |[]=>rfl
 |some x::l=>by simp [kK,rI x,tq l]
 |none::l=>by simp [kK,tq l]
theorem Ob.nh {a b:Ob} (h:a.same b=true):a=b:=by
 cases a<;>cases b<;>simp only [Ob.same,Bool.and_eq_true,Bool.false_eq_true] at h
 ·rw [beq_iff.1 h.1,Cb h.2]
 ·rw [beq_iff.1 h.1.1,beq_iff.1 h.1.2,xg _ _ h.2]
 ·rw [beq_iff.1 h.1.1.1,beq_iff.1 h.1.1.2,gX _ _ h.1.2,gX _ _ h.2]
 ·rw [beq_iff.1 h.1.1.1.1,beq_iff.1 h.1.1.1.2,beq_iff.1 h.1.1.2,gX _ _ h.1.2,yP h.2]
 ·rw [of_decide_eq_true h.1,beq_iff.1 h.2]
theorem Ob.jb (a:Ob):a.same a=true:=by
 cases a<;>simp [Ob.same,rI,Nat.beq_refl,fW,xk,tq]
theorem Ca:∀{a b:List (Nat×Ob)},ng a b=true→a=b
 |[],[]=>fun _=>rfl
 |[],_::_=>fun h=>by simp [ng] at h
 |_::_,[]=>fun h=>by simp [ng] at h
 |(i,x)::l,(j,y)::m=>fun h=>by
  simp only [ng,Bool.and_eq_true] at h;rw [beq_iff.1 h.1.1,Ob.nh h.1.2,Ca h.2]
theorem xd:∀a:List (Nat×Ob),ng a a=true
 |[]=>rfl
 |(i,x)::l=>by simp [ng,Nat.beq_refl,Ob.jb x,xd l]
theorem ko.oc {ρ ρ':Nat→Nat} {ids:List Nat} (h:∀j∈ids,ρ' (ρ j)=j):∀{cs:List ko},SV.closed ids (.cl 0 cs)=true→(cs.map (ko.mw ρ)).map (ko.mw ρ')=cs
 |[],_=>rfl
 |c::cs,hc=>by
  simp only [SV.closed,List.all_cons,Bool.and_eq_true] at hc;simp only [List.map_cons];rw [ko.oc h (by simpa [SV.closed] using hc.2)];cases c with
  |v a=>rfl
  |p id=>simp only [ko.mw];rw [h id (by simpa using hc.1)]
  |r id=>simp only [ko.mw];rw [h id (by simpa using hc.1)]
theorem SV.oc {ρ ρ':Nat→Nat} {ids:List Nat} (h:∀j∈ids,ρ' (ρ j)=j) {s:SV} (hc:s.closed ids=true):(s.mw ρ).mw ρ'=s:=by
 induction s with
 |two s b ih=>simp only [SV.mw];rw [ih (by simpa [SV.closed] using hc)]
 |ptr j off=>simp only [SV.mw];rw [h j (by simpa [SV.closed] using hc)]
 |row j=>simp only [SV.mw];rw [h j (by simpa [SV.closed] using hc)]
 |rp j sz i off=>simp only [SV.mw];rw [h j (by simpa [SV.closed] using hc)]
 |sub j sz lo hi=>simp only [SV.mw];rw [h j (by simpa [SV.closed] using hc)]
 |cl f caps=>simp only [SV.mw];rw [ko.oc h (by simpa [SV.closed] using hc)]
 |ag caps=>simp only [SV.mw];rw [ko.oc h (by simpa [SV.closed] using hc)]
 |_=>rfl
theorem mF {ρ:Nat→Nat} {ids names:List Nat} (h:∀j∈ids,ρ j∈names):∀{cs:List ko},SV.closed ids (.cl 0 cs)=true→SV.closed names (.cl 0 (cs.map (ko.mw ρ)))=true
 |[],_=>rfl
 |c::cs,hc=>by
  simp only [SV.closed,List.all_cons,Bool.and_eq_true] at hc;have ih:=mF h (cs:=cs) (by simpa [SV.closed] using hc.2);simp only [SV.closed,List.map_cons,List.all_cons,Bool.and_eq_true];refine ⟨?_,by simpa [SV.closed] using ih⟩;cases c with
  |v a=>rfl
  |p id=>simpa [ko.mw] using h id (by simpa using hc.1)
  |r id=>simpa [ko.mw] using h id (by simpa using hc.1)
theorem SV.uV {ρ:Nat→Nat} {ids names:List Nat} (h:∀j∈ids,ρ j∈names) {s:SV} (hc:s.closed ids=true):(s.mw ρ).closed names=true:=by
 induction s with
 |two s b ih=>simp only [SV.mw,SV.closed];exact ih (by simpa [SV.closed] using hc)
 |ptr j off=>simpa [SV.mw,SV.closed] using h j (by simpa [SV.closed] using hc)
 |row j=>simpa [SV.mw,SV.closed] using h j (by simpa [SV.closed] using hc)
 |rp j sz i off=>simpa [SV.mw,SV.closed] using h j (by simpa [SV.closed] using hc)
 |sub j sz lo hi=>simpa [SV.mw,SV.closed] using h j (by simpa [SV.closed] using hc)
 |cl f caps=>have:=mF h (cs:=caps) (by simpa [SV.closed] using hc);simpa [SV.mw,SV.closed] using this
 |ag caps=>have:=mF h (cs:=caps) (by simpa [SV.closed] using hc);simpa [SV.mw,SV.closed] using this
 |_=>rfl
theorem Ob.oc {ρ ρ':Nat→Nat} {ids:List Nat} (h:∀j∈ids,ρ' (ρ j)=j) {o:Ob} (hc:o.closed ids=true):(o.mw ρ).mw ρ'=o:=by
 cases o with
 |box t cells=>
  simp only [Ob.mw,List.map_map]
  congr 1
  simp only [Ob.closed,List.all_eq_true] at hc;exact (List.map_congr_left fun s hs=>SV.oc h (hc s hs)).trans (List.map_id _)
 |_=>rfl
theorem Ob.uV {ρ:Nat→Nat} {ids names:List Nat} (h:∀j∈ids,ρ j∈names) {o:Ob} (hc:o.closed ids=true):(o.mw ρ).closed names=true:=by
 cases o with
 |box t cells=>
  simp only [Ob.closed,List.all_eq_true] at hc;simp only [Ob.mw,Ob.closed,List.all_eq_true,List.mem_map]
  rintro _ ⟨s,hs,rfl⟩
  exact SV.uV h (hc s hs)
 |mr k e s ks vs=>simp [Ob.closed] at hc
 |_=>rfl
theorem DS {ids names:List Nat} {ρ ρ':Nat→Nat} (h1:∀j∈ids,ρ' (ρ j)=j) (h2:∀j∈ids,ρ j∈names):∀{l:List (Nat×Nat)} {bU:List (Nat×Ob)},gj st ids ρ l=some bU→∃back,lN names ρ' l bU=some back∧∀i o,find back i=some o→st.ob i=some o
 |[],bU,hv=>by
  simp only [gj,Option.some.injEq] at hv;subst hv;exact ⟨[],rfl,fun i o h=>by simp [find] at h⟩
 |(id,nm)::l,bU,hv=>by
  simp only [gj] at hv;split at hv
  ·rename_i o os ho hos
   obtain ⟨hc,hv⟩:=(show o.closed ids=true∧some ((nm,o.mw ρ)::os)=some bU from by
    cases hc:o.closed ids with
    |false=>rw [hc] at hv;cases hv
    |true=>rw [hc] at hv;exact ⟨rfl,hv⟩)
   injection hv with hv
   subst hv;obtain ⟨back,hb,hg⟩:=DS h1 h2 hos;refine ⟨(id,(o.mw ρ).mw ρ')::back,?_,fun i o' hf=> ?_⟩
   ·simp only [lN,Nat.beq_refl,Ob.uV h2 hc,Bool.and_self,cond_true,hb,Option.map_some]
   ·simp only [find] at hf
    cases hbq:Nat.beq id i with
    |true=>
     simp only [hbq,cond_true,Option.some.injEq] at hf;rw [←beq_iff.1 hbq,ho,←hf,Ob.oc h1 hc]
    |false=>simp only [hbq,cond_false] at hf;exact hg i o' hf
  ·cases hv
theorem Hr {c:Call} {f:Operand} {r:AV} {d:Option Nat} (hst:d.any h.stay.contains=true) (hv:lz P h bN st c f=some r):gp P h bN st c f d=some (st.set d (.pv r)):=by
 unfold lz at hv;split at hv
 ·rename_i g args hargs
  unfold rH at hargs;split at hargs
  ·rename_i g' caps vs hf hvs
   simp only [Option.some.injEq,Prod.mk.injEq] at hargs;obtain ⟨rfl,rfl⟩:=hargs;have mK:tZ (d.any h.stay.contains) st (yL (vs++caps))=fun _=>false:=by
    funext id;simp only [tZ,hst,Bool.not_true,Bool.and_false]
   have An:eZ st 200 ((vs++caps).flatMap SV.ids) []=fS st (vs++caps):=rfl;generalize fS st (vs++caps)=ids at hv An;have hm:iz (fun _=>false) 0 ids=eM ids:=rfl;cases de:(distinct ids&&Nat.blt ids.length 10000&&(vs++caps).all (SV.closed ids)) with
   |false=>rw [de] at hv;cases hv
   |true=>
   simp only [de,cond_true] at hv;have Rb:=de;simp only [Bool.and_eq_true] at Rb;obtain ⟨⟨Re,hlen⟩,Z5⟩:=Rb;have hlen:ids.length<10000:=by simpa [Nat.blt_eq] using hlen
   have kq:=nK Re;have Rm:(eM ids).map (·.1)=ids:=oP _ _ _;have vG:((eM ids).map (·.2)).Nodup:=pY _ 0 ids (by omega);have iW:∀id nm,(id,nm)∈eM ids→find (eM ids) id=some nm:=fun id nm hp=>iU (by rw [Rm];exact kq) hp
   have hswap:∀id nm,(id,nm)∈eM ids→find (swap (eM ids)) nm=some id:=fun id nm hp=>iU (by rw [Cj];exact vG) (BK hp)
   have hex:∀id∈ids,∃nm,(id,nm)∈eM ids:=fun id hid=>by
    rw [←Rm] at hid;obtain ⟨p,hp,rfl⟩:=List.mem_map.1 hid;exact ⟨p.2,hp⟩
   split at hv
   ·rename_i bU wj
    split at hv
    ·rename_i r' dP hr
     cases hs:(ng dP bU&&r'.ig) with
     |false=>rw [hs] at hv;cases hv
     |true=>
      rw [hs] at hv;simp only [cond_true,Option.some.injEq] at hv;subst hv;simp only [Bool.and_eq_true] at hs;have e:=Ca hs.1;subst e
      obtain ⟨back,hb,hg⟩:=DS (ids:=ids) (names:=(eM ids).map (·.2)) (ρ:=j5 (eM ids)) (ρ':=j5 (swap (eM ids))) (fun j hj=>by
       obtain ⟨nm,hp⟩:=hex j hj
       simp [j5,iW j nm hp,hswap j nm hp]) (fun j hj=>by
       obtain ⟨nm,hp⟩:=hex j hj;simp only [j5,iW j nm hp,Option.getD_some]
       exact List.mem_map.2 ⟨(j,nm),hp,rfl⟩) wj
      unfold gp;simp only [hf,hvs,mK,An,hm,de,cond_true,wj,hr,hb,hs.2];have e1:mu (ids.filter fun _=>false) st=st:=by
       have e0:(ids.filter fun _=>false)=[]:=List.filter_eq_nil_iff.2 (fun _ _=>by decide);rw [e0];rfl
      rw [e1]
      congr 2
      congr 1
      funext i
      cases MP:find back i with
      |none=>rfl
      |some o=>rw [hg i o MP];rfl
    ·cases hv
   ·cases hv
  ·cases hargs
 ·cases hv
theorem Fh (hR:Rel N w0 μ0 L μ loc st a w) (fm:eF L.q μ0 P bN) {o:Oper} {c:Call} {f:Operand} {r:AV} (hd:∀i,o.dst=some i→i<N) (ho:o.op= .call c) (hc:c.callee= .value f) (hst:o.dst.any h.stay.contains=true)
  (hv:lz P h bN st c f=some r) (hK:ku N w0 μ0 L (st.set o.dst (.pv r)) K):o.wp P a w K Q:=
 sw hR fm hd ho hc (Hr hst hv) hK
theorem Kx (hR:Rel N w0 μ0 L μ loc st a w) (fm:eF L.q μ0 P bN) {o:Oper} {v:SV} (hd:∀i,o.dst=some i→i<N) (hv:cM P h bN o st=some v) (hK:ku N w0 μ0 L (st.set o.dst v) K):o.wp P a w K Q:=by
 unfold cM at hv;split at hv
 ·rename_i t len parts ho
  cases hb:o.dst.any h.rows.contains with
  |true=>simp [hb] at hv
  |false=>
   simp only [hb,cond_false] at hv;cases hl:mo P t len parts.toList st with
   |none=>simp [hl] at hv
   |some x=>
    obtain ⟨e,s,xs⟩:=x;simp [hl] at hv;subst hv;exact Kv hR hd ho hl hK
 ·rename_i c ho
  split at hv
  ·rename_i f hc
   cases hro:(o.dst.any h.stay.contains&&wide st c f) with
   |true=>
    rw [hro] at hv;simp only [cond_true,Option.map_eq_some_iff] at hv;obtain ⟨r,hr,rfl⟩:=hv;rw [Bool.and_eq_true] at hro;exact Fh hR fm hd ho hc hro.1 hr hK
   |false=>
   rw [hro] at hv
   replace hv:=yw hv
   split at hv
   ·rename_i g caps vs hf hvs
    split at hv
    ·rename_i r hr
     cases hp:((!(c.args.toList.any (j7 st))||r.plain)&&r.ig) with
     |true=>
      simp only [hp,cond_true,Option.some.injEq] at hv;subst hv;rw [Bool.and_eq_true] at hp;exact A7 hR fm hd ho hc hf hvs hr (by rw [Bool.or_comm];exact hp.1) hp.2 hK
     |false=>rw [hp] at hv;cases hv
    ·cases hv
   ·cases hv
  ·exact kM hR hd (zB hR ho hv) hK
 ·rename_i t x k ok ho
  exact kM hR hd (oa hR (yw hv)) hK
 ·exact kM hR hd (oa hR (yw hv)) hK
 ·rename_i g first caps ho
  cases MP:first.isEmpty with
  |false=>simp [MP] at hv
  |true=>
   simp only [MP,cond_true] at hv;have hf0:first= #[]:=by simpa using MP
   have run:(execOp a.eval o).run P w= .ok (.value (.func (.func g) #[] (caps.toList.map a.eval).toArray)) w:=by
    unfold execOp;rw [ho,hf0];have e:caps.map a.eval=(caps.toList.map a.eval).toArray:=by rw [←Array.toList_map]
    simp [Instr.makeFunc,e]
   cases hby:o.dst.any h.bg.contains with
   |true=>
    simp only [hby,cond_true] at hv;cases hcs:pK st caps.toList with
    |none=>simp [hcs] at hv
    |some vs=>
     simp [hcs] at hv;subst hv;exact kM hR hd ⟨_,run,(show cW μ loc (.cl g vs) _ from ⟨_,rfl,Fk hR hcs⟩)⟩ hK
   |false=>
   simp only [hby,cond_false] at hv;cases hcs:mE st caps.toList with
   |none=>simp [hcs] at hv
   |some vs=>
    simp [hcs] at hv;subst hv;have hall:=vQ hR hcs;refine kM hR hd ⟨_,run,?_⟩ hK;show rep μ (.fn g vs) _;rw [rep];exact ⟨_,rfl,hall⟩
 ·rename_i x ho
  have key:cR P o st=some v:=by
   split at hv
   ·rename_i hp;exact hp.trans (yw hv)
   ·rename_i hp;exact hp.trans (yw hv)
   ·exact hv
  exact kM hR hd (oa hR key) hK
 ·exact kM hR hd (oa hR hv) hK
theorem Ow (hR:Rel N w0 μ0 L μ loc st a w) (fm:eF L.q μ0 P bN) {o:Oper} (hd:∀i,o.dst=some i→i<N) (hv:mS P h bN o st=some st') (hK:ku N w0 μ0 L st' K):o.wp P a w K Q:=by
 unfold mS at hv;split at hv
 ·rename_i d cK ho
  split at hv
  ·rename_i e s hs
   split at hv
   ·injection hv with hv;subst hv
    exact Ui hR (hd d cK) cK ho hK
   ·cases hv
  ·cases hv
 ·rename_i d x hnc cK ho
  split at hv
  ·rename_i id hx
   split at hv
   ·rename_i st1 hp
    split at hv
    ·rename_i v YR
     injection hv with hv;subst hv
     obtain ⟨μ1,_,h1⟩:=hR.cQ hp;exact kM h1 hd (u7 h1 (.inr ho) YR) (by rw [cK];exact hK)
    ·cases hv
   ·cases hv
  ·cases hv
 ·rename_i d t x cK ho
  split at hv
  ·rename_i cs hx hagg
   injection hv with hv;subst hv
   have qW:=bf hR hx;simp only [cW,rep] at qW;obtain ⟨vs,qW,hall,hone⟩:=qW;refine vS (v:= .agg vs.toArray) hR (hd d cK) cK ?_ (by simpa [Value.cells] using mA hall) (by simpa [Value.cells] using hone) hK;unfold execOp;rw [ho];simp [Instr.box,newVar,newRow,qW,Value.cells]
  ·rename_i cs hx hagg
   cases hm:(SV.ag cs).mentions d with
   |true=>rw [hm] at hv;cases hv
   |false=>
   rw [hm] at hv;simp only [cond_false,Option.some.injEq] at hv;subst hv;have qW:=Je (x:= .pointer (some ⟨w.heap.size,0,none⟩)) hm (bf hR hx);obtain ⟨vs,qW,hall,hone⟩:=qW;refine vS (v:= .agg vs.toArray) hR (hd d cK) cK ?_ (by simpa [Value.cells] using qP hall) (by simpa [Value.cells] using hone) hK;unfold execOp;rw [ho];simp [Instr.box,newVar,newRow,qW,Value.cells]
  ·rename_i v hnot hx hagg
   split at hv
   ·rename_i hone
    injection hv with hv;subst hv
    have qW:=bf hR hx;obtain ⟨h1,hc1⟩:=LS hR hone qW;refine vS (v:=a.eval x) hR (hd d cK) cK ?_ (by rw [hc1];exact ⟨_,[],rfl,rG qW,rfl⟩) (by rw [hc1];simpa using h1) hK;unfold execOp;rw [ho];simp [Instr.box,newVar,newRow]
   ·cases hv
  ·cases hv
 ·rename_i d t cK ho
  cases hrw:h.rows.contains d with
  |true=>
   rw [hrw] at hv;simp only [cond_true] at hv;split at hv
   ·rename_i G5 l hz
    injection hv with hv;subst hv
    exact C8 hR (hd d cK) cK ho hz hK
   ·cases hv
  |false=>
  rw [hrw] at hv;simp only [cond_false] at hv;split at hv
  ·rename_i z hz
   injection hv with hv;subst hv
   obtain ⟨i,v,hi,hzv,hc⟩:=jE (μ:=μ) hz;refine vS (v:=v) hR (hd d cK) cK ?_ (mA hc.1) hc.2 hK;unfold execOp;rw [ho];simp [Instr.alloc,zeroValue,typeInfo,hi,hzv,newVar,newRow]
  ·cases hv
 ·rename_i d t l c cK ho
  split at hv
  ·rename_i e s kl nl kc nc hs hl hc
   split at hv
   ·rename_i z i hz hi
    split at hv
    ·rename_i de
     injection hv with hv;subst hv
     exact Qw hR (hd d cK) cK ho hs hl hc hz hi de hK
    ·cases hv
   ·cases hv
  ·cases hv
 ·rename_i d t len parts cK ho
  split at hv
  ·rename_i e s xs hl
   injection hv with hv;subst hv
   exact Fo hR (hd d cK) cK ho hl hK
  ·cases hv
 ·rename_i t x y cK ho
  split at hv
  ·rename_i sa sv hx hy
   exact Ox hR cK ho hx hy hv hK
  ·cases hv
 ·rename_i d t r cK ho
  split at hv
  ·rename_i k e hu
   cases hb:nw P st r with
   |false=>rw [hb] at hv;cases hv
   |true=>
    rw [hb] at hv;simp only [cond_true] at hv;cases hrw:h.rows.contains d with
    |true=>
     rw [hrw] at hv;simp only [cond_true] at hv;split at hv
     ·split at hv
      ·injection hv with hv;subst hv
       exact Kn hR (hd d cK) cK ho hu hb hK
      ·cases hv
     ·cases hv
    |false=>
    rw [hrw] at hv;simp only [cond_false,Option.some.injEq] at hv;subst hv;exact HB hR (hd d cK) cK ho hu hb hK
  ·cases hv
 ·rename_i t m k x cK ho
  cases hrm:jo h m with
  |true=>rw [hrm] at hv;exact HC hR cK (.inl ho) hv hK
  |false=>rw [hrm] at hv;exact vT hR cK (.inl ho) hv hK
 ·rename_i t m k x cK ho
  cases hrm:jo h m with
  |true=>rw [hrm] at hv;exact HC hR cK (.inr ho) hv hK
  |false=>rw [hrm] at hv;exact vT hR cK (.inr ho) hv hK
 ·rename_i d t m k cK ho
  cases hrm:jo h m with
  |true=>rw [hrm] at hv;exact Ot hR (hd d cK) cK ho hv hK
  |false=>rw [hrm] at hv;cases hv
 ·rename_i d t x cK ho
  split at hv
  ·rename_i s ht hx
   injection hv with hv;subst hv
   exact Ov hR (hd d cK) cK ho ht hx hK
  ·cases hv
 ·rename_i d x cK ho
  split at hv
  ·rename_i id hx
   split at hv
   ·rename_i s pos cU
    refine Qx hR (hd d cK) cK ho hx cU ?_;split at hv
    ·rename_i hp
     injection hv with hv;subst hv
     rw [if_pos hp];exact hK
    ·rename_i hp
     injection hv with hv;subst hv
     rw [if_neg hp];exact hK
   ·cases hv
  ·cases hv
 ·rename_i d t parts cK ho
  cases hrw:h.rows.contains d with
  |false=>rw [hrw] at hv;cases hv
  |true=>rw [hrw] at hv;exact Da hR (hd d cK) cK ho hv hK
 ·rename_i d g first caps cK ho
  cases MP:first.isEmpty with
  |false=>rw [MP] at hv;cases hv
  |true=>
   rw [MP] at hv;simp only [cond_true] at hv;split at hv
   ·rename_i st1 hp
    simp only [Option.map_eq_some_iff] at hv;obtain ⟨vs,hcs,rfl⟩:=hv;exact Fq hR (hd d cK) cK ho MP hp hcs hK
   ·cases hv
 ·rename_i d c ho
  split at hv
  ·rename_i hc
   split at hv
   ·rename_i d' x y t t' cK hargs wk
    split at hv
    ·rename_i e s id sy hs hx hy
     split at hv
     ·rename_i e' sz xs sz' ys i cU hel hi
      split at hv
      ·rename_i de
       obtain ⟨rfl,rfl,rfl,rfl,hpos,hby,hlen,hz,mK⟩:=de;injection hv with hv;subst hv
       have ho':o.op= .call { callee:= .builtin .append,args:= #[x,y],argTypes:= #[t,t] }:=by
        rw [ho];obtain ⟨cal,⟨as⟩,⟨ts⟩⟩:=c;simp only at hc hargs wk;subst hc;subst hargs;subst wk;rfl
       refine Kl hR (hd d' cK) cK ho' hs hx hy cU hel hi hpos hby hlen hz ?_ hK;simp only [lQ,Bool.or_eq_true] at mK;rcases mK with hm|hm
       ·left;simpa [Nat.blt_eq] using hm
       ·right;exact Nat.le_of_ble_eq_true (Bool.and_eq_true _ _▸hm).1
      ·cases hv
     ·cases hv
    ·cases hv
   ·cases hv
  ·rename_i hc
   split at hv
   ·rename_i m k t ts cK hargs wk
    exact Km hR cK ho hc hargs wk hv hK
   ·cases hv
  ·rename_i hc
   split at hv
   ·rename_i x t cK hargs wk
    split at hv
    ·rename_i e s id sz lo hi hs hx
     split at hv
     ·rename_i e' sz' xs z cU hz
      split at hv
      ·rename_i de
       injection hv with hv;subst hv
       exact Oq hR cK ho hc hargs wk hs hx cU hz de hK
      ·cases hv
     ·cases hv
    ·cases hv
   ·cases hv
  ·rename_i f hc
   replace hv:=yw hv
   cases hw:wide st c f with
   |true=>
    simp only [hw,cond_true] at hv;exact sw hR fm hd ho hc hv hK
   |false=>
   simp only [hw,cond_false] at hv;cases gw:c.args.toList.any (fun x=>(ji h st x).isSome) with
   |true=>
    simp only [gw,cond_true] at hv;exact C6 hR fm hd ho hc hv hK
   |false=>
   simp only [gw,cond_false] at hv;split at hv
   ·rename_i st1 hp
    split at hv
    ·rename_i g caps vs hf hvs
     split at hv
     ·rename_i r hr
      cases Am:(c.args.toList.any (j7 st1)|| !r.ig) with
      |true=>rw [Am] at hv;cases hv
      |false=>
       simp only [Am,cond_false,Option.some.injEq] at hv;subst hv;obtain ⟨μ1,h1⟩:=yG hR hp;rw [Bool.or_eq_false_iff] at Am;exact A7 h1 fm hd ho hc hf hvs hr (by simp [Am.1]) (by simpa using Am.2) hK
     ·cases hv
    ·cases hv
   ·cases hv
  ·cases hv
 ·cases hv
theorem Cg (hR:Rel N w0 μ0 L μ loc st a w) (fm:eF L.q μ0 P bN) {o:Oper} (hd:∀i,o.dst=some i→i<N) (hv:step P h bN o st=some st') (hK:ku N w0 μ0 L st' K):o.wp P a w K Q:=by
 unfold step at hv;split at hv
 ·rename_i v hf
  injection hv with hv;subst hv
  exact Kx hR fm hd hf hK
 ·exact Ow hR fm hd hv hK
theorem rR (hR:Rel N w0 μ0 L μ loc st a w) {ops:Array Oper} {o:Oper} {b:Bool} (hw:fC ops o st=some b):Region.wanted o (yielded ops a.tmps)=b:=by
 unfold fC at hw;unfold Region.wanted;split at hw
 ·rename_i hg;injection hw with hw;subst hw;rw [hg]
 ·rename_i j want hg
  rw [hg];simp only;split at hw
  ·rename_i d cK
   split at hw
   ·rename_i t ht
    injection hw with hw;subst hw
    obtain ⟨v,hv,hr⟩:=hR.env d _ ht;simp only [cW,rep] at hr;subst hr;simp [yielded,cK,hv]
   ·rename_i ht
    injection hw with hw;subst hw
    obtain ⟨v,hv,hr⟩:=hR.env d _ ht;have hr:v=undef:=hr;subst hr;simp [yielded,cK,hv,undef]
   ·cases hw
  ·cases hw
theorem xb (fm:eF L.q μ0 P bN) {ops:Array Oper}:∀{l:List Oper} {st:St} {μ:Mu} {loc:Nat→Value} {a:Act} {w:World},Rel N w0 μ0 L μ loc st a w→(∀o∈l,∀i,o.dst=some i→i<N)→jq P h bN ops l st=some st'→
  (∀a' w' μ' loc',Rel N w0 μ0 L μ' loc' st' a' w'→Q .normal a' w')→wpList P ops Q l a w:=by
 intro l
 induction l with
 |nil=>
  intro st μ loc a w hR _ hv hQ;simp only [jq,Option.some.injEq] at hv;subst hv;exact hQ _ _ _ _ hR
 |cons o l ih=>
  intro st μ loc a w hR hd hv hQ;simp only [jq] at hv;split at hv
  ·rename_i b hw
   have Iq:=rR hR hw;unfold wpList;rw [Iq];cases b with
   |true=>
    simp only [cond_true] at hv;simp only [if_true];cases hs:step P h bN o st with
    |none=>simp [hs] at hv
    |some st1=>
     simp [hs] at hv;exact .inl (Cg hR fm (hd o (by simp)) hs (fun a' w' μ' loc' h1=>ih h1 (fun p hp=>hd p (by simp [hp])) hv hQ))
   |false=>
    simp only [cond_false] at hv;simp only [Bool.false_eq_true,if_false];exact ih (hR.set (hd o (by simp)) (show cW μ loc .undef undef from rfl)) (fun p hp=>hd p (by simp [hp])) hv hQ
  ·cases hv
end
end Go.AM
