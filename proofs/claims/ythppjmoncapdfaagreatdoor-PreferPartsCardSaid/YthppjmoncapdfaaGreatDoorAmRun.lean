/- THE ABSTRACT MACHINE. -/
import Derived.Test.YthppjmoncapdfaaGreatDoorAmEff
set_option linter.unusedVariables false
set_option linter.unusedSimpArgs false
namespace Go.AM
open Go.RowKit
def BU (μ:Mu) (w:World):Prop:=∀b j v,μ b j=some v→yS w b j=some v
def fL (q:Qp) (loc:Nat→Value) (names:List Nat):mG:=⟨fun id=>if id∈names then some (loc id) else none,q⟩
def NC (loc:Nat→Value) (bT:List (Nat×Ob)):Prop:=∀i j oi oj,find bT i=some oi→find bT j=some oj→i≠j→∀g,fE (loc i) g→¬fE (loc j) g
structure dM (q:Qp) (μ:Mu) (loc:Nat→Value) (names:List Nat) (r:AV) (dO:List (Nat×Ob)) (w:World) (v:Value) (μ':Mu) (loc':Nat→Value) (w':World):Prop where
 ext:μ.ext w.heap.size μ'
 oZ:BU μ' w'
 res:rep μ' r v∨(∃n A m c,r= .self n∧10000∈names∧loc' 10000= .slice A m c∧n≤m∧v= .slice A n c)∨
  ∃e sz xs vs,r= .dI [.dI [.self e, .aW sz xs]]∧w'.ownsRow 0 e sz v xs.length vs∧bZ μ' sz xs vs∧∀g,aU v=some g→w.heap.size≤g∧(∀j,μ' g j=none)∧∀id o,find dO id=some o→¬fE (loc' id) g
 obs:∀id o,find dO id=some o→ig w.heap.size (fL q loc names) μ' loc' w' id o
 apart:NC loc' dO
 keep:∀b,b<w.heap.size→¬E6 (fL q loc names) b→w'.heap[b]? =w.heap[b]?
 fix:∀id,id∈names→id<20000→loc' id=loc id
 os:w'.os=w.os
 tape:w'.tape=w.tape
 output:w'.output=w.output
 grown:w.heap.size≤w'.heap.size
 drawn:q→w.drawn≤w'.drawn
theorem dM.pure {q:Qp} {μ:Mu} {loc:Nat→Value} {names:List Nat} {r:AV} {dO:List (Nat×Ob)} {w:World} {v:Value} {μ':Mu} {loc':Nat→Value} {w':World} (h:dM q μ loc names r dO w v μ' loc' w') (hn:r.gu=true):rep μ' r v:=by
 rcases h.res with h|⟨n,A,m,c,rfl,_⟩|⟨e,sz,xs,vs,rfl,_⟩
 ·exact h
 ·cases hn
 ·cases hn
theorem G8 {r:AV} (h:r.plain=true):r.gu=true:=by
 cases r with
 |self n=>cases h
 |dI vs=>
  have:vs.any AV.SG=false:=by
   rw [List.any_eq_false];intro x hx ht;have:=List.all_eq_true.1 (h:vs.all AV.scalar=true) x hx;cases x<;>simp [AV.SG,AV.scalar] at ht this
  simp [AV.gu,this]
 |_=>rfl
def BV (P:Program) (u:Value) (args:Array Value) (w:World) (R:Ending→World→Prop):Prop:=
 ∃(l:Nat) (f:FuncId) (tmps:Array Value) (assign body:Code),u= .func (.yield l) #[] #[]∧(Instr.yield l args).run P w= .ok (.round l f tmps assign body) w∧∀F,Wd F→RoundIn F (0-1) P l f tmps assign body w R
def dL (q:Qp) (B:Mu) (P:Program) (aZ:cL):Prop:=∀g args bT r dO,aZ g args bT=some (r,dO)→∀(w:World) (μ:Mu) (loc:Nat→Value) (us:List Value),B.le μ→BU μ w→
 (∀id o,find bT id=some o→ig w.heap.size (fL q loc (bT.map (·.1))) μ loc w id o)→NC loc bT→eM μ loc args us→
 (g<2000000∧(∀w2,(callFunc g us.toArray).run P w2= .ok (.enter g us.toArray) w2)∧
  Calls P g us.toArray w fun e w'=>∃v μ' loc',e= .returned v∧dM q μ loc (bT.map (·.1)) r dO w v μ' loc' w')∨
 (2000000≤g∧(∃xs,find bT 10000=some (.lp xs))∧∃as v,us=as++[v]∧
  BV P (Ws g [v]) as.toArray w fun e w'=>∃v μ' loc',e= .returned v∧dM q μ loc (bT.map (·.1)) r dO w v μ' loc' w')
theorem dL.Zv {A B C R:Prop} {bT:List (Nat×Ob)} {D:Prop} (h:(A∧B∧C)∨(D∧(∃xs,find bT 10000=some (.lp xs))∧R)) (hn:∀xs,find bT 10000≠some (.lp xs)):B∧C:=by
 rcases h with h|⟨_,⟨xs,h⟩,_⟩
 ·exact h.2
 ·exact absurd h (hn xs)
theorem dL.mono {q:Qp} {B B':Mu} {P:Program} {aZ:cL} (h:dL q B P aZ) (hB:B.le B'):dL q B' P aZ:=
 fun g args bT r dO hv w μ loc us hle=>h g args bT r dO hv w μ loc us (hB.trans hle)
section
variable {P:Program} {N:Nat} {w0:World} {μ0:Mu} {L:mG} {μ:Mu} {loc:Nat→Value} {st st':St} {a:Act} {w:World} {Q:Exit→Act→World→Prop} {K:Act→World→Prop} {h:Hint} {aZ:cL}
theorem uC {α:Type} {c:Bool} {x:Option α} {v:α} (h:(bif c then none else x)=some v):x=some v:=by
 cases c<;>simp_all
theorem gI {α:Type} {j i:Nat} {x v:α} (hf:find [(j,x)] i=some v):i=j:=by
 simp only [find] at hf;cases hb:Nat.beq j i with
 |true=>exact (beq_iff.1 hb).symm
 |false=>simp [hb] at hf
theorem ql (hR:Rel N w0 μ0 L μ loc st a w) {μ':Mu} (hle:μ.le μ'):∀{cs:List jJ} {vs:List AV} {us:List Value},fJ st cs=some vs→fU μ loc cs us→
  (∀id,jJ.r id∈cs→∀b j x,fE (loc id) b→yS w b j=some x→μ' b j=some x)→br μ' vs us
 |[],vs,us,h,k,_=>by
  simp only [fJ,Option.some.injEq] at h;subst h;have:us=[]:=k;subst this;exact cK
 | .v a::cs,vs,us,h,⟨u,us',e,h1,h2⟩,hr=>by
  subst e;simp only [fJ,Option.map_eq_some_iff] at h;obtain ⟨vs',hv,rfl⟩:=h;exact bI (qw hle _ _ h1) (ql hR hle hv h2 fun id hi=>hr id (by simp [hi]))
 | .r id::cs,vs,us,h,⟨u,us',e,h1,h2⟩,hr=>by
  subst e;simp only [fJ] at h;split at h
  ·rename_i v vs' hv hvs
   injection h with h;subst h
   obtain ⟨ob,cu,hval⟩:=Option.bind_eq_some_iff.1 hv;refine bI ?_ (ql hR hle hvs h2 fun id hi=>hr id (by simp [hi]));have e:u=cV (loc id):=h1;rw [e];exact IB (hR.obs id _ cu) hval hle (fun b j x hb hc=>hr id (by simp) b j x hb hc)
  ·cases h
 | .p id::cs,vs,us,h,_,_=>by simp [fJ] at h
theorem MR (hR:Rel N w0 μ0 L μ loc st a w) {s:SV} {v:AV} {u:Value} (hl:ic st s=some v) (hs:c8 μ loc s u) {μ':Mu} (hle:μ.le μ')
  (hrow:∀id∈s.Hv,∀b j x,fE (loc id) b→yS w b j=some x→μ' b j=some x):rep μ' v u:=by
 cases s with
 |pv x=>simp only [ic,Option.some.injEq] at hl;subst hl;exact qw hle _ _ hs
 |row id=>
  simp only [ic] at hl;obtain ⟨ob,cu,hval⟩:=Option.bind_eq_some_iff.1 hl;have e:u=cV (loc id):=hs;rw [e];exact IB (hR.obs id _ cu) hval hle (fun b j x hb hc=>hrow id (by simp [SV.Hv,SV.ids]) b j x hb hc)
 |ag cs=>
  simp only [ic,Option.map_eq_some_iff] at hl;obtain ⟨vs,hv,rfl⟩:=hl;obtain ⟨us,rfl,hc,h1⟩:=hs;rw [rep];exact ⟨us,rfl,ql hR hle hv hc (fun id hi=>hrow id (List.mem_filterMap.2 ⟨_,hi,rfl⟩)),h1⟩
 | «at» id q=>
  cases q with
  |full=>simp [ic] at hl
  |nr i=>
   simp only [ic] at hl;split at hl
   ·rename_i e sz k e' s' xs ys cu
    split at hl
    ·rename_i zs hy
     injection hl with hl;subst hl
     obtain ⟨m,us,vs,Bi,hm,hown,hrc,hk,h2,h3,h4,h5,h6,h7⟩:=hR.obs id _ cu;obtain ⟨u',cells,k1,k2,k3,k4,k5⟩:=h4 i zs hy;obtain ⟨m',us',e1,_,e3⟩:=hs;rw [Bi] at e1;have e':=congrArg Array.toList (Value.tuple.inj e1);simp only [List.cons.injEq] at e';obtain ⟨rfl,rfl⟩:=e';have hu:u'=u:=by
      rcases e3 u' k1 with e3|e3
      ·subst e3;rcases k3.2 with ⟨e1,_⟩|⟨g,cap,cur,e1,_⟩<;>simp [undef] at e1
      ·exact e3
     subst hu;exact uO k3 k4 hle (fun b j v hb=>hrow id (by simp [SV.Hv]) b j v (by rw [Bi];exact fP.2 (.inr ⟨_,List.mem_of_getElem? k1,hb⟩)))
    ·cases hl
   ·cases hl
 |_=>simp [ic] at hl
theorem ux {id:Nat}:∀{cs:List jJ} {vs:List AV},fJ st cs=some vs→id∈(SV.ag cs).ids→∃ob,st.ob id=some ob
 |[],_,_,h=>by simp [SV.ids] at h
 | .v a::cs,vs,h,hi=>by
  simp only [fJ,Option.map_eq_some_iff] at h;obtain ⟨vs',hv,rfl⟩:=h;exact ux hv (by simpa [SV.ids] using hi)
 | .r j::cs,vs,h,hi=>by
  simp only [fJ] at h;split at h
  ·rename_i v vs' hv hvs
   simp only [SV.ids,List.filterMap_cons,List.mem_cons] at hi;rcases hi with rfl|hi
   ·obtain ⟨ob,cu,_⟩:=Option.bind_eq_some_iff.1 hv;exact ⟨ob,cu⟩
   ·exact ux hvs (by simpa [SV.ids] using hi)
  ·cases h
 | .p j::cs,vs,h,_=>by simp [fJ] at h
theorem VG {s:SV} {v:AV} (h:ic st s=some v) {id:Nat} (hi:id∈s.Hv):∃ob,st.ob id=some ob:=by
 cases s with
 |pv x=>simp [SV.Hv,SV.ids] at hi
 |row j=>
  simp only [SV.Hv,SV.ids,List.mem_singleton] at hi;subst hi;obtain ⟨ob,cu,_⟩:=Option.bind_eq_some_iff.1 (h:(st.ob id).bind Ob.val=some v);exact ⟨ob,cu⟩
 |ag cs=>
  simp only [ic,Option.map_eq_some_iff] at h;obtain ⟨vs,hv,_⟩:=h;exact ux hv hi
 | «at» j q=>
  simp only [SV.Hv,List.mem_singleton] at hi;subst hi;cases q with
  |full=>simp [ic] at h
  |nr i=>
   simp only [ic] at h;split at h
   ·rename_i cu;exact ⟨_,cu⟩
   ·cases h
 |_=>simp [ic] at h
theorem vM (hR:Rel N w0 μ0 L μ loc st a w) {μ':Mu} (hle:μ.le μ') {xs:List Operand} {ts:List TypeId} {vs:List AV} (h:fq P st xs ts=some vs)
  (hrow:∀x∈xs,∀t s v,aR P t st x=some s→ic st s=some v→∀id∈s.Hv,∀b j x,fE (loc id) b→yS w b j=some x→μ' b j=some x):br μ' vs (xs.map a.eval):=by
 induction xs generalizing ts vs with
 |nil=>simp [fq] at h;subst h;exact cK
 |cons x xs ih=>
  simp only [fq] at h;split at h
  ·rename_i v vs' hv hvs
   injection h with h;subst h
   cases ho:aR P (ts.headD 0) st x with
   |none=>rw [ho] at hv;cases hv
   |some sv=>
    rw [ho] at hv;simp only [Option.bind_some] at hv;exact bI (MR hR hv (aI hR ho) hle (hrow x (by simp) _ sv _ ho hv)) (ih hvs (fun y hy=>hrow y (by simp [hy])))
  ·cases h
theorem Qa {μ μ':Mu} {r:AV} {v:Value} (h:r.plain=true) (k:rep μ r v):rep μ' r v:=by
 have sc:∀(r:AV) (v:Value),r.scalar=true→rep μ r v→rep μ' r v:=fun r v h k=>by
  cases r<;>simp [AV.scalar] at h<;>simpa [rep] using k
 cases r with
 |dI vs=>
  rw [rep] at k⊢;obtain ⟨us,e,hall⟩:=k;refine ⟨us,e,?_⟩;simp only [AV.plain] at h;clear e
  induction vs generalizing us with
  |nil=>simpa [br] using hall
  |cons x xs ih=>
   rw [br] at hall;obtain ⟨u,us',rfl,h1,h2⟩:=hall;simp only [List.all_cons,Bool.and_eq_true] at h;exact bI (sc _ _ h.1 h1) (ih h.2 us' h2)
 |bool b=>exact sc _ _ rfl k
 |int b n=>exact sc _ _ rfl k
 |str s=>exact sc _ _ rfl k
 |aW sz xs=>simp [AV.plain,AV.scalar] at h
 |agg cs=>simp [AV.plain,AV.scalar] at h
 |fn f caps=>simp [AV.plain,AV.scalar] at h
 |ref cs=>simp [AV.plain,AV.scalar] at h
 |mp ks es=>simp [AV.plain,AV.scalar] at h
 |self n=>simp [AV.plain,AV.scalar] at h
 |tX=>simp [AV.plain,AV.scalar] at h
 |lE=>simp [AV.plain,AV.scalar] at h
 |hole=>simp [AV.plain,AV.scalar] at h
theorem xI {μ':Mu} {loc':Nat→Value} {r:AV} {dO:List (Nat×Ob)} {u:Value} {w':World} {q:Qp} (hP:dM q μ loc [] r dO w u μ' loc' w'):Below w.heap.size w w':=
 ⟨hP.os,hP.tape,hP.output,hP.grown,fun b hb=>hP.keep b hb (by rintro ⟨id,v,h,_⟩;simp [fL] at h)⟩
theorem BK {o:Oper} {c:Call} {f:Operand} {g:Nat} {us caps:List Value} {r:AV} {dO:List (Nat×Ob)} (ho:o.op= .call c) (hc:c.callee= .value f) (hf:a.eval f= .func (.func g) #[] caps.toArray)
  (lI:c.args.toList.map a.eval=us) (he:∀w2,(callFunc g (us++caps).toArray).run P w2= .ok (.enter g (us++caps).toArray) w2)
  {R:Value→World→Prop} (eH:Calls P g (us++caps).toArray w fun e w'=>∃v,e= .returned v∧R v w') (hK:∀v w',R v w'→K (a.put o.dst v) w'):o.pE P a w K Q:=by
 have hargs:c.args.map a.eval=us.toArray:=by rw [←lI,←Array.toList_map]
 refine D4 (fun c' Bq=>by rw [ho] at Bq;cases Bq) (x:= .enter g (us++caps).toArray) (w':=w) ?_ fun F hF=> ?_
 ·unfold execOp
  rw [ho];simp only [resolve,hc,hf,Deferred.ofValue,invoke,Sem.run_bind,Sem.run_pure,Result.andThen_ok,hargs];have e:(#[]++us.toArray)++caps.toArray=(us++caps).toArray:=by simp
  rw [e,he w]
 ·refine ⟨hF.one,?_⟩
  have h1:CallsIn Fence.wide (0-1) P g (us++caps).toArray w _:=callsIn_wide.2 eH;have h2:CallsIn F (0-1) P g (us++caps).toArray w (fun e w'=>∃v,e= .returned v∧R v w'):=by
   have:=hF;unfold Wd at this;rw [←this] at h1;exact h1
  refine h2.mono ?_
  rintro e w' ⟨v,rfl,hr⟩
  exact hK v w' hr
theorem Uq {o:Oper} {c:Call} {f:Operand} {g:Nat} {ps us caps:List Value} (ho:o.op= .call c) (hc:c.callee= .value f) (hf:a.eval f= .func (.func g) ps.toArray caps.toArray)
  (lI:c.args.toList.map a.eval=us) (he:∀w2,(callFunc g (ps++(us++caps)).toArray).run P w2= .ok (.enter g (ps++(us++caps)).toArray) w2)
  {R:Value→World→Prop} (eH:Calls P g (ps++(us++caps)).toArray w fun e w'=>∃v,e= .returned v∧R v w') (hK:∀v w',R v w'→K (a.put o.dst v) w'):o.pE P a w K Q:=by
 have hargs:c.args.map a.eval=us.toArray:=by rw [←lI,←Array.toList_map]
 refine D4 (fun c' Bq=>by rw [ho] at Bq;cases Bq) (x:= .enter g (ps++(us++caps)).toArray) (w':=w) ?_ fun F hF=> ?_
 ·unfold execOp
  rw [ho];simp only [resolve,hc,hf,Deferred.ofValue,invoke,Sem.run_bind,Sem.run_pure,Result.andThen_ok,hargs];have e:(ps.toArray++us.toArray)++caps.toArray=(ps++(us++caps)).toArray:=by simp
  rw [e,he w]
 ·refine ⟨hF.one,?_⟩
  have h1:CallsIn Fence.wide (0-1) P g (ps++(us++caps)).toArray w _:=callsIn_wide.2 eH;have h2:CallsIn F (0-1) P g (ps++(us++caps)).toArray w (fun e w'=>∃v,e= .returned v∧R v w'):=by
   have:=hF;unfold Wd at this;rw [←this] at h1;exact h1
  refine h2.mono ?_
  rintro e w' ⟨v,rfl,hr⟩
  exact hK v w' hr
theorem BV.mono {u:Value} {args:Array Value} {R R':Ending→World→Prop} (h:BV P u args w R) (hr:∀e w',R e w'→R' e w'):BV P u args w R':=by
 obtain ⟨l,f,tmps,assign,body,h1,h2,h3⟩:=h;exact ⟨l,f,tmps,assign,body,h1,h2,fun F hF=>(h3 F hF).mono hr⟩
theorem Ur {o:Oper} {c:Call} {f:Operand} (ho:o.op= .call c) (hc:c.callee= .value f) {R:Value→World→Prop}
  (hY:BV P (a.eval f) (c.args.toList.map a.eval).toArray w fun e w'=>∃v,e= .returned v∧R v w') (hK:∀v w',R v w'→K (a.put o.dst v) w'):o.pE P a w K Q:=by
 obtain ⟨l,g,tmps,assign,body,hf,hrun,wA⟩:=hY;have hargs:c.args.map a.eval=(c.args.toList.map a.eval).toArray:=by rw [←Array.toList_map]
 refine D4 (fun c' Bq=>by rw [ho] at Bq;cases Bq) (x:= .round l g tmps assign body) (w':=w) ?_ fun F hF=> ?_
 ·unfold execOp
  rw [ho];simp only [resolve,hc,hf,Deferred.ofValue,invoke,Sem.run_bind,Sem.run_pure,Result.andThen_ok,hargs];have e:(#[]:Array Value)++(c.args.toList.map a.eval).toArray=(c.args.toList.map a.eval).toArray:=by simp
  rw [e,hrun]
 ·refine ⟨hF.one,(wA F hF).mono ?_⟩
  rintro e w' ⟨v,rfl,hr⟩
  exact hK v w' hr
theorem Cz (hR:Rel N w0 μ0 L μ loc st a w) {f:Operand} {g:Nat} {caps:List AV} (h:aR P 0 st f=some (.pv (.fn g caps))):∃cs:List Value,a.eval f= .func (.func g) #[] cs.toArray∧br μ caps cs:=by
 have:=aI hR h;simp only [c8,rep] at this;exact this
theorem KG {x:Operand} (h:gx st x=false) {t:TypeId} {s:SV} {v:AV} (e:aR P t st x=some s) (hl:ic st s=some v):s.Hv=[]:=by
 cases x with
 |tmp i=>
  simp only [aR] at e;cases s with
  |pv x=>rfl
  |row j=>simp [gx,e] at h
  |ag cs=>simp [gx,e] at h
  | «at» j q=>simp [gx,e] at h
  |_=>simp [ic] at hl
 |const v=>
  simp only [aR] at e;cases hc:ofConst P t v<;>simp [hc] at e;subst e;rfl
 |func f=>simp [aR] at e;subst e;rfl
 |global g=>simp [aR] at e
theorem Cj (hR:Rel N w0 μ0 L μ loc st a w) (eH:dL L.q μ0 P aZ) {o:Oper} {c:Call} {f:Operand} {g:Nat} {caps vs:List AV} {r:AV} (hd:∀i,o.dst=some i→i<N) (ho:o.op= .call c) (hc:c.callee= .value f)
  (hf:aR P 0 st f=some (.pv (.fn g caps))) (hvs:fq P st c.args.toList c.argTypes.toList=some vs) (hr:aZ g ((vs++caps).map .pv) []=some (r,[]))
  (hp:(r.plain|| !(c.args.toList.any (gx st)))=true) (Ea:r.gu=true) (hK:iU N w0 μ0 L (st.set o.dst (.pv r)) K):o.pE P a w K Q:=by
 obtain ⟨cs,PD,hcs⟩:=Cz hR hf;cases xX:c.args.toList.any (gx st) with
 |false=>
  have hall:=vM hR (Mu.le.refl μ) hvs (fun x hx t s v e hl id hi=>by
   have:=KG (by
    have:=List.any_eq_false.1 xX x hx
    simpa using this) e hl
   rw [this] at hi;cases hi)
  obtain ⟨he,hC⟩:=dL.Zv (eH g _ [] r [] hr w μ loc (c.args.toList.map a.eval++cs) hR.base.1 hR.oZ (by simp [find]) (by intro i j oi oj hi;simp [find] at hi) (mq (jg hall hcs))) fun xs=>by simp [find]
  refine BK (R:=fun v w'=>∃μ' loc',dM L.q μ loc [] r [] w v μ' loc' w') (r:=r) (dO:=[]) ho hc PD rfl he (hC.mono ?_) ?_
  ·rintro e w' ⟨v,μ',loc',rfl,hP⟩
   exact ⟨v,rfl,μ',loc',hP⟩
  ·rintro v w' ⟨μ',loc',hP⟩
   exact hK _ _ _ _ ((hR.grow hP.ext hP.oZ (xI hP) hP.drawn).set hd (hP.pure Ea))
 |true=>
  have hplain:r.plain=true:=by simpa [xX] using hp
  let AD:Nat→Prop:=fun b=>∃id ob,st.ob id=some ob∧fE (loc id) b
  have:∀b,Decidable (AD b):=fun b=>Classical.propDecidable _
  let μ1:Mu:=fun b j=>if AD b then yS w b j else μ b j
  have hle:μ.le μ1:=fun b j v hv=>by
   by_cases hb:AD b
   ·obtain ⟨id,ob,cu,rC⟩:=hb
    have:=((hR.obs id _ cu).block b rC).2.2 j;rw [this] at hv;cases hv
   ·simpa [μ1,hb] using hv
  have CH:BU μ1 w:=fun b j v hv=>by
   by_cases hb:AD b
   ·simpa [μ1,hb] using hv
   ·exact hR.oZ b j v (by simpa [μ1,hb] using hv)
  have hall:=vM hR hle hvs (fun x hx t s v e hl id hi b j u hb hcell=>by
   obtain ⟨ob,cu⟩:=VG hl hi;have hrow:AD b:=⟨id,ob,cu,hb⟩
   simpa [μ1,hrow] using hcell)
  obtain ⟨he,hC⟩:=dL.Zv (eH g _ [] r [] hr w μ1 loc (c.args.toList.map a.eval++cs) (hR.base.1.trans hle) CH (by simp [find]) (by intro i j oi oj hi;simp [find] at hi) (mq (jg hall (dD hle _ _ hcs)))) fun xs=>by simp [find]
  refine BK (R:=fun v w'=>∃μ' loc',dM L.q μ1 loc [] r [] w v μ' loc' w') (r:=r) (dO:=[]) ho hc PD rfl he (hC.mono ?_) ?_
  ·rintro e w' ⟨v,μ',loc',rfl,hP⟩
   exact ⟨v,rfl,μ',loc',hP⟩
  ·rintro v w' ⟨μ',loc',hP⟩
   exact hK _ _ _ _ ((hR.JO (xI hP) hP.drawn).set (sv:= .pv r) hd (show rep μ r v from Qa hplain (hP.pure Ea)))
theorem xL (hR:Rel N w0 μ0 L μ loc st a w) {xs:List Operand} {vs:List AV} (h:oh st xs=some vs):br μ vs (xs.map a.eval):=by
 induction xs generalizing vs with
 |nil=>simp [oh] at h;subst h;exact cK
 |cons x xs ih=>
  cases x with
  |tmp i=>
   simp only [oh] at h;split at h
   ·rename_i v vs' hv hvs
    injection h with h;subst h
    obtain ⟨u,hu,hr⟩:=hR.env i _ hv;have:a.eval (.tmp i)=u:=by simp [Act.eval,hu]
    exact bI (by rw [this];exact hr) (ih hvs)
   ·rename_i cs vs' hv hvs
    injection h with h;subst h
    obtain ⟨u,hu,hr⟩:=hR.env i _ hv;have:a.eval (.tmp i)=u:=by simp [Act.eval,hu]
    obtain ⟨b,off,us,e,hc,hm⟩:=hr;exact bI (by rw [this,rep];exact ⟨b,off,us,e,hc.1,hc.2,hm⟩) (ih hvs)
   ·cases h
  |_=>simp [oh] at h
theorem xK (hR:Rel N w0 μ0 L μ loc st a w) {xs:List Operand} {cs:List jJ} (h:kU st xs=some cs):fU μ loc cs (xs.map a.eval):=by
 induction xs generalizing cs with
 |nil=>simp [kU] at h;subst h;rfl
 |cons x xs ih=>
  cases x with
  |tmp i=>
   simp only [kU] at h;split at h
   ·rename_i v vs' hv hvs
    injection h with h;subst h
    obtain ⟨u,hu,hr⟩:=hR.env i _ hv;have:a.eval (.tmp i)=u:=by simp [Act.eval,hu]
    exact ⟨_,_,rfl,by rw [this];exact hr,ih hvs⟩
   ·rename_i cs' vs' hv hvs
    injection h with h;subst h
    obtain ⟨u,hu,hr⟩:=hR.env i _ hv;have:a.eval (.tmp i)=u:=by simp [Act.eval,hu]
    obtain ⟨b,off,us,e,hc,hm⟩:=hr;refine ⟨_,_,rfl,?_,ih hvs⟩;show rep μ (.ref cs') _;rw [this,rep];exact ⟨b,off,us,e,hc.1,hc.2,hm⟩
   ·rename_i id vs' hv hvs
    injection h with h;subst h
    obtain ⟨u,hu,hr⟩:=hR.env i _ hv;have:a.eval (.tmp i)=u:=by simp [Act.eval,hu]
    obtain ⟨b,h1,h2⟩:=hr;exact ⟨_,_,rfl,⟨b,h1,by rw [this,h2]⟩,ih hvs⟩
   ·cases h
  |_=>simp [kU] at h
theorem F1 (hR:Rel N w0 μ0 L μ loc st a w) {o:Oper} {g:Nat} {first caps:Array Operand} {d:Nat} {vs:List AV} (hd:d<N) (cv:o.dst=some d) (ho:o.op= .makeFunc (.func g) first caps) (Oc:first.isEmpty=true)
  (hp:qU st caps.toList=some st') (hcs:oh st' caps.toList=some vs) (hK:iU N w0 μ0 L (st'.set (some d) (.pv (.fn g vs))) K):o.pE P a w K Q:=by
 obtain ⟨μ',hle,uo⟩:=Ew hR hR hp;have hall:=xL uo hcs;have hf0:first= #[]:=by simpa using Oc
 refine jH uo (fun i hi=>by rw [cv] at hi;injection hi with hi;subst hi;exact hd) ⟨.func (.func g) #[] (caps.toList.map a.eval).toArray,?_,?_⟩ (by rw [cv];exact hK)
 ·unfold execOp;rw [ho,hf0]
  have e:caps.map a.eval=(caps.toList.map a.eval).toArray:=by rw [←Array.toList_map]
  simp [Instr.makeFunc,e]
 ·show rep μ' (.fn g vs) _
  rw [rep];exact ⟨_,rfl,hall⟩
theorem yz (hR:Rel N w0 μ0 L μ loc st a w) {xs:List Operand} (h:iM.eE st xs=some st'):∃μ',Rel N w0 μ0 L μ' loc st' a w:=by
 induction xs generalizing st μ with
 |nil=>simp [iM.eE] at h;subst h;exact ⟨μ,hR⟩
 |cons x xs ih=>
  cases x with
  |tmp i=>
   simp only [iM.eE] at h;split at h
   ·rename_i id hi
    cases hp:st.cw id with
    |none=>simp [hp] at h
    |some st1=>
     simp [hp] at h;obtain ⟨μ1,_,h1⟩:=hR.cw hp;exact ih h1 h
   ·exact ih hR h
  |_=>simp only [iM.eE] at h;exact ih hR h
theorem zO (hR:Rel N w0 μ0 L μ loc st a w) {xs:List Operand} (h:iM.fk st xs=some st'):∃μ',Rel N w0 μ0 L μ' loc st' a w:=by
 unfold iM.fk at h;cases ha:xs.any (qz st) with
 |true=>rw [ha] at h;cases h
 |false=>rw [ha] at h;exact yz hR h
theorem Rel.ZG (hR:Rel N w0 μ0 L μ loc st a w) {id:Nat} {o:Ob} (hnone:st.ob id=none) (cu:ig w0.heap.size L μ loc w id o)
  (hap:∀j oj,st.ob j=some oj→∀g,fE (loc id) g→¬fE (loc j) g):Rel N w0 μ0 L μ loc { st with ob:=put st.ob id (some o) } a w:=by
 refine ⟨hR.small,hR.names,hR.fix,hR.size,hR.defers,hR.env,hR.oZ,hR.base,?_,?_,hR.keep,hR.os,hR.tape,hR.output,hR.grown,hR.drawn⟩
 ·intro i oi hi
  by_cases e:id=i
  ·subst e;simp only [bH,Option.some.injEq] at hi;subst hi;exact cu
  ·exact hR.obs i oi (by simpa only [aQ _ _ e] using hi)
 ·intro i j oi oj hi hj hij g hg
  by_cases ei:id=i
  ·subst ei
   simp only [aQ _ _ hij] at hj;exact hap j oj hj g hg
  ·simp only [aQ _ _ ei] at hi
   by_cases ej:id=j
   ·subst ej;intro hg';exact hap i oi hi g hg' hg
   ·simp only [aQ _ _ ej] at hj
    exact hR.apart i j oi oj hi hj hij g hg
theorem Ev (hR:Rel N w0 μ0 L μ loc st a w) {oG:Nat→Value}:∀{xs:List Operand} {ts:List TypeId} {vs:List SV} {ids:List Nat},vi P h st xs ts=some (vs,ids)→(∀id∈ids,oG 10000=loc id)→eM μ oG vs (xs.map a.eval):=by
 intro xs
 induction xs with
 |nil=>intro ts vs ids hv _;simp only [vi,Option.some.injEq,Prod.mk.injEq] at hv;obtain ⟨rfl,rfl⟩:=hv;rfl
 |cons x xs ih=>
  intro ts vs ids hv iB;simp only [vi] at hv;split at hv
  ·rename_i id vs' ids' ia uv
   simp only [Option.some.injEq,Prod.mk.injEq] at hv;obtain ⟨rfl,rfl⟩:=hv;refine ⟨_,_,rfl,?_,ih uv (fun i hi=>iB i (by simp [hi]))⟩;show a.eval x=cV (oG 10000);rw [iB id (by simp)];cases x with
   |tmp t=>
    simp only [jD] at ia;cases hb:h.aJ.contains t with
    |false=>rw [hb] at ia;cases ia
    |true=>
     simp only [hb,cond_true] at ia;split at ia
     ·rename_i id' he
      injection ia with ia;subst ia
      obtain ⟨v,hv,hr⟩:=hR.env t _ he;have:a.eval (.tmp t)=v:=by simp [Act.eval,hv]
      rw [this];exact hr
     ·cases ia
   |_=>simp [jD] at ia
  ·rename_i vs' ids' ia uv
   split at hv
   ·rename_i v hv1
    simp only [Option.some.injEq,Prod.mk.injEq] at hv;obtain ⟨rfl,rfl⟩:=hv;exact ⟨_,_,rfl,dr hR hv1,ih uv iB⟩
   ·cases hv
  ·cases hv
theorem Eh (hR:Rel N w0 μ0 L μ loc st a w) (eH:dL L.q μ0 P aZ) {o:Oper} {c:Call} {f:Operand} {st1:St} (hd:∀i,o.dst=some i→i<N) (ho:o.op= .call c) (hc:c.callee= .value f)
  (hv:jN P h aZ st c f o.dst=some st1) (hK:iU N w0 μ0 L st1 K):o.pE P a w K Q:=by
 unfold jN at hv;split at hv
 ·rename_i g caps vs id hf hvs
  split at hv
  ·rename_i e sz xs cu
   split at hv
   ·rename_i r' nm e' sz' xs' hr
    cases hb:(Nat.beq e e'&&Nat.beq sz sz'&&Nat.beq nm 10000) with
    |false=>simp [hb] at hv
    |true=>
     simp only [hb,cond_true] at hv;simp only [Bool.and_eq_true] at hb;obtain ⟨cs,PD,hcs⟩:=Cz hR hf
     let oG:Nat→Value:=fun _=>loc id
     have hok:=hR.obs id _ cu;have hargs:=Ev hR (oG:=oG) hvs (fun i hi=>by simp at hi;subst hi;rfl);have tL:∀i oi,find [(10000,Ob.row e sz xs)] i=some oi→ig w.heap.size (fL L.q oG ([(10000,Ob.row e sz xs)].map (·.1))) μ oG w i oi:=by
      intro i oi hi;simp only [find] at hi;cases hb':Nat.beq 10000 i with
      |false=>simp [hb'] at hi
      |true=>
       simp only [hb',cond_true,Option.some.injEq] at hi;subst hi;have:=beq_iff.1 hb';subst this;obtain ⟨us,hown,hrc,hm⟩:=hok;refine ⟨us,hown,hrc,fun q hq=>⟨.inr ⟨loc id,by simp [fL,oG],hq⟩,(hm q hq).2⟩⟩
     obtain ⟨he,hC⟩:=dL.Zv (eH g _ _ r' _ hr w μ oG (c.args.toList.map a.eval++cs) hR.base.1 hR.oZ tL (by
      intro i j oi oj hi hj hij;have h1:=gI hi;have h2:=gI hj
      omega) (iY hargs (mq hcs))) fun xs h=>by simp [find] at h
     refine BK (R:=fun v w'=>∃μ' loc',dM L.q μ oG ([(10000,Ob.row e sz xs)].map (·.1)) r' [(nm,Ob.row e' sz' xs')] w v μ' loc' w') (r:=r') (dO:=[]) ho hc PD rfl he (hC.mono ?_) ?_
     ·rintro e w' ⟨v,μ',loc',rfl,hP⟩
      exact ⟨v,rfl,μ',loc',hP⟩
     ·rintro v w' ⟨μ',loc',hP⟩
      have hlb:∀b,E6 (fL L.q oG ([(10000,Ob.row e sz xs)].map (·.1))) b→fE (loc id) b:=by
       rintro b ⟨i,x,hx,JP⟩
       simp only [fL] at hx;split at hx
       ·injection hx with hx;subst hx;exact JP
       ·cases hx
      have h1:=(hR.drop id).world (w':=w') (μ':=μ') hP.ext.1 (fun b j x hx=>by
        rcases hP.ext.2 b j x hx with hx|hx
        ·exact .inl hx
        ·exact .inr (Nat.le_trans hR.grown hx)) hP.oZ (fun k ok hk b hbk=>by
        by_cases e':id=k
        ·subst e';simp [bH] at hk
        ·simp only [aQ _ _ e'] at hk
         obtain ⟨_,hlt,oc⟩:=(hR.obs k ok hk).block b hbk;refine ⟨hP.keep b hlt (fun hl=>hR.apart id k _ ok cu hk e' b (hlb b hl) hbk),fun j=> ?_⟩;cases hj:μ' b j with
         |none=>rfl
         |some x=>
          rcases hP.ext.2 b j x hj with hx|hx
          ·rw [oc j] at hx;cases hx
          ·omega) (fun b hb' hl=>hP.keep b (Nat.lt_of_lt_of_le hb' hR.grown) (fun hl'=>by
        have hbb:=hlb b hl';rcases (hok.block b hbb).1 with hx|⟨x,hx,JP⟩
        ·omega
        ·exact hl ⟨id,x,hx,JP⟩)) hP.os hP.tape hP.output hP.grown hP.drawn
      have hnm:loc' nm=loc id:=by
       have:=beq_iff.1 hb.2;exact hP.fix nm (by simp [this]) (by omega)
      obtain ⟨us,hown,hrc,hm⟩:=hP.obs nm (.row e' sz' xs') (by simp [find,Nat.beq_refl]);rw [hnm] at hown hm;split at hv
      ·rename_i n
       cases CD:(Nat.ble n xs'.length&&eT id) with
       |false=>rw [CD] at hv;cases hv
       |true=>
       simp only [CD,cond_true,Option.some.injEq] at hv;subst hv;simp only [Bool.and_eq_true] at CD;have hnl:n≤xs'.length:=Nat.le_of_ble_eq_true CD.1;obtain ⟨A,m,cp,Vt,hnm',hvv⟩:∃A m cp,loc' 10000= .slice A m cp∧n≤m∧v= .slice A n cp:=by
        rcases hP.res with hx|⟨n',A,m,cp,e1,_,h1,h2,h3⟩|⟨_,_,_,_,e1,_⟩
        ·rw [rep] at hx;exact hx.elim
        ·injection e1 with e1;subst e1;exact ⟨A,m,cp,h1,h2,h3⟩
        ·cases e1
       have e10:=beq_iff.1 hb.2;rw [e10] at hnm;rw [hnm] at Vt;have hid:id<10000∨20000≤id:=by
        have qD:=CD.2;simp only [eT,Bool.or_eq_true] at qD;rcases qD with hm|hm
        ·left;simpa [Nat.blt_eq] using hm
        ·right;exact Nat.le_of_ble_eq_true (Bool.and_eq_true _ _▸hm).1
       have hblk:∀q,fE v q↔fE (loc id) q:=fun q=>by rw [hvv,Vt,eG,eG];cases A<;>rfl
       have h2:=h1.new (id:=id) (val:=v) (o:= .row e' sz' (xs'.take n)) hid ?_ (fun j oj hj hne q hq=>by
        simp only [aQ _ _ (Ne.symm hne)] at hj
        exact hR.apart id j _ oj cu hj (Ne.symm hne) q ((hblk q).1 hq))
       ·have heq:(St.new { env:=st.env,ob:=put st.ob id none } id (.row e' sz' (xs'.take n)))=st.new id (.row e' sz' (xs'.take n)):=by
         simp only [St.new,St.cn]
         congr 1
         funext k
         by_cases e':id=k
         ·subst e';simp [bH]
         ·simp only [aQ _ _ e']
        rw [heq] at h2;exact hK _ _ _ _ (h2.set hd (sv:= .row id) (Dy (by rw [hvv];rfl)))
       ·have hlen:(xs'.take n).length=n:=by simp;omega
        have Gg:=nH hrc n;refine ⟨us.take (n *sz'),⟨by rw [cg Gg],?_⟩,Gg,fun q hq=> ?_⟩
        ·rw [bN,hlen,hvv]
         rcases hown.2 with ⟨e1,e2⟩|⟨q,cap,cur,e1,k1,k2,k3,k4,k5,k6⟩
         ·rw [Vt] at e1
          simp only [Value.slice.injEq] at e1;obtain ⟨rfl,rfl,rfl⟩:=e1;have:n=0:=by omega
          subst this;exact .inl ⟨rfl,rfl⟩
         ·rw [Vt] at e1
          simp only [Value.slice.injEq] at e1;obtain ⟨rfl,rfl,rfl⟩:=e1;refine .inr ⟨q,cp,cur,rfl,k1,k2,by omega,k4,k5,?_⟩;rw [←k6,List.take_take,Nat.min_eq_left (Nat.mul_le_mul_right _ hnl)]
        ·rw [bN,hblk q] at hq
         exact ⟨(hok.block q hq).1,(hm q hq).2⟩
      ·rename_i Ea
       cases vh:r'.plain with
       |false=>rw [vh] at hv;cases hv
       |true=>
       simp only [vh,cond_true,Option.some.injEq] at hv;subst hv;have qE:ig w0.heap.size L μ' loc w' id (.row e' sz' xs'):=⟨us,hown,hrc,fun q hq=>⟨(hok.block q hq).1,(hm q hq).2⟩⟩
       have h2:=h1.ZG (id:=id) (o:= .row e' sz' xs') (by simp [bH]) qE (fun j oj hj q hq=>by
        by_cases e':id=j
        ·subst e';simp [bH] at hj
        ·simp only [aQ _ _ e'] at hj
         exact hR.apart id j _ oj cu hj e' q hq)
       have heq:({ env:=st.env,ob:=put (put st.ob id none) id (some (.row e' sz' xs')) }:St)={ env:=st.env,ob:=put st.ob id (some (.row e' sz' xs')) }:=by
        congr 1
        funext k
        by_cases e':id=k
        ·subst e';simp [bH]
        ·simp only [aQ _ _ e']
       rw [heq] at h2;exact hK _ _ _ _ (h2.set hd (hP.pure (G8 vh)))
   ·cases hv
  ·cases hv
 ·cases hv
theorem JF {n0:Nat} {TR:List (Nat×Nat×TypeId×Nat)} {id:Nat} {e:TypeId} {sz:Nat} {loc:Nat→Value}:∃val,cV val= .slice none 0 0∧(∀g,¬fE val g)∧ig n0 L μ (kT loc id val) w id (xV TR id e sz):=by
 have r:∃val,cV val= .slice none 0 0∧(∀g,¬fE val g)∧ig n0 L μ (kT loc id val) w id (.row e sz []):=
  ⟨.slice none 0 0,rfl,fun g hg=>by simp [fE,aU] at hg,[],⟨by simp, .inl ⟨bN _ _ _,rfl⟩⟩,rfl,fun g hg=>by rw [bN] at hg;simp [fE,aU] at hg⟩
 unfold xV;split
 ·rename_i k e' s' _
  cases hk:Nat.blt k sz with
  |false=>exact r
  |true=>
   refine ⟨.tuple (.slice none 0 0::([]:List Value)).toArray,rfl,fun g hg=> ?_, .slice none 0 0,[],[],bN _ _ _,fun q hq=>(by simp [aU] at hq),⟨by simp, .inl ⟨rfl,rfl⟩⟩,rfl,⟨Nat.blt_eq.mp hk,by simp⟩,rfl,rfl,by simp,by simp,by simp,by simp⟩;rcases fP.1 hg with h|⟨u,hu,_⟩
   ·simp [aU] at h
   ·simp at hu
 ·exact r
theorem nx (hR:Rel N w0 μ0 L μ loc st a w) {TR:List (Nat×Nat×TypeId×Nat)}:∀(l:List (Nat×TypeId×Nat)) (st:St) (loc:Nat→Value),Rel N w0 μ0 L μ loc st a w→(∀x∈l,x.1<10000)→
  ∃loc',Rel N w0 μ0 L μ loc' (oJ TR l st) a w∧(∀x∈l,cV (loc' x.1)= .slice none 0 0)∧∀i,cV (loc i)= .slice none 0 0→cV (loc' i)= .slice none 0 0
 |[],st,loc,h,_=>⟨loc,h,by simp,fun _ h=>h⟩
 |(id,e,s)::l,st,loc,h,hl=>by
  obtain ⟨val,hb,hin,hok⟩:=JF (L:=L) (μ:=μ) (w:=w) (n0:=w0.heap.size) (TR:=TR) (id:=id) (e:=e) (sz:=s) (loc:=loc);have h1:=h.new (id:=id) (val:=val) (o:=xV TR id e s) (.inl (hl (id,e,s) (by simp))) hok (fun j oj hj _ g hg=>absurd hg (hin g));obtain ⟨loc',h2,h3,h4⟩:=nx hR l _ _ h1 (fun x hx=>hl x (by simp [hx]));refine ⟨loc',h2,fun x hx=> ?_,fun i hi=>h4 i ?_⟩
  ·rcases List.mem_cons.1 hx with rfl|hx
   ·exact h4 _ (by rw [bN];exact hb)
   ·exact h3 x hx
  ·by_cases e:i=id
   ·subst e;rw [bN];exact hb
   ·rw [bQ _ _ e];exact hi
theorem q7 {d:Nat}:∀(j:Nat) (ts:List TypeId) (vs:List Value) (IQ:List SV) (l:List (Nat×TypeId×Nat)),oD P d j ts vs=some (IQ,l)→
  (∀x∈l,x.1<10000)∧(∀u∈vs,u.oneCell'=true)∧∀(loc:Nat→Value),(∀x∈l,cV (loc x.1)= .slice none 0 0)→eM μ loc IQ vs
 |j,[],[],IQ,l,hv=>by
  simp only [oD,Option.some.injEq,Prod.mk.injEq] at hv;obtain ⟨rfl,rfl⟩:=hv;exact ⟨by simp,by simp,fun _ _=>rfl⟩
 |j,[],_::_,IQ,l,hv=>by simp [oD] at hv
 |j,_::_,[],IQ,l,hv=>by simp [oD] at hv
 |j,t::ts,v::vs,IQ,l,hv=>by
  simp only [oD] at hv;split at hv
  ·rename_i svs' l' uv
   obtain ⟨i1,i2,i3⟩:=q7 (j+1) ts vs svs' l' uv;split at hv
   ·rename_i e s hs
    cases hb:(Nat.blt 0 s&&Nat.blt (5000+16 *d+j) 10000) with
    |false=>rw [hb] at hv;cases hv
    |true=>
     simp only [hb,cond_true,Option.some.injEq,Prod.mk.injEq] at hv;obtain ⟨rfl,rfl⟩:=hv;simp only [Bool.and_eq_true] at hb;have hlt:5000+16 *d+j<10000:=by have:=hb.2;simpa [Nat.blt_eq] using this
     refine ⟨fun x hx=> ?_,fun u hu=> ?_,fun loc hl=> ?_⟩
     ·rcases List.mem_cons.1 hx with rfl|hx
      ·exact hlt
      ·exact i1 x hx
     ·rcases List.mem_cons.1 hu with rfl|hu
      ·rfl
      ·exact i2 u hu
     ·exact ⟨_,_,rfl,(by show _=cV (loc _);rw [hl (5000+16 *d+j,e,s) (by simp)]),i3 loc (fun x hx=>hl x (by simp [hx]))⟩
   ·simp only [Option.map_eq_some_iff,Prod.mk.injEq] at hv
    obtain ⟨av,hc,rfl,rfl⟩:=hv;have hr:=qS (μ:=μ) hc;refine ⟨i1,fun u hu=> ?_,fun loc hl=>⟨_,_,rfl,hr,i3 loc hl⟩⟩;rcases List.mem_cons.1 hu with rfl|hu
    ·unfold ofConst at hc
     split at hc<;>first|rfl|cases hc
    ·exact i2 u hu
  ·cases hv
theorem Ei (hR:Rel N w0 μ0 L μ loc st a w) {o:Oper} {d:Nat} {t:TypeId} {IQ:List SV} {l:List (Nat×TypeId×Nat)} (hd:d<N) (cv:o.dst=some d) (ho:o.op= .alloc t)
  (hz:((u9 P t).bind fun vs=>oD P d 0 (oE P 8 t) vs)=some (IQ,l)) (hK:iU N w0 μ0 L (((oJ h.nest l st).new d (.box t (IQ.map (SV.cn d)))).set (some d) (.ptr d 0)) K):o.pE P a w K Q:=by
 obtain ⟨vs,hvs,hcs⟩:=Option.bind_eq_some_iff.1 hz;unfold u9 at hvs;split at hvs
 ·rename_i i hi
  simp only [Option.map_eq_some_iff] at hvs;obtain ⟨v,hzv,rfl⟩:=hvs;obtain ⟨h1,h2,h3⟩:=q7 (μ:=μ) 0 _ _ _ _ hcs;obtain ⟨loc',uo,h4,_⟩:=nx hR l st loc hR h1;refine xN (v:=v) uo hd cv ?_ (uM _ _ (h3 loc' h4)) h2 hK;unfold execOp;rw [ho];simp [Instr.alloc,zeroValue,typeInfo,hi,hzv,newVar,newRow]
 ·cases hvs
theorem G7 (hR:Rel N w0 μ0 L μ loc st a w) {s:SV} {l:List SV} {u:Value} (h:M6 st s=some l) (k:c8 μ loc s u):eM μ loc l u.cells.toList∧∀x∈u.cells.toList,x.oneCell'=true:=by
 unfold M6 at h;split at h
 ·rename_i cs
  injection h with h;subst h
  simp only [c8,rep] at k;obtain ⟨vs,rfl,h1,h2⟩:=k;exact ⟨by simpa [Value.cells] using mq h1,by simpa [Value.cells] using h2⟩
 ·cases ho:mc st s with
  |false=>rw [ho] at h;cases h
  |true=>
   rw [ho] at h;simp only [cond_true,Option.some.injEq] at h;subst h;obtain ⟨h1,h2⟩:=M1 hR ho k;rw [h2];exact ⟨⟨_,[],rfl,k,rfl⟩,by simpa using h1⟩
theorem Au (hR:Rel N w0 μ0 L μ loc st a w) {place:Nat→Option (Nat×Nat)} {ty:Nat→TypeId}:∀{parts:List (Nat×Operand)} {ps:List (Nat×List SV)} {cells cs:List SV} {vs:List Value},yx P ty st parts=some ps→JA place cells ps=some cs→eM μ loc cells vs→(∀u∈vs,u.oneCell'=true)→
  ∃ws:List Value,Instr.fill place vs.toArray (parts.map fun p=>(p.1,a.eval p.2))=some ws.toArray∧eM μ loc cs ws∧∀u∈ws,u.oneCell'=true
 |[],ps,cells,cs,vs=>fun h1 h2 h3 h4=>by
  simp only [yx,Option.some.injEq] at h1;subst h1;simp only [JA,Option.some.injEq] at h2;subst h2;exact ⟨vs,by simp [Instr.fill],h3,h4⟩
 |(i,x)::parts,ps,cells,cs,vs=>fun h1 h2 h3 h4=>by
  simp only [yx] at h1;split at h1
  ·rename_i l rest hx uv
   injection h1 with h1;subst h1
   obtain ⟨sx,Yt,hl⟩:=Option.bind_eq_some_iff.1 hx;obtain ⟨hc,hone⟩:=G7 hR hl (aI hR Yt);simp only [JA] at h2;split at h2
   ·cases h2
   ·rename_i off size vh
    split at h2
    ·rename_i dc
     have hlen:(a.eval x).cells.size=size:=by
      have:=j5 hc;simpa [dc.1] using this
     have hvl:=j5 h3;have hnews:=iY (iY (wX h3 off) hc) (wW h3 (off+size))
     obtain ⟨ws,hw,hr,ho⟩:=Au hR uv h2 hnews (fun u hu=>by
      simp only [List.mem_append] at hu;rcases hu with (hu|hu)|hu
      ·exact h4 u (List.mem_of_mem_take hu)
      ·exact hone u hu
      ·exact h4 u (List.mem_of_mem_drop hu))
     refine ⟨ws,?_,hr,ho⟩;simp only [List.map_cons,Instr.fill,vh];rw [if_neg (by simp [hlen];omega)];rw [←hw]
     congr 1
     have hsp:=A6 vs (a.eval x).cells.toList off 0 (by simp;omega);simp only [Nat.add_zero,Array.length_toList,hlen] at hsp;rw [←hsp,←Array.foldl_toList,Array.toList_zipIdx]
    ·cases h2
  ·cases h1
theorem vG:∀{cs:List SV} {caps:List jJ} {vs:List Value},xJ st cs=some caps→eM μ loc cs vs→fU μ loc caps vs
 |[],caps,vs=>fun h k=>by simp only [xJ,Option.some.injEq] at h;subst h;exact k
 |s::cs,caps,vs=>fun h ⟨u,us,e,k1,k2⟩=>by
  simp only [xJ] at h;split at h
  ·rename_i c rest hc uv
   injection h with h;subst h
   refine ⟨u,us,e,?_,vG uv k2⟩;unfold Wr at hc;cases ho:mc st s with
   |false=>rw [ho] at hc;cases hc
   |true=>
    rw [ho] at hc;simp only [cond_true] at hc;split at hc
    ·injection hc with hc;subst hc;exact k1
    ·injection hc with hc;subst hc;exact k1
    ·cases hc
  ·cases h
theorem Ek (hR:Rel N w0 μ0 L μ loc st a w) {hh:Hint} {o:Oper} {d:Nat} {t:TypeId} {parts:Array (Nat×Operand)} (hd:d<N) (cv:o.dst=some d) (ho:o.op= .build t parts) (h:yZ P hh st d t parts.toList=some st') (hK:iU N w0 μ0 L st' K):o.pE P a w K Q:=by
 unfold yZ at h;split at h
 ·rename_i fs IQ l hu hz
  cases PE:fs.toList.all (fun f=>(gB P f.type).isSome) with
  |false=>rw [PE] at h;cases h
  |true=>
   rw [PE] at h;simp only [cond_true] at h;split at h
   ·rename_i ps hps
    split at h
    ·rename_i cs hcs
     injection h with h;subst h
     obtain ⟨sv2,hf,hca⟩:=Option.bind_eq_some_iff.1 hcs;obtain ⟨vs,hvs,hcell⟩:=Option.bind_eq_some_iff.1 hz;unfold u9 at hvs;split at hvs
     ·rename_i i hi
      simp only [Option.map_eq_some_iff] at hvs;obtain ⟨v,hzv,rfl⟩:=hvs;obtain ⟨h1,h2,h3⟩:=q7 (μ:=μ) 0 _ _ _ _ hcell;obtain ⟨loc',uo,h4,_⟩:=nx hR l st loc hR h1;obtain ⟨ws,hw,hr,hone⟩:=Au uo hps hf (h3 loc' h4) h2;refine dY (v:= .agg ws.toArray) (w':=w) ?_ ?_
      ·obtain ⟨fl⟩:=fs
       have vh:=run_places (P:=P) (w:=w) fl PE;have hpe:(fun x=>Option.map (fun f:Field=>(f.offset,(gB P f.type).getD 0)) fl[x]?)=jF P t:=by
        funext x
        simp only [jF,qN,hu,List.getElem?_toArray];cases hx:fl[x]? with
        |none=>rfl
        |some fd=>
         obtain ⟨n,hn⟩:=Option.isSome_iff_exists.1 (List.all_eq_true.1 PE fd (List.mem_of_getElem? hx));simp [hn]
       simp only [Array.toArray_toList] at hw;unfold execOp;rw [ho];simp [Instr.build,zeroValue,typeInfo,hi,hzv,run_underlying hu,vh,hpe,hw]
      ·rw [cv]
       exact hK _ _ _ _ (uo.set (fun i hi=>by injection hi with hi;omega) ⟨ws,rfl,vG hca hr,hone⟩)
     ·cases hvs
    ·cases h
   ·cases h
 ·cases h
theorem pW:∀{l:List Nat},distinct l=true→l.Nodup
 |[],_=>List.nodup_nil
 |x::l,h=>by
  simp only [distinct,Bool.and_eq_true,Bool.not_eq_true'] at h;refine List.nodup_cons.2 ⟨fun hm=> ?_,pW h.2⟩;have:l.contains x=true:=by simpa using hm
  rw [this] at h;cases h.1
theorem pG {α:Type}:∀{l:List (Nat×α)} {i:Nat} {v:α},find l i=some v→(i,v)∈l
 |[],_,_,h=>by simp [find] at h
 |(j,u)::l,i,v,h=>by
  simp only [find] at h;cases hb:Nat.beq j i with
  |true=>simp only [hb,cond_true,Option.some.injEq] at h;have:=beq_iff.1 hb;subst this;subst h;simp
  |false=>simp only [hb,cond_false] at h;exact List.mem_cons_of_mem _ (pG h)
theorem EX {α:Type}:∀{l:List (Nat×α)} {i:Nat},find l i=none→i∉l.map (·.1)
 |[],_,_=>by simp
 |(j,u)::l,i,h=>by
  simp only [find] at h;cases hb:Nat.beq j i with
  |true=>simp [hb] at h
  |false=>
   simp only [hb,cond_false] at h;simp only [List.map_cons,List.mem_cons,not_or];exact ⟨fun e=>by subst e;simp [Nat.beq_refl] at hb,EX h⟩
theorem jP {α:Type}:∀{l:List (Nat×α)} {i:Nat} {v:α},(l.map (·.1)).Nodup→(i,v)∈l→find l i=some v
 |[],_,_,_,h=>by simp at h
 |(j,u)::l,i,v,hn,h=>by
  simp only [List.map_cons,List.nodup_cons] at hn;simp only [find];rcases List.mem_cons.1 h with h|h
  ·injection h with h1 h2;subst h1;subst h2;simp [Nat.beq_refl]
  ·have:j≠i:=fun e=>by subst e;exact hn.1 (List.mem_map.2 ⟨_,h,rfl⟩)
   rw [Rx this];exact jP hn.2 h
theorem nU (mv:Nat→Bool):∀(k:Nat) (l:List Nat),(fC mv k l).map (·.1)=l
 |_,[]=>rfl
 |k,id::l=>by simp [fC,nU mv (k+1) l]
theorem rq (mv:Nat→Bool):∀(k:Nat) (l:List Nat),k+l.length≤10000→∀p∈fC mv k l,(mv p.1=true→20000+k≤p.2)∧(mv p.1=false→10000+k≤p.2∧p.2<20000)
 |_,[],_,p,h=>by simp [fC] at h
 |k,id::l,hk,p,h=>by
  simp only [List.length_cons] at hk;simp only [fC,List.mem_cons] at h;rcases h with rfl|h
  ·cases hm:mv id<;>simp [hm]<;>omega
  ·have:=rq mv (k+1) l (by omega) p h
   exact ⟨fun e=>by have:=this.1 e;omega,fun e=>by have:=this.2 e;omega⟩
theorem rj (mv:Nat→Bool):∀(k:Nat) (l:List Nat),k+l.length≤10000→((fC mv k l).map (·.2)).Nodup
 |_,[],_=>by simp [fC]
 |k,id::l,hk=>by
  simp only [List.length_cons] at hk;simp only [fC,List.map_cons,List.nodup_cons];refine ⟨fun hm=> ?_,rj mv (k+1) l (by omega)⟩;obtain ⟨p,hp,e⟩:=List.mem_map.1 hm;have:=rq mv (k+1) l (by omega) p hp;cases h1:mv p.1 with
  |true=>have h2:=this.1 h1;cases h3:mv id<;>simp [h3] at e<;>omega
  |false=>have h2:=this.2 h1;cases h3:mv id<;>simp [h3] at e<;>omega
theorem DI:∀(m:List (Nat×Nat)),(swap m).map (·.1)=m.map (·.2)
 |[]=>rfl
 |(a,b)::l=>by simp [swap,DI l]
theorem Df:∀{m:List (Nat×Nat)} {a b:Nat},(a,b)∈m→(b,a)∈swap m
 |(x,y)::l,a,b,h=>by
  rcases List.mem_cons.1 h with h|h
  ·injection h with h1 h2;subst h1;subst h2;simp [swap]
  ·simp only [swap];exact List.mem_cons_of_mem _ (Df h)
theorem uK {loc loc':Nat→Value} {ρ:Nat→Nat} {names:List Nat} (hρ:∀j∈names,loc' (ρ j)=loc j):∀{cs:List jJ} {vs:List Value},SV.closed names (.cl 0 cs)=true→fU μ loc cs vs→fU μ loc' (cs.map (jJ.nX ρ)) vs
 |[],vs,_,h=>h
 |c::cs,vs,hc,⟨u,us,e,h1,h2⟩=>by
  simp only [SV.closed,List.all_cons,Bool.and_eq_true] at hc;refine ⟨u,us,e,?_,uK hρ (by simpa [SV.closed] using hc.2) h2⟩;cases c with
  |v a=>exact h1
  |p id=>obtain ⟨b,k1,k2⟩:=h1;exact ⟨b,by rw [hρ id (by simpa using hc.1)];exact k1,k2⟩
  |r id=>show u=cV (loc' (ρ id));rw [hρ id (by simpa using hc.1)];exact h1
theorem KD {loc loc':Nat→Value} {ρ:Nat→Nat} {names:List Nat} (hρ:∀j∈names,loc' (ρ j)=loc j) {s:SV} {v:Value} (hc:s.closed names=true) (h:c8 μ loc s v):c8 μ loc' (s.nX ρ) v:=by
 induction s generalizing v with
 |two s b ih=>obtain ⟨x,e,h⟩:=h;exact ⟨x,e,ih (by simpa [SV.closed] using hc) h⟩
 |undef=>exact h
 |any=>exact h
 |pv x=>exact h
 |cp cs=>exact h
 |ptr j off=>obtain ⟨b,h1,h2⟩:=h;exact ⟨b,by rw [hρ j (by simpa [SV.closed] using hc)];exact h1,h2⟩
 |row j=>show v=cV (loc' (ρ j));rw [hρ j (by simpa [SV.closed] using hc)];exact h
 |rp j sz i off=>obtain ⟨g,n,c,h1,h2⟩:=h;exact ⟨g,n,c,by rw [hρ j (by simpa [SV.closed] using hc)];exact h1,h2⟩
 |sub j sz lo hi=>obtain ⟨A,n,c,A',c',h1,h2⟩:=h;exact ⟨A,n,c,A',c',by rw [hρ j (by simpa [SV.closed] using hc)];exact h1,h2⟩
 |cl f caps=>obtain ⟨vs,e,h1⟩:=h;exact ⟨vs,e,uK hρ (by simpa [SV.closed] using hc) h1⟩
 |ag caps=>obtain ⟨vs,e,h1,h2⟩:=h;exact ⟨vs,e,uK hρ (by simpa [SV.closed] using hc) h1,h2⟩
 | «at» j q=>simp [SV.closed] at hc
theorem zV {loc loc':Nat→Value} {ρ:Nat→Nat} {names:List Nat} (hρ:∀j∈names,loc' (ρ j)=loc j):∀{cs:List SV} {vs:List Value},cs.all (SV.closed names)=true→eM μ loc cs vs→eM μ loc' (cs.map (SV.nX ρ)) vs
 |[],vs,_,h=>h
 |c::cs,vs,hc,⟨u,us,e,h1,h2⟩=>by
  simp only [List.all_cons,Bool.and_eq_true] at hc;exact ⟨u,us,e,KD hρ hc.1 h1,zV hρ hc.2 h2⟩
theorem Dk {n0 n0':Nat} {L L':mG} {loc loc':Nat→Value} {ρ:Nat→Nat} {names:List Nat} (hρ:∀j∈names,loc' (ρ j)=loc j) {id id':Nat} {o:Ob} (hc:o.closed names=true) (h:ig n0 L μ loc w id o) (hid:loc' id'=loc id)
  (hown:∀b,fE (loc id) b→zN n0' L' id' b) (hq:L'.q=L.q:=by rfl):ig n0' L' μ loc' w id' (o.nX ρ):=by
 cases o with
 |box t cells=>
  obtain ⟨b,vs,hl,ho,hh,hm,hs,h1⟩:=h;exact ⟨b,vs,by rw [hid];exact hl,hown b (by rw [hl];exact kP.2 rfl),hh,hm,zV hρ hc hs,h1⟩
 |row e sz xs=>
  obtain ⟨vs,hw,hrc,hm⟩:=h;exact ⟨vs,by rw [hid];exact hw,hrc,fun g hg=>by rw [hid] at hg;exact ⟨hown g hg,(hm g hg).2⟩⟩
 |mp k e ks es=>
  obtain ⟨b,cN,clock,hl,ho,hh,hm,h1,h2,hB⟩:=h;exact ⟨b,cN,clock,by rw [hid];exact hl,hown b (by rw [hl];exact oF.2 rfl),hh,hm,h1,h2,hB⟩
 |mr k e sz ks vs=>simp [Ob.closed] at hc
 |rn e s k e' s' xs ys=>simp [Ob.closed] at hc
 |it s pos=>
  obtain ⟨b,hl,ho,hh,hm⟩:=h;exact ⟨b,by rw [hid];exact hl,hown b (by rw [hl];exact kP.2 rfl),hh,hm⟩
 |lp xs=>
  obtain ⟨us,hl,h1,h2⟩:=h;exact ⟨us,by rw [hid];exact hl,fun g hg=>by rw [hid] at hg;exact ⟨hown g hg,(h1 g hg).2⟩,by rw [hq];exact h2⟩
theorem yA {tm:Nat→Option Value}:∀(l:List Nat) (st:St) (loc jv:Nat→Value),(∀i,i∉l→jv i=loc i)→(∀i s,st.env i=some s→∃v,tm i=some v∧c8 μ loc s v)→∀i s,(fe l st).env i=some s→∃v,tm i=some v∧c8 μ jv s v
 |[],st,loc,jv,hl,h,i,s,hs=>by
  have:jv=loc:=funext fun i=>hl i (by simp)
  rw [this];exact h i s hs
 |id::l,st,loc,jv,hl,h,i,s,hs=>by
  refine yA l (st.cn id) (kT loc id (jv id)) jv (fun i hi=> ?_) (fun i s hs=> ?_) i s hs
  ·by_cases e:i=id
   ·subst e;rw [bN]
   ·rw [bQ _ _ e];exact hl i (by simp [e,hi])
  ·simp only [St.cn,Option.map_eq_some_iff] at hs
   obtain ⟨s0,hs0,rfl⟩:=hs;obtain ⟨v,hv,hr⟩:=h i s0 hs0;exact ⟨v,hv,tA hr⟩
theorem AR:∀(l:List Nat) (st:St) (loc jv:Nat→Value),(∀i,i∉l→jv i=loc i)→∀i o',(fe l st).ob i=some o'→i∉l∧∃o,st.ob i=some o∧∀n0 L μ w,ig n0 L μ loc w i o→ig n0 L μ jv w i o'
 |[],st,loc,jv,hl,i,o',ho=>by
  have:jv=loc:=funext fun i=>hl i (by simp)
  rw [this];exact ⟨by simp,o',ho,fun _ _ _ _ h=>h⟩
 |id::l,st,loc,jv,hl,i,o',ho=>by
  obtain ⟨h1,o1,h2,h3⟩:=AR l (st.cn id) (kT loc id (jv id)) jv (fun i hi=>by
   by_cases e:i=id
   ·subst e;rw [bN]
   ·rw [bQ _ _ e];exact hl i (by simp [e,hi])) i o' ho
  by_cases e:id=i
  ·subst e;simp [St.cn,bH] at h2
  ·simp only [St.cn,aQ _ _ e,Option.map_eq_some_iff] at h2
   obtain ⟨o,ho,rfl⟩:=h2;exact ⟨by simp [Ne.symm e,h1],o,ho,fun n0 L μ w h=>h3 n0 L μ w (wQ h (Ne.symm e))⟩
theorem xF (hR:Rel N w0 μ0 L μ loc st a w):∀{xs:List Operand} {ts:List TypeId} {vs:List SV},og P h st xs ts=some vs→eM μ loc vs (xs.map a.eval)
 |[],ts,vs,hv=>by simp only [og,Option.some.injEq] at hv;subst hv;rfl
 |x::xs,ts,vs,hv=>by
  simp only [og] at hv;split at hv
  ·rename_i v vs' h1 h2
   injection hv with hv;subst hv
   refine ⟨_,_,rfl,?_,xF hR h2⟩;unfold Rt at h1;split at h1
   all_goals first
    |(rename_i hx;injection h1 with h1;subst h1;exact aI hR hx)
    |cases h1
    |(rename_i hx;cases hb:isRef h x with
      |false=>rw [hb] at h1;cases h1
      |true=>rw [hb] at h1;simp only [cond_true,Option.some.injEq] at h1;subst h1;exact aI hR hx)
  ·cases hv
theorem vN {ids:List Nat} {ρ:Nat→Nat}:∀{l:List (Nat×Nat)} {bT:List (Nat×Ob)},gJ st ids ρ l=some bT→bT.map (·.1)=l.map (·.2)∧∀nm o',(nm,o')∈bT→∃id o,(id,nm)∈l∧st.ob id=some o∧o.closed ids=true∧o'=o.nX ρ
 |[],bT,hv=>by simp only [gJ,Option.some.injEq] at hv;subst hv;simp
 |(id,nm)::l,bT,hv=>by
  simp only [gJ] at hv;split at hv
  ·rename_i o os ho hos
   cases hc:o.closed ids with
   |false=>rw [hc] at hv;cases hv
   |true=>
    simp only [hc,cond_true,Option.some.injEq] at hv;subst hv;obtain ⟨h1,h2⟩:=vN hos;refine ⟨by simp [h1],fun KZ o' hm=> ?_⟩;rcases List.mem_cons.1 hm with hm|hm
    ·injection hm with e1 e2;subst e1;subst e2;exact ⟨id,o,by simp,ho,hc,rfl⟩
    ·obtain ⟨id',o1,k1,k2⟩:=h2 KZ o' hm
     exact ⟨id',o1,by simp [k1],k2⟩
  ·cases hv
theorem vF {names:List Nat} {ρ:Nat→Nat}:∀{l:List (Nat×Nat)} {bT back:List (Nat×Ob)},iV names ρ l bT=some back→bT.map (·.1)=l.map (·.2)∧back.map (·.1)=l.map (·.1)∧∀id o',(id,o')∈back→∃nm o,(id,nm)∈l∧(nm,o)∈bT∧o.closed names=true∧o'=o.nX ρ
 |[],[],back,hv=>by simp only [iV,Option.some.injEq] at hv;subst hv;simp
 |[],_::_,back,hv=>by simp [iV] at hv
 |_::_,[],back,hv=>by simp [iV] at hv
 |(id,nm)::l,(KZ,o)::os,back,hv=>by
  simp only [iV] at hv;cases hb:(Nat.beq nm KZ&&o.closed names) with
  |false=>rw [hb] at hv;cases hv
  |true=>
   simp only [hb,cond_true,Option.map_eq_some_iff] at hv;obtain ⟨r,hr,rfl⟩:=hv;simp only [Bool.and_eq_true] at hb;have:=beq_iff.1 hb.1;subst this;obtain ⟨h1,h2,h3⟩:=vF hr;refine ⟨by simp [h1],by simp [h2],fun id' o' hm=> ?_⟩;rcases List.mem_cons.1 hm with hm|hm
   ·injection hm with e1 e2;subst e1;subst e2;exact ⟨nm,o,by simp,by simp,hb.2,rfl⟩
   ·obtain ⟨nm1,o1,k1,k2,k3⟩:=h3 id' o' hm
    exact ⟨nm1,o1,by simp [k1],by simp [k2],k3⟩
theorem uj (hR:Rel N w0 μ0 L μ loc st a w) (eH:dL L.q μ0 P aZ) {o:Oper} {c:Call} {f:Operand} {st1:St} (hd:∀i,o.dst=some i→i<N) (ho:o.op= .call c) (hc:c.callee= .value f)
  (hv:fF P h aZ st c f o.dst=some st1) (hK:iU N w0 μ0 L st1 K):o.pE P a w K Q:=by
 unfold fF at hv;split at hv
 ·rename_i g pre caps vs hf hvs
  simp only [] at hv;generalize uq:eW st 200 ((pre++(vs++caps)).flatMap SV.ids) []=ids at hv;generalize qD:fM (o.dst.any h.stay.contains) st (iZ (pre++(vs++caps)))=mv at hv;generalize hm:fC mv 0 ids=m at hv;cases dc:(distinct ids&&Nat.blt ids.length 10000&&(pre++(vs++caps)).all (SV.closed ids)) with
  |false=>rw [dc] at hv;cases hv
  |true=>
  simp only [dc,cond_true] at hv;simp only [Bool.and_eq_true] at dc;obtain ⟨⟨X9,hlen⟩,hclo⟩:=dc;have hlen:ids.length<10000:=by simpa [Nat.blt_eq] using hlen
  have hnd:=pW X9;have QW:m.map (·.1)=ids:=by rw [←hm];exact nU _ _ _
  have Yo:∀p∈m,(mv p.1=true→20000≤p.2)∧(mv p.1=false→10000≤p.2∧p.2<20000):=by
   rw [←hm];intro p hp;have:=rq mv 0 ids (by omega) p hp;exact ⟨fun e=>by have:=this.1 e;omega,fun e=>by have:=this.2 e;omega⟩
  have hnn:(m.map (·.2)).Nodup:=by rw [←hm];exact rj mv 0 ids (by omega)
  have lD:∀id nm,(id,nm)∈m→find m id=some nm:=fun id nm hp=>jP (by rw [QW];exact hnd) hp
  have hswap:∀id nm,(id,nm)∈m→find (swap m) nm=some id:=fun id nm hp=>jP (by rw [DI];exact hnn) (Df hp)
  have hex:∀id∈ids,∃nm,(id,nm)∈m:=fun id hid=>by
   rw [←QW] at hid;obtain ⟨p,hp,rfl⟩:=List.mem_map.1 hid;exact ⟨p.2,hp⟩
  let oG:Nat→Value:=fun nm=>match find (swap m) nm with
   |some id=>loc id
   |none=>loc nm
  have Az:∀id nm,(id,nm)∈m→oG nm=loc id:=fun id nm hp=>by simp only [oG,hswap id nm hp]
  have hren:∀id nm,(id,nm)∈m→kJ m id=nm:=fun id nm hp=>by simp [kJ,lD id nm hp]
  have hren2:∀id nm,(id,nm)∈m→kJ (swap m) nm=id:=fun id nm hp=>by simp [kJ,hswap id nm hp]
  have hρ:∀j∈ids,oG (kJ m j)=loc j:=fun j hj=>by
   obtain ⟨nm,hp⟩:=hex j hj;rw [hren j nm hp,Az j nm hp]
  split at hv
  ·rename_i bT tL
   obtain ⟨hl1,Bi⟩:=vN tL;have hlnd:(bT.map (·.1)).Nodup:=by rw [hl1];exact hnn
   split at hv
   ·rename_i r dO hr
    split at hv
    ·rename_i back qO
     obtain ⟨Ep,Er,hb3⟩:=vF qO;have hbnd:(dO.map (·.1)).Nodup:=by rw [Ep];exact hnn
     have hbid:back.map (·.1)=ids:=by rw [Er,QW]
     cases Ea:r.gu with
     |false=>rw [Ea] at hv;cases hv
     |true=>
     simp only [Ea,cond_true,Option.some.injEq] at hv;subst hv;obtain ⟨sf,hsf,hfn⟩:=Option.bind_eq_some_iff.1 hf;have hfv:=aI hR hsf;obtain ⟨ps,cs,hps,hcs,PD⟩:∃ps cs:List Value,eM μ loc pre ps∧eM μ loc caps cs∧((g<2000000∧a.eval f= .func (.func g) ps.toArray cs.toArray)∨(2000000≤g∧ps=[]∧∃v,cs=[v]∧a.eval f=Ws g [v])):=by
      unfold Vk at hfn;split at hfn
      ·rename_i g' NR
       cases hb:Nat.blt g' 1000000 with
       |false=>rw [hb] at hfn;cases hfn
       |true=>
       rw [hb] at hfn;simp only [cond_true,Option.some.injEq,Prod.mk.injEq] at hfn;obtain ⟨rfl,rfl,rfl⟩:=hfn;simp only [c8,rep] at hfv;obtain ⟨us,e,hu⟩:=hfv;exact ⟨[],us,rfl,mq hu, .inl ⟨Nat.lt_of_lt_of_le (Nat.blt_eq.mp hb) (by decide),e⟩⟩
      ·rename_i g' NR
       obtain ⟨us,e,hu⟩:=hfv;cases hb:Nat.blt g' 1000000 with
       |true=>
        rw [hb] at hfn;simp only [cond_true,Option.some.injEq,Prod.mk.injEq] at hfn;obtain ⟨rfl,rfl,rfl⟩:=hfn;exact ⟨[],us,rfl,mK hu, .inl ⟨Nat.lt_of_lt_of_le (Nat.blt_eq.mp hb) (by decide),by rw [e];simp only [Ws,hb,cond_true]⟩⟩
       |false=>
        rw [hb] at hfn;simp only [cond_false] at hfn;cases Er:Nat.blt g' 2000000 with
        |true=>
         rw [Er] at hfn;simp only [cond_true,Option.some.injEq,Prod.mk.injEq] at hfn;obtain ⟨rfl,rfl,rfl⟩:=hfn;exact ⟨us,[],mK hu,rfl, .inl ⟨Nat.lt_of_le_of_lt (Nat.sub_le _ _) (Nat.blt_eq.mp Er),by rw [e];simp only [Ws,hb,Er,cond_true,cond_false]⟩⟩
        |false=>
         rw [Er] at hfn;simp only [cond_false] at hfn;split at hfn
         ·rename_i c0
          simp only [Option.some.injEq,Prod.mk.injEq] at hfn;obtain ⟨rfl,rfl,rfl⟩:=hfn;obtain ⟨u,us',e1,h1,h2⟩:=hu;have:us'=[]:=h2;subst this e1;refine ⟨[],[u],rfl,mK (caps:=[c0]) ⟨u,[],rfl,h1,rfl⟩, .inr ⟨?_,rfl,u,rfl,e⟩⟩;cases Nat.lt_or_ge g' 2000000 with
          |inl h=>rw [Nat.blt_eq.mpr h] at Er;cases Er
          |inr h=>exact h
         ·cases hfn
      ·cases hfn
     have hargs:=xF hR hvs;have hall:=zV hρ hclo (iY hps (iY hargs hcs));have sJ:∀i oi,find bT i=some oi→ig w.heap.size (fL L.q oG (bT.map (·.1))) μ oG w i oi:=by
      intro i oi hi;obtain ⟨id,ob,hp,cu,hoc,rfl⟩:=Bi i oi (pG hi);refine Dk hρ hoc (hR.obs id _ cu) (Az id i hp) (fun b hb=> .inr ⟨loc id,?_,hb⟩);have:i∈bT.map (·.1):=by rw [hl1];exact List.mem_map.2 ⟨_,hp,rfl⟩
      simp only [fL,if_pos this,Az id i hp]
     have hapC:NC oG bT:=by
      intro i j oi oj hi hj hij q hq;obtain ⟨id,ob,hp,cu,_⟩:=Bi i oi (pG hi);obtain ⟨id',Zw,hp',qE,_⟩:=Bi j oj (pG hj);rw [Az id i hp] at hq;rw [Az id' j hp'];refine hR.apart id id' ob Zw cu qE (fun e=>hij ?_) q hq;subst e;have:=(lD id i hp).symm.trans (lD id j hp');injection this
     have Se:(∀v w',(∃μ' loc',dM L.q μ oG (bT.map (·.1)) r dO w v μ' loc' w')→K (a.put o.dst v) w')→o.pE P a w K Q:=fun hK'=>by
      rcases eH g _ _ r _ hr w μ oG (ps++(c.args.toList.map a.eval++cs)) hR.base.1 hR.oZ sJ hapC hall with ⟨hg,he,hC⟩|⟨hg,_,as,v0,lI,hY⟩
      ·rcases PD with ⟨_,PD⟩|⟨hg2,_⟩
       ·refine Uq (R:=fun v w'=>∃μ' loc',dM L.q μ oG (bT.map (·.1)) r dO w v μ' loc' w') ho hc PD rfl he (hC.mono ?_) hK'
        rintro e w' ⟨v,μ',loc',rfl,hP⟩
        exact ⟨v,rfl,μ',loc',hP⟩
       ·omega
      ·rcases PD with ⟨hg2,_⟩|⟨_,rfl,v1,rfl,PD⟩
       ·omega
       ·rw [List.nil_append] at lI
        obtain ⟨e1,e2⟩:=List.append_inj' lI rfl;simp only [List.cons.injEq,and_true] at e2;subst e1 e2;rw [←PD] at hY;refine Ur (R:=fun v w'=>∃μ' loc',dM L.q μ oG (bT.map (·.1)) r dO w v μ' loc' w') ho hc (hY.mono ?_) hK'
        rintro e w' ⟨v,μ',loc',rfl,hP⟩
        exact ⟨v,rfl,μ',loc',hP⟩
     refine Se ?_
     rintro v w' ⟨μ',loc',hP⟩
     let jv:Nat→Value:=fun i=>match find m i with
      |some nm=>loc' nm
      |none=>loc i
     have Py:∀id nm,(id,nm)∈m→jv id=loc' nm:=fun id nm hp=>by simp only [jv,lD id nm hp]
     have N8:∀i,i∉ids.filter mv→jv i=loc i:=by
      intro i hi;cases Oc:find m i with
      |none=>simp only [jv,Oc]
      |some nm=>
       have hp:=pG Oc;have hmem:i∈ids:=by rw [←QW];exact List.mem_map.2 ⟨_,hp,rfl⟩
       have hmv0:mv i=false:=by
        cases hx:mv i with
        |false=>rfl
        |true=>exact absurd (List.mem_filter.2 ⟨hmem,hx⟩) hi
       rw [Py i nm hp,hP.fix nm (by rw [hl1];exact List.mem_map.2 ⟨_,hp,rfl⟩) ((Yo _ hp).2 hmv0).2];exact Az i nm hp
     have hlb:∀b,E6 (fL L.q oG (bT.map (·.1))) b→∃id ob,id∈ids∧st.ob id=some ob∧fE (loc id) b:=by
      rintro b ⟨nm,x,hx,JP⟩
      simp only [fL] at hx;split at hx
      ·rename_i hmem
       injection hx with hx;subst hx
       rw [hl1] at hmem;obtain ⟨p,hp,rfl⟩:=List.mem_map.1 hmem;rw [Az p.1 p.2 hp] at JP;obtain ⟨q,hq,e⟩:=List.mem_map.1 (show p.2∈bT.map (·.1) by rw [hl1];exact List.mem_map.2 ⟨_,hp,rfl⟩);obtain ⟨id,ob,k1,k2,_⟩:=Bi q.1 q.2 hq;rw [e] at k1;have:=(hswap p.1 p.2 hp).symm.trans (hswap id p.2 k1);injection this with this
       exact ⟨p.1,ob,by rw [←QW];exact List.mem_map.2 ⟨_,hp,rfl⟩,by rw [this];exact k2,JP⟩
      ·cases hx
     have Yk:∀i oi,st.ob i=some oi→i∉ids→ig w0.heap.size L μ' loc w' i oi:=by
      intro i oi hi hni;refine (hR.obs i oi hi).keep hP.ext.1 (fun b hb=> ?_);obtain ⟨_,hlt,oc⟩:=(hR.obs i oi hi).block b hb;refine ⟨hP.keep b hlt (fun hl=> ?_),fun j=> ?_⟩
      ·obtain ⟨id,ob,h1,h2,h3⟩:=hlb b hl
       exact hR.apart id i ob oi h2 hi (fun e=>hni (by rw [←e];exact h1)) b h3 hb
      ·cases hj:μ' b j with
       |none=>rfl
       |some x=>
        rcases hP.ext.2 b j x hj with hx|hx
        ·rw [oc j] at hx;cases hx
        ·omega
     have X7:∀id o',find back id=some o'→∃nm o,(id,nm)∈m∧find dO nm=some o∧o.closed (m.map (·.2))=true∧o'=o.nX (kJ (swap m)):=by
      intro id o' Br;obtain ⟨nm,o,h1,h2,h3,h4⟩:=hb3 id o' (pG Br);exact ⟨nm,o,h1,jP hbnd h2,h3,h4⟩
     have JR:∀id nm ob b,(id,nm)∈m→find dO nm=some ob→fE (loc' nm) b→w.heap.size≤b∨fE (loc id) b:=by
      intro id nm ob b hp hfo hb;rcases ((hP.obs nm ob hfo).block b hb).1 with hx|⟨x,hx,JP⟩
      ·exact .inl hx
      ·right
       simp only [fL] at hx;split at hx
       ·injection hx with hx;subst hx;rw [Az id nm hp] at JP;exact JP
       ·cases hx
     have WH:∀id nm,(id,nm)∈m→∃ob,st.ob id=some ob:=by
      intro id nm hp;obtain ⟨q,hq,e⟩:=List.mem_map.1 (show nm∈bT.map (·.1) by rw [hl1];exact List.mem_map.2 ⟨_,hp,rfl⟩);obtain ⟨id',ob,k1,k2,_⟩:=Bi q.1 q.2 hq;rw [e] at k1;have:=(hswap id nm hp).symm.trans (hswap id' nm k1);injection this with this
      exact ⟨ob,by rw [this];exact k2⟩
     have Od:∀i oi,((find back i).orElse fun _=>(fe (ids.filter mv) st).ob i)=some oi→ig w0.heap.size L μ' jv w' i oi∧((∃nm o,(i,nm)∈m∧find dO nm=some o)∨(i∉ids∧∃o,st.ob i=some o)):=by
      intro i oi hi;cases Br:find back i with
      |some o'=>
       rw [Br] at hi;simp at hi;subst hi;obtain ⟨nm,ob,hp,hfo,Bg,rfl⟩:=X7 i o' Br;refine ⟨Dk (names:=m.map (·.2)) (fun j hj=> ?_) Bg (hP.obs nm ob hfo) (Py i nm hp) (fun b hb=> ?_), .inl ⟨nm,ob,hp,hfo⟩⟩
       ·obtain ⟨q,hq,rfl⟩:=List.mem_map.1 hj
        rw [hren2 q.1 q.2 hq,Py q.1 q.2 hq]
       ·rcases JR i nm ob b hp hfo hb with hx|hx
        ·exact .inl (Nat.le_trans hR.grown hx)
        ·obtain ⟨ob0,Yj⟩:=WH i nm hp
         exact ((hR.obs i ob0 Yj).block b hx).1
      |none=>
       rw [Br] at hi;have hni:i∉ids:=by rw [←hbid];exact EX Br
       have hi':(fe (ids.filter mv) st).ob i=some oi:=by simpa using hi
       obtain ⟨_,ob,cu,hk⟩:=AR _ st loc jv N8 i oi hi';exact ⟨hk _ _ _ _ (Yk i ob cu hni), .inr ⟨hni,ob,cu⟩⟩
     refine hK _ _ μ' jv (Rel.set (sv:= .pv r) ?_ hd (hP.pure Ea));refine ⟨hR.small,hR.names,?_,hR.size,hR.defers,?_,hP.oZ,⟨hR.base.1.trans hP.ext.1,?_⟩,fun i oi hi=>(Od i oi hi).1,?_,?_,hP.os.trans hR.os,hP.tape.trans hR.tape,hP.output.trans hR.output,Nat.le_trans hR.grown hP.grown,fun q=>Nat.le_trans (hR.drawn q) (hP.drawn q)⟩
     ·intro id x hx hlt
      rw [N8 id (fun hmem=> ?_)]
      ·exact hR.fix id x hx hlt
      ·have hmt:=(List.mem_filter.1 hmem).2
       rw [←qD] at hmt;simp only [fM,Bool.and_eq_true,eT,Bool.or_eq_true] at hmt;rcases hmt.1.1.2 with hh|hh
       ·have:id<10000:=by simpa [Nat.blt_eq] using hh
        rw [hR.names id this] at hx;cases hx
       ·have:=Nat.le_of_ble_eq_true hh.1;omega
     ·exact yA (tm:=fun i=>a.tmps[i]?) _ st loc jv N8 (fun i s hs=>by
       obtain ⟨u,hu,hr⟩:=hR.env i s hs
       exact ⟨u,hu,zU hP.ext.1 hr⟩)
     ·intro b j x hx
      rcases hP.ext.2 b j x hx with hx|hx
      ·exact hR.base.2 b j x hx
      ·exact .inr (Nat.le_trans hR.grown hx)
     ·intro i j oi oj hi hj hij q hq
      have M4:∀k ok,k∉ids→st.ob k=some ok→∀q,fE (jv k) q→fE (loc k) q∧q<w.heap.size:=by
       intro k ok hk hok q hq;have:jv k=loc k:=N8 k (fun hm=>hk (List.mem_filter.1 hm).1);rw [this] at hq;exact ⟨hq,((hR.obs k ok hok).block q hq).2.1⟩
      have mixed:∀i nm o j oj q,(i,nm)∈m→find dO nm=some o→j∉ids→st.ob j=some oj→fE (jv i) q→fE (jv j) q→False:=by
       intro i nm o j oj q hp hfo hj Si hqi E1;obtain ⟨hqj',hlt⟩:=M4 j oj hj Si q E1;rw [Py i nm hp] at hqi;rcases JR i nm o q hp hfo hqi with hx|hx
       ·omega
       ·obtain ⟨ob0,Yj⟩:=WH i nm hp
        exact hR.apart i j ob0 oj Yj Si (fun e=>hj (by rw [←e,←QW];exact List.mem_map.2 ⟨_,hp,rfl⟩)) q hx hqj'
      rcases (Od i oi hi).2 with ⟨nm,o,hp,hfo⟩|⟨hni,ob,cu⟩
      ·rcases (Od j oj hj).2 with ⟨KZ,o',hp',Yd⟩|⟨WG,Zw,qE⟩
       ·rw [Py i nm hp] at hq
        rw [Py j KZ hp'];refine hP.apart nm KZ o o' hfo Yd (fun e=>hij ?_) q hq;subst e;have:=(hswap i nm hp).symm.trans (hswap j nm hp');injection this
       ·exact fun E1=>mixed i nm o j Zw q hp hfo WG qE hq E1
      ·rcases (Od j oj hj).2 with ⟨KZ,o',hp',Yd⟩|⟨WG,Zw,qE⟩
       ·exact fun E1=>mixed j KZ o' i ob q hp' Yd hni cu E1 hq
       ·obtain ⟨hqi,_⟩:=M4 i ob hni cu q hq
        intro E1;obtain ⟨E1,_⟩:=M4 j Zw WG qE q E1;exact hR.apart i j ob Zw cu qE hij q hqi E1
     ·intro b hb hl
      refine (hP.keep b (Nat.lt_of_lt_of_le hb hR.grown) (fun hl'=> ?_)).trans (hR.keep b hb hl);obtain ⟨id,ob,_,h2,h3⟩:=hlb b hl';rcases ((hR.obs id ob h2).block b h3).1 with hx|⟨x,hx,JP⟩
      ·omega
      ·exact hl ⟨id,x,hx,JP⟩
    ·cases hv
   ·cases hv
  ·cases hv
 ·cases hv
mutual
theorem AV.mA:∀(a b:AV),AV.same a b=true→a=b
 | .bool a,b=>by cases b<;>simp [AV.same]
 | .int k a,b=>by cases b<;>simp [AV.same]
 | .str a,b=>by cases b<;>simp [AV.same]
 | .aW s xs,b=>by
  cases b<;>simp only [AV.same,Bool.and_eq_true,Bool.false_eq_true,false_imp_iff]
  rintro ⟨h1,h2⟩
  rw [beq_iff.1 h1,uS _ _ h2]
 | .agg a,b=>by
  cases b<;>simp only [AV.same,Bool.false_eq_true,false_imp_iff];intro h;rw [iI _ _ h]
 | .fn f a,b=>by
  cases b<;>simp only [AV.same,Bool.and_eq_true,Bool.false_eq_true,false_imp_iff]
  rintro ⟨h1,h2⟩
  rw [beq_iff.1 h1,iI _ _ h2]
 | .dI a,b=>by
  cases b<;>simp only [AV.same,Bool.false_eq_true,false_imp_iff];intro h;rw [iI _ _ h]
 | .ref a,b=>by
  cases b<;>simp only [AV.same,Bool.false_eq_true,false_imp_iff];intro h;rw [iI _ _ h]
 | .mp a b,c=>by
  cases c<;>simp only [AV.same,Bool.and_eq_true,Bool.false_eq_true,false_imp_iff]
  rintro ⟨h1,h2⟩
  rw [iI _ _ h1,iI _ _ h2]
 | .self n,b=>by
  cases b<;>simp only [AV.same,Bool.false_eq_true,false_imp_iff];intro h;rw [beq_iff.1 h]
 | .tX,b=>by cases b<;>simp [AV.same]
 | .lE,b=>by cases b<;>simp [AV.same]
 | .hole,b=>by cases b<;>simp [AV.same]
theorem iI:∀(a b:List AV),mw a b=true→a=b
 |[],[]=>fun _=>rfl
 |[],_::_=>fun h=>by simp [mw] at h
 |_::_,[]=>fun h=>by simp [mw] at h
 |x::l,y::m=>fun h=>by
  simp only [mw,Bool.and_eq_true] at h;rw [AV.mA x y h.1,iI l m h.2]
theorem uS:∀(a b:List (List AV)),uR a b=true→a=b
 |[],[]=>fun _=>rfl
 |[],_::_=>fun h=>by simp [uR] at h
 |_::_,[]=>fun h=>by simp [uR] at h
 |x::l,y::m=>fun h=>by
  simp only [uR,Bool.and_eq_true] at h;rw [iI x y h.1,uS l m h.2]
end
mutual
theorem AV.iJ:∀a:AV,AV.same a a=true
 | .bool a=>by simp [AV.same]
 | .int k a=>by simp [AV.same]
 | .str a=>by simp [AV.same]
 | .aW s xs=>by simp [AV.same,Nat.beq_refl,tB xs]
 | .agg a=>by simp [AV.same,gV a]
 | .fn f a=>by simp [AV.same,Nat.beq_refl,gV a]
 | .dI a=>by simp [AV.same,gV a]
 | .ref a=>by simp [AV.same,gV a]
 | .mp a b=>by simp [AV.same,gV a,gV b]
 | .self n=>by simp [AV.same,Nat.beq_refl]
 | .tX=>by simp [AV.same]
 | .lE=>by simp [AV.same]
 | .hole=>by simp [AV.same]
theorem gV:∀a:List AV,mw a a=true
 |[]=>rfl
 |x::l=>by simp [mw,AV.iJ x,gV l]
theorem tB:∀a:List (List AV),uR a a=true
 |[]=>rfl
 |x::l=>by simp [uR,gV x,tB l]
end
theorem jJ.mA {a b:jJ} (h:a.same b=true):a=b:=by
 cases a<;>cases b<;>simp only [jJ.same,Bool.false_eq_true] at h
 ·rw [AV.mA _ _ h]
 ·rw [beq_iff.1 h]
 ·rw [beq_iff.1 h]
theorem jJ.iJ (a:jJ):a.same a=true:=by
 cases a<;>simp [jJ.same,AV.iJ,Nat.beq_refl]
theorem uP:∀{a b:List jJ},mz a b=true→a=b
 |[],[]=>fun _=>rfl
 |[],_::_=>fun h=>by simp [mz] at h
 |_::_,[]=>fun h=>by simp [mz] at h
 |x::l,y::m=>fun h=>by
  simp only [mz,Bool.and_eq_true] at h;rw [jJ.mA h.1,uP h.2]
theorem vW:∀a:List jJ,mz a a=true
 |[]=>rfl
 |x::l=>by simp [mz,jJ.iJ x,vW l]
theorem Ak.mA {a b:Ak} (h:a.same b=true):a=b:=by
 cases a<;>cases b<;>simp only [Ak.same,Bool.false_eq_true] at h
 ·rfl
 ·rw [beq_iff.1 h]
theorem Ak.iJ (a:Ak):a.same a=true:=by
 cases a<;>simp [Ak.same,Nat.beq_refl]
theorem SV.mA {a b:SV} (h:a.same b=true):a=b:=by
 induction a generalizing b with
 |two s x ih=>
  cases b<;>simp only [SV.same,Bool.and_eq_true,Bool.false_eq_true] at h;rw [ih h.1,beq_iff_eq.1 h.2]
 |undef=>cases b<;>simp only [SV.same,Bool.false_eq_true] at h;rfl
 |any=>cases b<;>simp only [SV.same,Bool.false_eq_true] at h;rfl
 |pv x=>cases b<;>simp only [SV.same,Bool.false_eq_true] at h;rw [AV.mA _ _ h]
 |ptr x y=>cases b<;>simp only [SV.same,Bool.and_eq_true,Bool.false_eq_true] at h;rw [beq_iff.1 h.1,beq_iff.1 h.2]
 |row x=>cases b<;>simp only [SV.same,Bool.false_eq_true] at h;rw [beq_iff.1 h]
 |rp x y z u=>cases b<;>simp only [SV.same,Bool.and_eq_true,Bool.false_eq_true] at h;rw [beq_iff.1 h.1.1.1,beq_iff.1 h.1.1.2,beq_iff.1 h.1.2,beq_iff.1 h.2]
 |sub x y z u=>cases b<;>simp only [SV.same,Bool.and_eq_true,Bool.false_eq_true] at h;rw [beq_iff.1 h.1.1.1,beq_iff.1 h.1.1.2,beq_iff.1 h.1.2,beq_iff.1 h.2]
 |cp x=>cases b<;>simp only [SV.same,Bool.false_eq_true] at h;rw [iI _ _ h]
 |cl f x=>cases b<;>simp only [SV.same,Bool.and_eq_true,Bool.false_eq_true] at h;rw [beq_iff.1 h.1,uP h.2]
 |ag x=>cases b<;>simp only [SV.same,Bool.false_eq_true] at h;rw [uP h]
 | «at» x y=>cases b<;>simp only [SV.same,Bool.and_eq_true,Bool.false_eq_true] at h;rw [beq_iff.1 h.1,Ak.mA h.2]
theorem SV.iJ (a:SV):a.same a=true:=by
 induction a<;>simp [SV.same,AV.iJ,Nat.beq_refl,gV,vW,Ak.iJ, *]
theorem DE:∀{a b:List SV},qV a b=true→a=b
 |[],[]=>fun _=>rfl
 |[],_::_=>fun h=>by simp [qV] at h
 |_::_,[]=>fun h=>by simp [qV] at h
 |x::l,y::m=>fun h=>by
  simp only [qV,Bool.and_eq_true] at h;rw [SV.mA h.1,DE h.2]
theorem yH:∀a:List SV,qV a a=true
 |[]=>rfl
 |x::l=>by simp [qV,SV.iJ x,yH l]
theorem vm:∀{a b:List (Option (List (List AV)))},k9 a b=true→a=b
 |[],[]=>fun _=>rfl
 |[],_::_=>fun h=>by simp [k9] at h
 |none::_,[]=>fun h=>by simp [k9] at h
 |some _::_,[]=>fun h=>by simp [k9] at h
 |some x::l,some y::m=>fun h=>by
  simp only [k9,Bool.and_eq_true] at h;rw [uS _ _ h.1,vm h.2]
 |none::l,none::m=>fun h=>by
  simp only [k9] at h;rw [vm h]
 |some _::_,none::_=>fun h=>by simp [k9] at h
 |none::_,some _::_=>fun h=>by simp [k9] at h
theorem uQ:∀a:List (Option (List (List AV))),k9 a a=true
 |[]=>rfl
 |some x::l=>by simp [k9,tB x,uQ l]
 |none::l=>by simp [k9,uQ l]
theorem Ob.mA {a b:Ob} (h:a.same b=true):a=b:=by
 cases a<;>cases b<;>simp only [Ob.same,Bool.and_eq_true,Bool.false_eq_true] at h
 ·rw [beq_iff.1 h.1,DE h.2]
 ·rw [beq_iff.1 h.1.1,beq_iff.1 h.1.2,uS _ _ h.2]
 ·rw [beq_iff.1 h.1.1.1,beq_iff.1 h.1.1.2,iI _ _ h.1.2,iI _ _ h.2]
 ·rw [beq_iff.1 h.1.1.1.1,beq_iff.1 h.1.1.1.2,beq_iff.1 h.1.1.2,iI _ _ h.1.2,vm h.2]
 ·rw [of_decide_eq_true h.1,beq_iff.1 h.2]
 ·rw [iI _ _ h]
 ·rw [beq_iff.1 h.1.1.1.1.1.1,beq_iff.1 h.1.1.1.1.1.2,beq_iff.1 h.1.1.1.1.2,beq_iff.1 h.1.1.1.2,beq_iff.1 h.1.1.2,uS _ _ h.1.2,vm h.2]
theorem Ob.iJ (a:Ob):a.same a=true:=by
 cases a<;>simp [Ob.same,tB,Nat.beq_refl,gV,yH,uQ]
theorem DC:∀{a b:List (Nat×Ob)},pe a b=true→a=b
 |[],[]=>fun _=>rfl
 |[],_::_=>fun h=>by simp [pe] at h
 |_::_,[]=>fun h=>by simp [pe] at h
 |(i,x)::l,(j,y)::m=>fun h=>by
  simp only [pe,Bool.and_eq_true] at h;rw [beq_iff.1 h.1.1,Ob.mA h.1.2,DC h.2]
theorem yG:∀a:List (Nat×Ob),pe a a=true
 |[]=>rfl
 |(i,x)::l=>by simp [pe,Nat.beq_refl,Ob.iJ x,yG l]
theorem jJ.qv {ρ ρ':Nat→Nat} {ids:List Nat} (h:∀j∈ids,ρ' (ρ j)=j):∀{cs:List jJ},SV.closed ids (.cl 0 cs)=true→(cs.map (jJ.nX ρ)).map (jJ.nX ρ')=cs
 |[],_=>rfl
 |c::cs,hc=>by
  simp only [SV.closed,List.all_cons,Bool.and_eq_true] at hc;simp only [List.map_cons];rw [jJ.qv h (by simpa [SV.closed] using hc.2)];cases c with
  |v a=>rfl
  |p id=>simp only [jJ.nX];rw [h id (by simpa using hc.1)]
  |r id=>simp only [jJ.nX];rw [h id (by simpa using hc.1)]
theorem SV.qv {ρ ρ':Nat→Nat} {ids:List Nat} (h:∀j∈ids,ρ' (ρ j)=j) {s:SV} (hc:s.closed ids=true):(s.nX ρ).nX ρ'=s:=by
 induction s with
 |two s b ih=>simp only [SV.nX];rw [ih (by simpa [SV.closed] using hc)]
 |ptr j off=>simp only [SV.nX];rw [h j (by simpa [SV.closed] using hc)]
 |row j=>simp only [SV.nX];rw [h j (by simpa [SV.closed] using hc)]
 |rp j sz i off=>simp only [SV.nX];rw [h j (by simpa [SV.closed] using hc)]
 |sub j sz lo hi=>simp only [SV.nX];rw [h j (by simpa [SV.closed] using hc)]
 |cl f caps=>simp only [SV.nX];rw [jJ.qv h (by simpa [SV.closed] using hc)]
 |ag caps=>simp only [SV.nX];rw [jJ.qv h (by simpa [SV.closed] using hc)]
 |_=>rfl
theorem om {ρ:Nat→Nat} {ids names:List Nat} (h:∀j∈ids,ρ j∈names):∀{cs:List jJ},SV.closed ids (.cl 0 cs)=true→SV.closed names (.cl 0 (cs.map (jJ.nX ρ)))=true
 |[],_=>rfl
 |c::cs,hc=>by
  simp only [SV.closed,List.all_cons,Bool.and_eq_true] at hc;have ih:=om h (cs:=cs) (by simpa [SV.closed] using hc.2);simp only [SV.closed,List.map_cons,List.all_cons,Bool.and_eq_true];refine ⟨?_,by simpa [SV.closed] using ih⟩;cases c with
  |v a=>rfl
  |p id=>simpa [jJ.nX] using h id (by simpa using hc.1)
  |r id=>simpa [jJ.nX] using h id (by simpa using hc.1)
theorem SV.wm {ρ:Nat→Nat} {ids names:List Nat} (h:∀j∈ids,ρ j∈names) {s:SV} (hc:s.closed ids=true):(s.nX ρ).closed names=true:=by
 induction s with
 |two s b ih=>simp only [SV.nX,SV.closed];exact ih (by simpa [SV.closed] using hc)
 |ptr j off=>simpa [SV.nX,SV.closed] using h j (by simpa [SV.closed] using hc)
 |row j=>simpa [SV.nX,SV.closed] using h j (by simpa [SV.closed] using hc)
 |rp j sz i off=>simpa [SV.nX,SV.closed] using h j (by simpa [SV.closed] using hc)
 |sub j sz lo hi=>simpa [SV.nX,SV.closed] using h j (by simpa [SV.closed] using hc)
 |cl f caps=>have:=om h (cs:=caps) (by simpa [SV.closed] using hc);simpa [SV.nX,SV.closed] using this
 |ag caps=>have:=om h (cs:=caps) (by simpa [SV.closed] using hc);simpa [SV.nX,SV.closed] using this
 | «at» j q=>simp [SV.closed] at hc
 |_=>rfl
theorem Ob.qv {ρ ρ':Nat→Nat} {ids:List Nat} (h:∀j∈ids,ρ' (ρ j)=j) {o:Ob} (hc:o.closed ids=true):(o.nX ρ).nX ρ'=o:=by
 cases o with
 |box t cells=>
  simp only [Ob.nX,List.map_map]
  congr 1
  simp only [Ob.closed,List.all_eq_true] at hc;exact (List.map_congr_left fun s hs=>SV.qv h (hc s hs)).trans (List.map_id _)
 |_=>rfl
theorem Ob.wm {ρ:Nat→Nat} {ids names:List Nat} (h:∀j∈ids,ρ j∈names) {o:Ob} (hc:o.closed ids=true):(o.nX ρ).closed names=true:=by
 cases o with
 |box t cells=>
  simp only [Ob.closed,List.all_eq_true] at hc;simp only [Ob.nX,Ob.closed,List.all_eq_true,List.mem_map]
  rintro _ ⟨s,hs,rfl⟩
  exact SV.wm h (hc s hs)
 |mr k e s ks vs=>simp [Ob.closed] at hc
 |rn e s k e' s' xs ys=>simp [Ob.closed] at hc
 |_=>rfl
theorem ET {ids names:List Nat} {ρ ρ':Nat→Nat} (h1:∀j∈ids,ρ' (ρ j)=j) (h2:∀j∈ids,ρ j∈names):∀{l:List (Nat×Nat)} {bT:List (Nat×Ob)},gJ st ids ρ l=some bT→∃back,iV names ρ' l bT=some back∧∀i o,find back i=some o→st.ob i=some o
 |[],bT,hv=>by
  simp only [gJ,Option.some.injEq] at hv;subst hv;exact ⟨[],rfl,fun i o h=>by simp [find] at h⟩
 |(id,nm)::l,bT,hv=>by
  simp only [gJ] at hv;split at hv
  ·rename_i o os ho hos
   obtain ⟨hc,hv⟩:=(show o.closed ids=true∧some ((nm,o.nX ρ)::os)=some bT from by
    cases hc:o.closed ids with
    |false=>rw [hc] at hv;cases hv
    |true=>rw [hc] at hv;exact ⟨rfl,hv⟩)
   injection hv with hv
   subst hv;obtain ⟨back,hb,hg⟩:=ET h1 h2 hos;refine ⟨(id,(o.nX ρ).nX ρ')::back,?_,fun i o' hf=> ?_⟩
   ·simp only [iV,Nat.beq_refl,Ob.wm h2 hc,Bool.and_self,cond_true,hb,Option.map_some]
   ·simp only [find] at hf
    cases hbq:Nat.beq id i with
    |true=>
     simp only [hbq,cond_true,Option.some.injEq] at hf;rw [←beq_iff.1 hbq,ho,←hf,Ob.qv h1 hc]
    |false=>simp only [hbq,cond_false] at hf;exact hg i o' hf
  ·cases hv
theorem Jc {c:Call} {f:Operand} {r:AV} {d:Option Nat} (hst:d.any h.stay.contains=true) (hv:mJ P h aZ st c f=some r):fF P h aZ st c f d=some (st.set d (.pv r)):=by
 unfold mJ at hv;split at hv
 ·rename_i g args hargs
  unfold ox at hargs;split at hargs
  ·rename_i g' pre caps vs hf hvs
   simp only [Option.some.injEq,Prod.mk.injEq] at hargs;obtain ⟨rfl,rfl⟩:=hargs;have qD:fM (d.any h.stay.contains) st (iZ (pre++(vs++caps)))=fun _=>false:=by
    funext id;simp only [fM,hst,Bool.not_true,Bool.and_false]
   have uq:eW st 200 ((pre++(vs++caps)).flatMap SV.ids) []=fo st (pre++(vs++caps)):=rfl;generalize fo st (pre++(vs++caps))=ids at hv uq;have hm:fC (fun _=>false) 0 ids=eY ids:=rfl;cases dc:(distinct ids&&Nat.blt ids.length 10000&&(pre++(vs++caps)).all (SV.closed ids)) with
   |false=>rw [dc] at hv;cases hv
   |true=>
   simp only [dc,cond_true] at hv;have Sd:=dc;simp only [Bool.and_eq_true] at Sd;obtain ⟨⟨X9,hlen⟩,hclo⟩:=Sd;have hlen:ids.length<10000:=by simpa [Nat.blt_eq] using hlen
   have hnd:=pW X9;have QW:(eY ids).map (·.1)=ids:=nU _ _ _;have hnn:((eY ids).map (·.2)).Nodup:=rj _ 0 ids (by omega);have lD:∀id nm,(id,nm)∈eY ids→find (eY ids) id=some nm:=fun id nm hp=>jP (by rw [QW];exact hnd) hp
   have hswap:∀id nm,(id,nm)∈eY ids→find (swap (eY ids)) nm=some id:=fun id nm hp=>jP (by rw [DI];exact hnn) (Df hp)
   have hex:∀id∈ids,∃nm,(id,nm)∈eY ids:=fun id hid=>by
    rw [←QW] at hid;obtain ⟨p,hp,rfl⟩:=List.mem_map.1 hid;exact ⟨p.2,hp⟩
   split at hv
   ·rename_i bT tL
    split at hv
    ·rename_i r' dO hr
     cases hs:(pe dO bT&&r'.gu) with
     |false=>rw [hs] at hv;cases hv
     |true=>
      rw [hs] at hv;simp only [cond_true,Option.some.injEq] at hv;subst hv;simp only [Bool.and_eq_true] at hs;have e:=DC hs.1;subst e
      obtain ⟨back,hb,hg⟩:=ET (ids:=ids) (names:=(eY ids).map (·.2)) (ρ:=kJ (eY ids)) (ρ':=kJ (swap (eY ids))) (fun j hj=>by
       obtain ⟨nm,hp⟩:=hex j hj
       simp [kJ,lD j nm hp,hswap j nm hp]) (fun j hj=>by
       obtain ⟨nm,hp⟩:=hex j hj;simp only [kJ,lD j nm hp,Option.getD_some]
       exact List.mem_map.2 ⟨(j,nm),hp,rfl⟩) tL
      unfold fF;simp only [hf,hvs,qD,uq,hm,dc,cond_true,tL,hr,hb,hs.2];have e1:fe (ids.filter fun _=>false) st=st:=by
       have e0:(ids.filter fun _=>false)=[]:=List.filter_eq_nil_iff.2 (fun _ _=>by decide);rw [e0];rfl
      rw [e1]
      congr 2
      congr 1
      funext i
      cases Oc:find back i with
      |none=>rfl
      |some o=>rw [hg i o Oc];rfl
    ·cases hv
   ·cases hv
  ·cases hargs
 ·cases hv
theorem Dq (hR:Rel N w0 μ0 L μ loc st a w) {b:Bool}:∀{xs:List Operand} {ts:List TypeId} {vs:List AV},mh P b st xs ts=some vs→br μ vs (xs.map a.eval):=by
 intro xs
 induction xs with
 |nil=>intro ts vs hv;simp only [mh,Option.some.injEq] at hv;subst hv;exact cK
 |cons x xs ih=>
  intro ts vs hv;simp only [mh] at hv;split at hv
  ·rename_i v us hx lI
   injection hv with hv;subst hv
   refine bI ?_ (ih lI);unfold Hl at hx;cases hb:(b&&L8 x) with
   |true=>
    rw [hb] at hx;simp only [cond_true,Option.some.injEq] at hx;subst hx;rw [rep];have:=(Bool.and_eq_true_iff.1 hb).2;unfold L8 at this;split at this
    ·rfl
    ·cases this
   |false=>
    rw [hb] at hx;simp only [cond_false] at hx;obtain ⟨s,hs,hp⟩:=Option.bind_eq_some_iff.1 hx;have:=aI hR hs;cases s<;>simp [eR] at hp;subst hp;exact this
  ·cases hv
theorem ry:∀{cs:List AV} {l:List (Nat×TypeId×Nat)} {ks:List jJ} {vs:List Value},ny cs l=some ks→(∀x∈l,cV (loc x.1)= .slice none 0 0)→br μ cs vs→fU μ loc ks vs
 |[],l,ks,vs,hv,_,hr=>by
  simp only [ny,Option.some.injEq] at hv;subst hv;simpa [br,fU] using hr
 |a::cs,l,ks,vs,hv,hl,hr=>by
  obtain ⟨u,us,rfl,h1,h2⟩:=hr;have other:∀{k':List jJ},ny cs l=some k'→fU μ loc (.v a::k') (u::us):=fun hk=>⟨u,us,rfl,h1,ry hk hl h2⟩
  cases a with
  |lE=>
   cases l with
   |nil=>simp [ny] at hv
   |cons x l=>
    simp only [ny,Option.map_eq_some_iff] at hv;obtain ⟨k',hk,rfl⟩:=hv;rw [rep] at h1;refine ⟨u,us,rfl,?_,ry hk (fun y hy=>hl y (by simp [hy])) h2⟩;show u=cV (loc x.1);rw [hl x (by simp),h1]
  |_=>
   simp only [ny,Option.map_eq_some_iff] at hv;obtain ⟨k',hk,rfl⟩:=hv;exact other hk
theorem Eg (hR:Rel N w0 μ0 L μ loc st a w) (eH:dL L.q μ0 P aZ) {o:Oper} {c:Call} {f:Operand} {st1:St} (hd:∀i,o.dst=some i→i<N) (ho:o.op= .call c) (hc:c.callee= .value f)
  (hv:gz P h aZ st c f o.dst=some st1) (hK:iU N w0 μ0 L st1 K):o.pE P a w K Q:=by
 unfold gz at hv;split at hv
 ·rename_i d cv
  split at hv
  ·rename_i g caps vs hf hvs
   obtain ⟨cs,PD,hcs⟩:=Cz hR hf;have main:∀{r:AV},aZ g ((vs++caps).map .pv) []=some (r,[])→(∀v w' μ' loc',dM L.q μ loc [] r [] w v μ' loc' w'→Rel N w0 μ0 L μ' loc st a w'→K (a.put o.dst v) w')→o.pE P a w K Q:=fun {r} hr hk=>by
    obtain ⟨he,hC⟩:=dL.Zv (eH g _ [] _ [] hr w μ loc (c.args.toList.map a.eval++cs) hR.base.1 hR.oZ (by simp [find]) (by intro i j oi oj hi;simp [find] at hi) (mq (jg (Dq hR hvs) hcs))) fun xs=>by simp [find]
    refine BK (R:=fun v w'=>∃μ' loc',dM L.q μ loc [] r [] w v μ' loc' w') (r:=r) (dO:=[]) ho hc PD rfl he (hC.mono ?_) ?_
    ·rintro e' w' ⟨v,μ',loc',rfl,hP⟩
     exact ⟨v,rfl,μ',loc',hP⟩
    ·rintro v w' ⟨μ',loc',hP⟩
     exact hk v w' μ' loc' hP (hR.grow hP.ext hP.oZ (xI hP) hP.drawn)
   split at hv
   ·rename_i e sz xs hr
    cases hn:(qQ h d).isSome with
    |true=>rw [hn] at hv;cases hv
    |false=>
    rw [hn] at hv;simp only [cond_false,Option.some.injEq] at hv;subst hv;refine main hr fun v w' μ' loc' hP h1=> ?_
    obtain ⟨us,hown,hrc,hblk⟩:∃us,w'.ownsRow 0 e sz v xs.length us∧bZ μ' sz xs us∧∀g,aU v=some g→w.heap.size≤g∧∀j,μ' g j=none:=by
     rcases hP.res with hx|⟨_,_,_,_,e1,_⟩|⟨e2,ZB,xs2,us,e1,k1,k2,k3⟩
     ·simp only [rep,br] at hx
      obtain ⟨_,_,_,_,_,⟨_,_,_,_,_,hx,_⟩,_⟩:=hx;exact hx.elim
     ·cases e1
     ·simp only [AV.dI.injEq,List.cons.injEq,AV.self.injEq,AV.aW.injEq,and_true] at e1
      obtain ⟨rfl,rfl,rfl⟩:=e1;exact ⟨us,k1,k2,fun g hg=>⟨(k3 g hg).1,(k3 g hg).2.1⟩⟩
    have hdN:=hd d cv;have hin:∀g,fE v g→aU v=some g:=fun g hg=>by
     rcases hg with hg|⟨us',e1,_⟩
     ·exact hg
     ·subst e1
      rcases hown.2 with ⟨e2,_⟩|⟨_,_,_,e2,_⟩<;>cases e2
    have h2:=h1.new (id:=d) (val:=v) (o:= .row e sz xs) (.inl (Nat.lt_of_lt_of_le hdN hR.small)) ⟨us,by rw [bN];exact hown,hrc,fun g hg=>by
      rw [bN] at hg;obtain ⟨k1,k2⟩:=hblk g (hin g hg)
      exact ⟨.inl (Nat.le_trans hR.grown k1),k2⟩⟩ (fun j oj hj _ g hg hb=>by
     have k1:=(hblk g (hin g hg)).1;have:=((hR.obs j oj hj).block g hb).2.1
     omega)
    rw [cv];refine hK _ _ _ _ (h2.set (fun i hi=>(Option.some.inj hi)▸hdN) (sv:= .row d) ?_);show v=cV (kT loc d v d);rw [bN];rcases hown.2 with ⟨e2,_⟩|⟨_,_,_,e2,_⟩<;>rw [e2]<;>rfl
   ·rename_i cs' hr
    split at hv
    ·injection hv with hv;subst hv
     refine main hr fun v w' μ' loc' hP h1=> ?_
     have hres:=hP.pure rfl;rw [cv];exact hK _ _ _ _ (h1.set (fun i hi=>hd i (cv.trans hi)) (sv:= .pv (.agg cs')) hres)
    ·rename_i l _ hl
     split at hv
     ·rename_i ks hks
      cases hb:l.all (fun x=>Nat.blt x.1 10000) with
      |false=>rw [hb] at hv;cases hv
      |true=>
      rw [hb] at hv;simp only [cond_true,Option.some.injEq] at hv;subst hv;refine main hr fun v w' μ' loc' hP h1=> ?_
      have hres:=hP.pure rfl;rw [rep] at hres;obtain ⟨vs',rfl,PG,hone⟩:=hres;obtain ⟨jv,h2,h3,_⟩:=nx h1 l _ _ h1 (fun x hx=>Nat.blt_eq.mp (List.all_eq_true.1 hb x hx));rw [cv];exact hK _ _ _ _ (h2.set (fun i hi=>hd i (cv.trans hi)) (sv:= .ag ks) ⟨vs',rfl,ry hks h3 PG,hone⟩)
     ·cases hv
    ·cases hv
   ·cases hv
  ·cases hv
 ·cases hv
theorem FQ (hR:Rel N w0 μ0 L μ loc st a w) (eH:dL L.q μ0 P aZ) {o:Oper} {c:Call} {f:Operand} {r:AV} (hd:∀i,o.dst=some i→i<N) (ho:o.op= .call c) (hc:c.callee= .value f) (hst:o.dst.any h.stay.contains=true)
  (hv:mJ P h aZ st c f=some r) (hK:iU N w0 μ0 L (st.set o.dst (.pv r)) K):o.pE P a w K Q:=
 uj hR eH hd ho hc (Jc hst hv) hK
theorem LS (hR:Rel N w0 μ0 L μ loc st a w) (eH:dL L.q μ0 P aZ) {o:Oper} {v:SV} (hd:∀i,o.dst=some i→i<N) (hv:cI P h aZ o st=some v) (hK:iU N w0 μ0 L (st.set o.dst v) K):o.pE P a w K Q:=by
 unfold cI at hv;split at hv
 ·rename_i t len parts ho
  cases hb:o.dst.any h.rows.contains with
  |true=>simp [hb] at hv
  |false=>
   simp only [hb,cond_false] at hv;cases hl:gr P t len parts.toList st with
   |none=>simp [hl] at hv
   |some x=>
    obtain ⟨e,s,xs⟩:=x;simp [hl] at hv;subst hv;exact LQ hR hd ho hl hK
 ·rename_i c ho
  split at hv
  ·rename_i f hc
   replace hv:=uC hv
   cases hro:(o.dst.any h.stay.contains&&wide st c f) with
   |true=>
    rw [hro] at hv;simp only [cond_true,Option.map_eq_some_iff] at hv;obtain ⟨r,hr,rfl⟩:=hv;rw [Bool.and_eq_true] at hro;exact FQ hR eH hd ho hc hro.1 hr hK
   |false=>
   rw [hro] at hv
   replace hv:=uC hv
   split at hv
   ·rename_i g caps vs hf hvs
    split at hv
    ·rename_i r hr
     cases hp:((!(c.args.toList.any (gx st))||r.plain)&&r.gu) with
     |true=>
      simp only [hp,cond_true,Option.some.injEq] at hv;subst hv;rw [Bool.and_eq_true] at hp;exact Cj hR eH hd ho hc hf hvs hr (by rw [Bool.or_comm];exact hp.1) hp.2 hK
     |false=>rw [hp] at hv;cases hv
    ·cases hv
   ·cases hv
  ·exact jH hR hd (Aw hR ho hv) hK
 ·rename_i t x k ok ho
  exact jH hR hd (qu hR (uC hv)) hK
 ·rename_i t parts ho
  exact jH hR hd (JK hR ho (uC hv)) hK
 ·rename_i t x ho
  exact jH hR hd (qu hR (uC hv)) hK
 ·rename_i g first caps ho
  cases Oc:first.isEmpty with
  |false=>
   simp only [Oc,cond_false] at hv;cases hce:(caps.isEmpty&&o.dst.any h.aJ.contains&&Nat.blt g 1000000) with
   |false=>rw [hce] at hv;cases hv
   |true=>
   rw [hce] at hv;simp only [cond_true] at hv;simp only [Bool.and_eq_true] at hce;have hc0:caps= #[]:=by simpa using hce.1.1
   have hg:g<1000000:=Nat.blt_eq.mp hce.2;have run:(execOp a.eval o).run P w= .ok (.value (.func (.func g) (first.toList.map a.eval).toArray #[])) w:=by
    unfold execOp;rw [ho,hc0];have e:first.map a.eval=(first.toList.map a.eval).toArray:=by rw [←Array.toList_map]
    simp [Instr.makeFunc,e]
   cases hcs:kU st first.toList with
   |none=>simp [hcs] at hv
   |some vs=>
    simp [hcs] at hv;subst hv;refine jH hR hd ⟨_,run,(show c8 μ loc (.cl (g+1000000) vs) _ from ⟨_,?_,xK hR hcs⟩)⟩ hK;have h1:Nat.blt (g+1000000) 1000000=false:=by
     cases hb:Nat.blt (g+1000000) 1000000 with
     |false=>rfl
     |true=>have:=Nat.blt_eq.mp hb;omega
    have h2:Nat.blt (g+1000000) 2000000=true:=Nat.blt_eq.mpr (show g+1000000<2000000 from Nat.add_lt_add_right hg 1000000);simp only [Ws,h1,h2,cond_false,cond_true,Nat.add_sub_cancel]
  |true=>
   simp only [Oc,cond_true] at hv;have hf0:first= #[]:=by simpa using Oc
   have run:(execOp a.eval o).run P w= .ok (.value (.func (.func g) #[] (caps.toList.map a.eval).toArray)) w:=by
    unfold execOp;rw [ho,hf0];have e:caps.map a.eval=(caps.toList.map a.eval).toArray:=by rw [←Array.toList_map]
    simp [Instr.makeFunc,e]
   cases hby:o.dst.any h.aJ.contains with
   |true=>
    simp only [hby,cond_true] at hv;cases Yf:Nat.blt g 1000000 with
    |false=>rw [Yf] at hv;cases hv
    |true=>
    rw [Yf] at hv;simp only [cond_true] at hv;cases hcs:kU st caps.toList with
    |none=>simp [hcs] at hv
    |some vs=>
     simp [hcs] at hv;subst hv;exact jH hR hd ⟨_,run,(show c8 μ loc (.cl g vs) _ from ⟨_,by simp only [Ws,Yf,cond_true],xK hR hcs⟩)⟩ hK
   |false=>
   simp only [hby,cond_false] at hv;cases hcs:oh st caps.toList with
   |none=>simp [hcs] at hv
   |some vs=>
    simp [hcs] at hv;subst hv;have hall:=xL hR hcs;refine jH hR hd ⟨_,run,?_⟩ hK;show rep μ (.fn g vs) _;rw [rep];exact ⟨_,rfl,hall⟩
 ·rename_i x ho
  have key:c7 P o st=some v:=by
   split at hv
   ·rename_i hp;exact hp.trans (uC hv)
   ·rename_i hp;exact hp.trans (uC hv)
   ·exact hv
  exact jH hR hd (qu hR key) hK
 ·exact jH hR hd (qu hR hv) hK
theorem Po (hR:Rel N w0 μ0 L μ loc st a w) (eH:dL L.q μ0 P aZ) {o:Oper} (hd:∀i,o.dst=some i→i<N) (hv:iM P h aZ o st=some st') (hK:iU N w0 μ0 L st' K):o.pE P a w K Q:=by
 unfold iM at hv;split at hv
 ·rename_i d cv ho
  split at hv
  ·rename_i e s hs
   split at hv
   ·injection hv with hv;subst hv
    exact Ve hR (hd d cv) cv ho hK
   ·cases hv
  ·cases hv
 ·rename_i d x hnc cv ho
  split at hv
  ·rename_i id hx
   cases qD:h.Zt.contains d with
   |true=>rw [qD] at hv;exact Gu hR (hd d cv) cv ho hx hv hK
   |false=>
   rw [qD] at hv;simp only [cond_false] at hv;split at hv
   ·rename_i st1 hp
    split at hv
    ·rename_i v hv1
     injection hv with hv;subst hv
     obtain ⟨μ1,_,h1⟩:=hR.cw hp;exact jH h1 hd (wz h1 (.inr ho) hv1) (by rw [cv];exact hK)
    ·cases hv
   ·cases hv
  ·cases hv
 ·rename_i d t x cv ho
  split at hv
  ·rename_i cs hx hagg
   injection hv with hv;subst hv
   have pH:=aI hR hx;simp only [c8,rep] at pH;obtain ⟨vs,pH,hall,hone⟩:=pH;refine xN (v:= .agg vs.toArray) hR (hd d cv) cv ?_ (by simpa [Value.cells] using mq hall) (by simpa [Value.cells] using hone) hK;unfold execOp;rw [ho];simp [Instr.box,newVar,newRow,pH,Value.cells]
  ·rename_i cs hx hagg
   cases hm:(SV.ag cs).mentions d with
   |true=>rw [hm] at hv;cases hv
   |false=>
   rw [hm] at hv;simp only [cond_false,Option.some.injEq] at hv;subst hv;have pH:=KE (x:= .pointer (some ⟨w.heap.size,0,none⟩)) hm (aI hR hx);obtain ⟨vs,pH,hall,hone⟩:=pH;refine xN (v:= .agg vs.toArray) hR (hd d cv) cv ?_ (by simpa [Value.cells] using mK hall) (by simpa [Value.cells] using hone) hK;unfold execOp;rw [ho];simp [Instr.box,newVar,newRow,pH,Value.cells]
  ·rename_i v hnot hx hagg
   split at hv
   ·rename_i hone
    injection hv with hv;subst hv
    have pH:=aI hR hx;obtain ⟨h1,hc1⟩:=M1 hR hone pH;refine xN (v:=a.eval x) hR (hd d cv) cv ?_ (by rw [hc1];exact ⟨_,[],rfl,tA pH,rfl⟩) (by rw [hc1];simpa using h1) hK;unfold execOp;rw [ho];simp [Instr.box,newVar,newRow]
   ·cases hv
  ·cases hv
 ·rename_i d t cv ho
  cases hrw:h.rows.contains d with
  |true=>
   rw [hrw] at hv;simp only [cond_true] at hv;split at hv
   ·rename_i IQ l hz
    injection hv with hv;subst hv
    exact Ei hR (hd d cv) cv ho hz hK
   ·cases hv
  |false=>
  rw [hrw] at hv;simp only [cond_false] at hv;split at hv
  ·rename_i z hz
   injection hv with hv;subst hv
   obtain ⟨i,v,hi,hzv,hc⟩:=Fy (μ:=μ) hz;refine xN (v:=v) hR (hd d cv) cv ?_ (mq hc.1) hc.2 hK;unfold execOp;rw [ho];simp [Instr.alloc,zeroValue,typeInfo,hi,hzv,newVar,newRow]
  ·cases hv
 ·rename_i d t l c cv ho
  split at hv
  ·rename_i e s kl nl kc nc hs hl hc
   split at hv
   ·rename_i z i hz hi
    split at hv
    ·rename_i dc
     injection hv with hv;subst hv
     exact RQ hR (hd d cv) cv ho hs hl hc hz hi dc hK
    ·cases hv
   ·cases hv
  ·cases hv
 ·rename_i d t len parts cv ho
  split at hv
  ·rename_i e s xs hl
   split at hv
   ·injection hv with hv;subst hv
    exact FZ hR (hd d cv) cv ho hl hK
   ·rename_i k e' s' hn
    cases hb:(Nat.blt k s&&xs.all (kQ k)) with
    |false=>rw [hb] at hv;cases hv
    |true=>
     rw [hb] at hv;simp only [cond_true,Option.some.injEq] at hv;subst hv;obtain ⟨b1,b2⟩:=Bool.and_eq_true_iff.1 hb;exact Ej hR (hd d cv) cv ho hl (Nat.blt_eq.mp b1) b2 hK
  ·cases hv
 ·rename_i t x y cv ho
  split at hv
  ·rename_i id sz i off j hx hy
   exact Ks hR cv ho hx hy hv hK
  ·rename_i id off j sz n hx hy
   exact Jm hR cv ho hx hy hv hK
  ·rename_i sa sv _ hnr hx hy
   exact Pp hR cv ho hx hy hv hK
  ·cases hv
 ·rename_i d t r cv ho
  split at hv
  ·rename_i k e hu
   cases hb:pK P st r with
   |false=>rw [hb] at hv;cases hv
   |true=>
    rw [hb] at hv;simp only [cond_true] at hv;cases hrw:h.rows.contains d with
    |true=>
     rw [hrw] at hv;simp only [cond_true] at hv;split at hv
     ·split at hv
      ·injection hv with hv;subst hv
       exact LJ hR (hd d cv) cv ho hu hb hK
      ·cases hv
     ·cases hv
    |false=>
    rw [hrw] at hv;simp only [cond_false,Option.some.injEq] at hv;subst hv;exact Jr hR (hd d cv) cv ho hu hb hK
  ·cases hv
 ·rename_i t m k x cv ho
  cases hrm:ko h m with
  |true=>rw [hrm] at hv;exact Js hR cv (.inl ho) hv hK
  |false=>rw [hrm] at hv;exact xO hR cv (.inl ho) hv hK
 ·rename_i t m k x cv ho
  cases hrm:ko h m with
  |true=>rw [hrm] at hv;exact Js hR cv (.inr ho) hv hK
  |false=>rw [hrm] at hv;exact xO hR cv (.inr ho) hv hK
 ·rename_i d t m k cv ho
  cases hrm:ko h m with
  |true=>rw [hrm] at hv;exact Pk hR (hd d cv) cv ho hv hK
  |false=>rw [hrm] at hv;cases hv
 ·rename_i d t x cv ho
  split at hv
  ·rename_i s ht hx
   injection hv with hv;subst hv
   exact Pn hR (hd d cv) cv ho ht hx hK
  ·cases hv
 ·rename_i d x cv ho
  split at hv
  ·rename_i id hx
   split at hv
   ·rename_i s pos cu
    refine RR hR (hd d cv) cv ho hx cu ?_;split at hv
    ·rename_i hp
     injection hv with hv;subst hv
     rw [if_pos hp];exact hK
    ·rename_i hp
     injection hv with hv;subst hv
     rw [if_neg hp];exact hK
   ·cases hv
  ·cases hv
 ·rename_i d t parts cv ho
  cases hrw:h.rows.contains d with
  |false=>rw [hrw] at hv;cases hv
  |true=>rw [hrw] at hv;exact Ek hR (hd d cv) cv ho hv hK
 ·rename_i d t x cv ho
  cases Eb:h.take.contains d with
  |false=>rw [Eb] at hv;cases hv
  |true=>rw [Eb] at hv;exact EF hR (hd d cv) cv ho hv hK
 ·rename_i d g first caps cv ho
  cases Oc:first.isEmpty with
  |false=>rw [Oc] at hv;cases hv
  |true=>
   rw [Oc] at hv;simp only [cond_true] at hv;split at hv
   ·rename_i st1 hp
    simp only [Option.map_eq_some_iff] at hv;obtain ⟨vs,hcs,rfl⟩:=hv;exact F1 hR (hd d cv) cv ho Oc hp hcs hK
   ·cases hv
 ·rename_i d c ho
  split at hv
  ·rename_i hc
   split at hv
   ·rename_i d' x y t t' cv hargs ou
    split at hv
    ·rename_i e s id sy hs hx hy
     split at hv
     ·rename_i e' sz xs sz' ys i cu hel hi
      split at hv
      ·rename_i dc
       obtain ⟨rfl,rfl,rfl,rfl,hpos,hby,hlen,hz,qD⟩:=dc;injection hv with hv;subst hv
       have ho':o.op= .call { callee:= .builtin .append,args:= #[x,y],argTypes:= #[t,t] }:=by
        rw [ho];obtain ⟨ZR,⟨as⟩,⟨ts⟩⟩:=c;simp only at hc hargs ou;subst hc;subst hargs;subst ou;rfl
       refine LH hR (hd d' cv) cv ho' hs hx hy cu hel hi hpos hby hlen hz ?_ hK;simp only [eT,Bool.or_eq_true] at qD;rcases qD with hm|hm
       ·left;simpa [Nat.blt_eq] using hm
       ·right;exact Nat.le_of_ble_eq_true (Bool.and_eq_true _ _▸hm).1
      ·cases hv
     ·rename_i e' sz k e2 s2 xs zs sz' ys i cu hel hi
      split at hv
      ·rename_i dc
       obtain ⟨rfl,rfl,rfl,rfl,hpos,hby,hlen,hz,qD,hall⟩:=dc;injection hv with hv;subst hv
       have ho':o.op= .call { callee:= .builtin .append,args:= #[x,y],argTypes:= #[t,t] }:=by
        rw [ho];obtain ⟨ZR,⟨as⟩,⟨ts⟩⟩:=c;simp only at hc hargs ou;subst hc;subst hargs;subst ou;rfl
       refine Jq hR (hd d' cv) cv ho' hs hx hy cu hel hi hpos hby hlen hz ?_ hall hK;simp only [eT,Bool.or_eq_true] at qD;rcases qD with hm|hm
       ·left;simpa [Nat.blt_eq] using hm
       ·right;exact Nat.le_of_ble_eq_true (Bool.and_eq_true _ _▸hm).1
      ·cases hv
     ·cases hv
    ·rename_i e s id sy hs hx hy
     split at hv
     ·rename_i e' sz xs sz' ys i cu hel hi
      split at hv
      ·rename_i dc
       obtain ⟨rfl,rfl,rfl,rfl,hpos,hby,hlen,hz,qD,hne⟩:=dc;injection hv with hv;subst hv
       have ho':o.op= .call { callee:= .builtin .append,args:= #[x,y],argTypes:= #[t,t] }:=by
        rw [ho];obtain ⟨ZR,⟨as⟩,⟨ts⟩⟩:=c;simp only at hc hargs ou;subst hc;subst hargs;subst ou;rfl
       refine Jp hR (hd d' cv) cv ho' hs hx hy cu hel hi hpos hby hlen hz ?_ hne hK;simp only [eT,Bool.or_eq_true] at qD;rcases qD with hm|hm
       ·left;simpa [Nat.blt_eq] using hm
       ·right;exact Nat.le_of_ble_eq_true (Bool.and_eq_true _ _▸hm).1
      ·cases hv
     ·cases hv
    ·cases hv
   ·cases hv
  ·rename_i hc
   split at hv
   ·rename_i m k t ts cv hargs ou
    exact LI hR cv ho hc hargs ou hv hK
   ·cases hv
  ·rename_i hc
   split at hv
   ·rename_i x t cv hargs ou
    split at hv
    ·rename_i e s id sz lo hi hs hx
     split at hv
     ·rename_i e' sz' xs z cu hz
      split at hv
      ·rename_i dc
       injection hv with hv;subst hv
       exact Pj hR cv ho hc hargs ou hs hx cu hz dc hK
      ·cases hv
     ·cases hv
    ·cases hv
   ·cases hv
  ·rename_i f hc
   cases how:o.dst.any h.owns.contains with
   |true=>
    rw [how] at hv;exact Eg hR eH hd ho hc hv hK
   |false=>
   rw [how] at hv;simp only [cond_false] at hv
   replace hv:=uC hv
   cases hw:wide st c f with
   |true=>
    simp only [hw,cond_true] at hv;exact uj hR eH hd ho hc hv hK
   |false=>
   simp only [hw,cond_false] at hv;cases ia:c.args.toList.any (fun x=>(jD h st x).isSome) with
   |true=>
    simp only [ia,cond_true] at hv;exact Eh hR eH hd ho hc hv hK
   |false=>
   simp only [ia,cond_false] at hv;split at hv
   ·rename_i st1 hp
    split at hv
    ·rename_i g caps vs hf hvs
     split at hv
     ·rename_i r hr
      cases xX:(c.args.toList.any (gx st1)|| !r.gu) with
      |true=>rw [xX] at hv;cases hv
      |false=>
       simp only [xX,cond_false,Option.some.injEq] at hv;subst hv;obtain ⟨μ1,h1⟩:=zO hR hp;rw [Bool.or_eq_false_iff] at xX;exact Cj h1 eH hd ho hc hf hvs hr (by simp [xX.1]) (by simpa using xX.2) hK
     ·cases hv
    ·cases hv
   ·cases hv
  ·cases hv
 ·cases hv
theorem me:∀{l:List SV} {μ:Mu} {loc:Nat→Value} {st st':St} {a:Act} {w:World},Rel N w0 μ0 L μ loc st a w→jc l st=some st'→∃μ',μ.le μ'∧Rel N w0 μ0 L μ' loc st' a w
 |[],μ,loc,st,st',a,w,hR,hv=>by simp only [jc,Option.some.injEq] at hv;subst hv;exact ⟨μ,Mu.le.refl _,hR⟩
 |s::l,μ,loc,st,st',a,w,hR,hv=>by
  unfold jc at hv;split at hv
  ·rename_i e;cases e
  ·rename_i id l' e
   injection e with e1 e2;subst e1;subst e2
   obtain ⟨st1,h1,h2⟩:=Option.bind_eq_some_iff.1 hv;obtain ⟨μ1,hle,CB⟩:=hR.cw h1;obtain ⟨μ2,hle2,N9⟩:=me CB h2;exact ⟨μ2,hle.trans hle2,N9⟩
  ·rename_i s' l' hne e
   injection e with e1 e2;subst e1;subst e2
   exact me hR hv
theorem KP (hR:Rel N w0 μ0 L μ loc st a w) (eH:dL L.q μ0 P aZ) {o:Oper} (hd:∀i,o.dst=some i→i<N) (hv:step0 P h aZ o st=some st') (hK:iU N w0 μ0 L st' K):o.pE P a w K Q:=by
 unfold step0 at hv;split at hv
 ·rename_i v hf
  injection hv with hv;subst hv
  exact LS hR eH hd hf hK
 ·exact Po hR eH hd hv hK
theorem uG:∀{l:List Nat} {st st':St} {μ:Mu} {loc:Nat→Value} {a:Act} {w:World},Rel N w0 μ0 L μ loc st a w→gM l st=some st'→∃μ',μ.le μ'∧Rel N w0 μ0 L μ' loc st' a w
 |[],st,st',μ,loc,a,w,hR,hv=>by simp only [gM,Option.some.injEq] at hv;subst hv;exact ⟨μ,Mu.le.refl _,hR⟩
 |t::l,st,st',μ,loc,a,w,hR,hv=>by
  simp only [gM] at hv;obtain ⟨st1,h1,h2⟩:=Option.bind_eq_some_iff.1 hv;obtain ⟨μ1,hle,CB⟩:∃μ',μ.le μ'∧Rel N w0 μ0 L μ' loc st1 a w:=by
   unfold nh at h1;split at h1
   ·exact hR.cw h1
   ·split at h1
    ·exact me hR h1
    ·cases h1
   ·injection h1 with h1;subst h1;exact ⟨μ,Mu.le.refl _,hR⟩
  obtain ⟨μ2,hle2,N9⟩:=uG CB h2;exact ⟨μ2,hle.trans hle2,N9⟩
theorem DH (hR:Rel N w0 μ0 L μ loc st a w) (eH:dL L.q μ0 P aZ) {o:Oper} (hd:∀i,o.dst=some i→i<N) (hv:step P h aZ o st=some st') (hK:iU N w0 μ0 L st' K):o.pE P a w K Q:=by
 unfold step at hv;obtain ⟨st1,h1,h2⟩:=Option.bind_eq_some_iff.1 hv;obtain ⟨μ1,_,CB⟩:=uG hR h1;exact KP CB eH hd h2 hK
theorem tJ (hR:Rel N w0 μ0 L μ loc st a w) {ops:Array Oper} {o:Oper} {b:Bool} (hw:j6 ops o st=some b):Region.wanted o (yielded ops a.tmps)=b:=by
 unfold j6 at hw;unfold Region.wanted;split at hw
 ·rename_i hg;injection hw with hw;subst hw;rw [hg]
 ·rename_i j want hg
  rw [hg];simp only;split at hw
  ·rename_i d cv
   split at hw
   ·rename_i t ht
    injection hw with hw;subst hw
    obtain ⟨v,hv,hr⟩:=hR.env d _ ht;simp only [c8,rep] at hr;subst hr;simp [yielded,cv,hv]
   ·rename_i ht
    injection hw with hw;subst hw
    obtain ⟨v,hv,hr⟩:=hR.env d _ ht;have hr:v=undef:=hr;subst hr;simp [yielded,cv,hv,undef]
   ·cases hw
  ·cases hw
theorem yF (eH:dL L.q μ0 P aZ) {ops:Array Oper}:∀{l:List Oper} {st:St} {μ:Mu} {loc:Nat→Value} {a:Act} {w:World},Rel N w0 μ0 L μ loc st a w→(∀o∈l,∀i,o.dst=some i→i<N)→kq P h aZ ops l st=some st'→
  (∀a' w' μ' loc',Rel N w0 μ0 L μ' loc' st' a' w'→Q .normal a' w')→∀F,Wd F→wpListIn F 0 P ops Q l a w:=by
 intro l
 induction l with
 |nil=>
  intro st μ loc a w hR _ hv hQ F hF;simp only [kq,Option.some.injEq] at hv;subst hv;exact hQ _ _ _ _ hR
 |cons o l ih=>
  intro st μ loc a w hR hd hv hQ F hF;simp only [kq] at hv;split at hv
  ·rename_i b hw
   have hwant:=tJ hR hw;unfold wpListIn;rw [hwant];cases b with
   |true=>
    simp only [cond_true] at hv;simp only [if_true];cases hs:step P h aZ o st with
    |none=>simp [hs] at hv
    |some st1=>
     simp [hs] at hv;exact DH hR eH (hd o (by simp)) hs (fun a' w' μ' loc' h1=>ih h1 (fun p hp=>hd p (by simp [hp])) hv hQ F hF) F hF
   |false=>
    simp only [cond_false] at hv;simp only [Bool.false_eq_true,if_false];exact ⟨fun f _=>hF.fn f,ih (hR.set (hd o (by simp)) (show c8 μ loc .undef undef from rfl)) (fun p hp=>hd p (by simp [hp])) hv hQ F hF⟩
  ·cases hv
end
end Go.AM
