/- THE ABSTRACT MACHINE. -/
import Derived.Test.YtbnlhmaaccgbjaaGreatDoorAmEff
set_option linter.all false
namespace Go.AM
open Go.RowKit
def Mb (μ:Mu) (w:World):Prop:=∀b j v,μ b j=some v->H7 w b j=some v
def iy (q:Qp) (loc:Nat->Value) (names:List Nat):sQ:=⟨λid=>if id∈names then some (loc id) else none,q⟩
def WQ (loc:Nat->Value) (cL:List (Nat×Ob)):Prop:=∀i j l q,find cL i=some l->find cL j=some q->i≠j->∀g,lI (loc i) g->¬lI (loc j) g
structure fN (q:Qp) (μ:Mu) (loc:Nat->Value) (names:List Nat) (r:AV) (BD:List (Nat×Ob)) (w:World) (v:Value) (μ':Mu) (loc':Nat->Value) (w':World):Prop where
 ext:μ.extL w.heap.size (iy q loc names) μ'
 xZ:Mb μ' w'
 res:rep μ' r v\/(∃n A m c,r= .self n/\10000∈names/\loc' 10000= .slice A m c/\n<=m/\v= .slice A n c)\/
  (∃x,r= .iQ [.iQ [.self 0, .rD,x]]/\fU μ' loc' (wV x) v/\(wV x).closed (BD.map (·.1))=true)\/
  ∃e sz xs vs,r= .iQ [.iQ [.self e, .dD sz xs]]/\w'.ownsRow 0 e sz v xs.length vs/\cT μ' sz xs vs/\∀g,bH v=some g->(w.heap.size<=g\/Vi (iy q loc names) g)/\(∀j,μ' g j=none)/\∀id o,find BD id=some o->¬lI (loc' id) g
 obs:∀id o,find BD id=some o->nv w.heap.size (iy q loc names) μ' loc' w' id o
 apart:WQ loc' BD
 keep:∀b,b<w.heap.size->¬Nj (iy q loc names) b->w'.heap[b]? =w.heap[b]?
 fix:∀id,id∈names->10000<=id->id<20000->loc' id=loc id
 os:w'.os=w.os
 tape:w'.tape=w.tape
 output:w'.output=w.output
 grown:w.heap.size<=w'.heap.size
 drawn:q->w.drawn<=w'.drawn
def R6 {n:Nat} {q:Qp} {loc:Nat->Value} {μ l:Mu} (h:μ.extL n (iy q loc []) l):μ.ext n l:=⟨h.1,λb j v z=>by
 rcases h.2 b j v z with h|h|⟨_,_,_,_,B,_⟩
 .simp_all
 .omega
 .simp[iy] at B⟩
def fN.pure {q:Qp} {μ:Mu} {loc:Nat->Value} {names:List Nat} {r:AV} {l:List (Nat×Ob)} {w:World} {v:Value} {B:Mu} {z:Nat->Value} {F:World} (h:fN q μ loc names r l w v B z F) (D:r.jM=true):rep B r v:=by
 rcases h.res with h|⟨n,A,m,c,rfl,_⟩|⟨x,rfl,_⟩|⟨e,G,xs,H,rfl,_⟩<;>try cases D
 .exact h
def Pv {r:AV} (h:r.plain=true):r.jM=true:=by cases r with
 |self n=>cases h
 |iQ z=>
  have:z.any AV.Xz=false:=by rw[uG];intro x q l;have:=cH.1 (h) x q;cases x<;>simp[AV.Xz,AV.scalar] at l this
  simp[AV.jM,this]
 |_=>rfl
def Jv (P:Program) (u:Value) (args:Array Value) (w:World) (R:Ending->World->Prop):Prop:=
 ∃(l:Nat) (f:FuncId) (z:Array Value) (q body:Code),u= .func (.yield l) #[] #[]/\(Instr.yield l args).run P w= .ok (.round l f z q body) w/\∀F,Wd F->RoundIn F (0-1) P l f z q body w R
def iB (q:Qp) (B:Mu) (P:Program) (cz:eN):Prop:=∀g args cL r l,cz g args cL=some (r,l)->∀(w:World) (μ:Mu) (loc:Nat->Value) (F:List Value),B.le μ->Mb μ w->
 (∀id o,find cL id=some o->nv w.heap.size (iy q loc (cL.map (·.1))) μ loc w id o)->WQ loc cL->ig μ loc args F->
 (g<2000000/\(∀H,(callFunc g F.toArray).run P H= .ok (.enter g F.toArray) H)/\
  Calls P g F.toArray w λe G=>∃v D z,e= .returned v/\fN q μ loc (cL.map (·.1)) r l w v D z G)\/
 (2000000<=g/\(∃xs,find cL 10000=some (.lp xs))/\∃as v,F=as++[v]/\
  Jv P (clV g [v]) as.toArray w λe G=>∃v D z,e= .returned v/\fN q μ loc (cL.map (·.1)) r l w v D z G)
def iB.noY {A B C R:Prop} {cL:List (Nat×Ob)} {D:Prop} (h:(A/\B/\C)\/(D/\(∃xs,find cL 10000=some (.lp xs))/\R)) (l:∀xs,find cL 10000≠some (.lp xs)):B/\C:=by simp_all
def iB.mono {q:Qp} {B D:Mu} {P:Program} {cz:eN} (h:iB q B P cz) (F:B.le D):iB q D P cz:=
 λg args cL r z G w μ loc H l=>h g _ _ r _ G w _ _ _ (F.trans l)
section
variable {P:Program} {N:Nat} {w0:World} {μ0:Mu} {L:sQ} {μ:Mu} {loc:Nat->Value} {st st':St} {a:Act} {w:World} {Q:Exit->Act->World->Prop} {K:Act->World->Prop} {h:Hint} {cz:eN}
def Gy {l:Type} {c:Bool} {x:Option l} {v:l} (h:(bif c then none else x)=some v):x=some v:=by grind
theorem vQ {l:Type} {j i:Nat} {x v:l} (q:find [(j,x)] i=some v):i=j:=by grind[find,beq_iff]
def vY (O:Rel N w0 μ0 L μ loc st a w) {q:Mu} (l:μ.le q):∀{z:List oE} {D:List AV} {B:List Value},kG st z=some D->kT μ loc z B->
  (∀id,oE.r id∈z->∀b j x,lI (loc id) b->H7 w b j=some x->q b j=some x)->cM q D B
 |[],D,B,h,k,_=>by simp[kG,aW] at h;subst h;assumption
 | .v a::z,D,B,h,⟨u,_,e,H,I⟩,G=>by subst e;simp[kG,cB] at h;obtain⟨vs',U,rfl⟩:=h;exact cE (yE l _ _ H) (vY O l U I λid R=>G _ (by simp[R]))
 | .r _::z,D,B,h,⟨u,_,e,H,I⟩,G=>by
  subst e;simp[kG] at h;split at h
  .rename_i v vs' U V;injection h with h;subst h;obtain⟨ob,S,F⟩:=dm.1 U;refine cE ?_ (vY O l V I λid R=>G _ (by simp[R]));have e :=H;rw[e];exact QX (O.obs _ _ S) F l (λb j x hb hc=>G _ ai b j x hb hc)
  grind
 | .p _::z,D,B,h,_,_=>by simp[kG] at h
theorem VS (O:Rel N w0 μ0 L μ loc st a w) {s:SV} {v:AV} {u:Value} (l:mJ st s=some v) (I:fU μ loc s u) {F:Mu} (B:μ.le F)
  (z:∀id∈s.PR,∀b j x,lI (loc id) b->H7 w b j=some x->F b j=some x):rep F v u:=by
 cases s with
 |pv x=>simp[mJ,aW] at l;subst l;exact yE B _ _ I
 |row id=>obtain⟨ob,D,H⟩:=dm.1 l;have e :=I;rw[e];exact QX (O.obs _ _ D) H B (λb j x hb R=>z _ (by simp[SV.PR,SV.ids]) b j x hb R)
 |ag cs=>simp[mJ,cB] at l;obtain⟨vs,hv,rfl⟩:=l;obtain⟨us,rfl,R,h1⟩:=I;exact⟨us,rfl,vY O B hv R (λid hi=>z _ (fk.2 ⟨_,hi,rfl⟩)),h1⟩
 |aq id q=>cases q with
  |full=>simp[mJ] at l
  |bs n=>simp[mJ] at l
  |nr i=>
   simp[mJ] at l;split at l
   .rename_i e sz k U s' xs ys D;split at l
    .rename_i zs hy;obtain⟨m,us,vs,S,hm,V,hrc,hk,h2,h3,h4,h5,h6,h7⟩:=O.obs _ _ D;obtain⟨u',cells,k1,k2,k3,k4,k5⟩:=h4 i _ hy;obtain⟨m',us',e1,_,G⟩:=I;rw[S] at e1;have U:=aP Array.toList (Value.tuple.inj e1);obtain⟨rfl,rfl⟩:=U;have hu:u'=u:=by
      rcases G _ k1 with G|G
      .subst G;rcases k3.2 with⟨e1,_⟩|⟨g,cap,cur,e1,_⟩<;>simp[undef] at e1
      .exact G
     grind[BX,SV.PR,kA]
    simp_all
   simp_all
 |_=>simp[mJ] at l
def BC {id:Nat}:∀{l:List oE} {z:List AV},kG st l=some z->id∈(SV.ag l).ids->∃G,st.ob id=some G
 |[],_,_,h=>by simp[SV.ids] at h
 | .v a::l,z,h,q=>by simp[kG,cB] at h;obtain⟨D,F,rfl⟩:=h;exact BC F (by assumption)
 | .r j::l,z,h,q=>by
  simp[kG] at h;split at h
  .rename_i v D F B;simp only[SV.ids,List.filterMap_cons,aJ] at q;rcases q with rfl|q
   .grind[Option.bind_eq_some_iff]
   .exact BC B (by assumption)
  grind
 | .p j::l,z,h,_=>by simp[kG] at h
def lend_ob {s:SV} {v:AV} (h:mJ st s=some v) {id:Nat} (l:id∈s.PR):∃z,st.ob id=some z:=by cases s with
 |pv x=>simp[SV.PR,SV.ids] at l
 |row j=>simp[SV.PR,SV.ids] at l;obtain⟨z,B,_⟩:=dm.1 (h);simp_all
 |ag F=>simp[mJ,cB] at h;obtain⟨G,D,_⟩:=h;exact BC D l
 |aq j q=>simp[SV.PR] at l;cases q with
  |full=>simp[mJ] at h
  |bs n=>simp[mJ] at h
  |nr i=>grind[mJ]
 |_=>simp[mJ] at h
def Db (F:Rel N w0 μ0 L μ loc st a w) {l:Mu} (D:μ.le l) {xs:List Operand} {q:List TypeId} {z:List AV} (h:jS P st xs q=some z)
  (B:∀x∈xs,∀t s v,bD P t st x=some s->mJ st s=some v->∀id∈s.PR,∀b j x,lI (loc id) b->H7 w b j=some x->l b j=some x):cM l z (xs.map a.eval):=by
 induction xs generalizing q z with
 |nil=>simp_all[jS,dA]
 |cons x xs H=>
  simp[jS] at h;split at h
  .cases G:bD P (q.headD 0) st x with
   |none=>simp_all
   |some I=>grind[cE,VS,bf]
  grind
def Z2 {μ q:Mu} {r:AV} {v:Value} (h:r.plain=true) (k:rep μ r v):rep q r v:=by
 have sc:∀(r) (v),r.scalar=true->rep μ r v->rep q r v:=λr v h k=>by cases r<;>simp[AV.scalar] at h<;>simpa[rep] using k
 cases r with
 |iQ G=>obtain⟨B,e,l⟩:=k;refine⟨B,e,?_⟩;simp[AV.plain] at h;clear e;induction G generalizing B with
  |nil=>assumption
  |cons x xs R=>obtain⟨u,F,rfl,I,O⟩:=l;simp_all[cE]
 |bool b=>assumption
 |int b n=>assumption
 |str s=>assumption
 |dD U xs=>grind[AV.plain]
 |agg D=>grind[AV.plain]
 |fn f z=>grind[AV.plain]
 |ref D=>grind[AV.plain]
 |mp S H=>grind[AV.plain]
 |self n=>assumption
 |rD=>assumption
 |tR=>assumption
 |hole=>assumption
def Ey {D:Mu} {B:Nat->Value} {r:AV} {l:List (Nat×Ob)} {u:Value} {F:World} {q:Qp} (z:fN q μ loc [] r l w u D B F):Below w.heap.size w F:=
 ⟨z.os,z.tape,z.output,z.grown,λb G=>z.keep b G (by rintro⟨id,v,h,_⟩;simp[iy] at h)⟩
def Jo {o:Oper} {c:Call} {f:Operand} {g:Nat} {z l:List Value} {r:AV} {BD:List (Nat×Ob)} (ho:o.op= .call c) (hc:c.callee= .value f) (hf:a.eval f= .func (.func g) #[] l.toArray)
  (U:c.args.toList.map a.eval=z) (he:∀I,(callFunc g (z++l).toArray).run P I= .ok (.enter g (z++l).toArray) I)
  {R:Value->World->Prop} (q:Calls P g (z++l).toArray w λe B=>∃v,e= .returned v/\R v B) (V:∀v B,R v B->K (a.put o.dst v) B):o.uh P a w K Q:=by
 have D:c.args.map a.eval=z.toArray:=by grind
 refine L9 (λc' S=>by simp_all) (x:= .enter g (z++l).toArray) (w':=w) ?_ λF H=> ?_
 .simp_all[execOp,resolve,Deferred.ofValue,invoke]
 .refine⟨H.one,?_⟩;have G:CallsIn _ (0-1) P g _ w _:=uH.2 q;have O :=by
   have:=H;rw[<-this] at G;exact G
  refine O.mono ?_;simp_all
def aev {o:Oper} {c:Call} {f:Operand} {g:Nat} {B z l:List Value} (ho:o.op= .call c) (hc:c.callee= .value f) (hf:a.eval f= .func (.func g) B.toArray l.toArray)
  (V:c.args.toList.map a.eval=z) (he:∀O,(callFunc g (B++(z++l)).toArray).run P O= .ok (.enter g (B++(z++l)).toArray) O)
  {R:Value->World->Prop} (q:Calls P g (B++(z++l)).toArray w λe D=>∃v,e= .returned v/\R v D) (hK:∀v D,R v D->K (a.put o.dst v) D):o.uh P a w K Q:=by
 have G:c.args.map a.eval=z.toArray:=by grind
 refine L9 (λc' U=>by simp_all) (x:= .enter g (B++(z++l)).toArray) (w':=w) ?_ λF I=> ?_
 .simp_all[execOp,resolve,Deferred.ofValue,invoke]
 .refine⟨I.one,?_⟩;have H:CallsIn _ (0-1) P g _ w _:=uH.2 q;have S :=by
   have:=I;rw[<-this] at H;exact H
  refine S.mono ?_;simp_all
def Jv.mono {u:Value} {args:Array Value} {R z:Ending->World->Prop} (h:Jv P u args w R) (S:∀e D,R e D->z e D):Jv P u args w z:=by obtain⟨l,f,B,q,body,G,H,I⟩:=h;exact⟨l,f,_,_,_,G,H,λF O=>(I F O).mono S⟩
def aew {o:Oper} {c:Call} {f:Operand} (ho:o.op= .call c) (V:c.callee= .value f) {R:Value->World->Prop}
  (O:Jv P (a.eval f) (c.args.toList.map a.eval).toArray w λe D=>∃v,e= .returned v/\R v D) (U:∀v D,R v D->K (a.put o.dst v) D):o.uh P a w K Q:=by
 obtain⟨l,g,B,q,body,hf,I,z⟩:=O;have G:c.args.map a.eval=(c.args.toList.map a.eval).toArray:=by grind
 refine L9 (λc' S=>by simp_all) (x:= .round l g B q body) (w':=w) ?_ λF H=> ?_
 .simp_all[execOp,resolve,Deferred.ofValue,invoke]
 .refine⟨H.one,(z F H).mono ?_⟩;simp_all
def Kb (z:Rel N w0 μ0 L μ loc st a w) {f:Operand} {g:Nat} {l:List AV} (h:bD P 0 st f=some (.pv (.fn g l))):∃q:List Value,a.eval f= .func (.func g) #[] q.toArray/\cM μ l q:=by have:=bf z h;assumption
theorem TN {x:Operand} (h:lF st x=false) {t:TypeId} {s:SV} {v:AV} (e:bD P t st x=some s) (l:mJ st s=some v):s.PR=[]:=by cases x with
 |tmp i=>simp[bD] at e;cases s with
  |pv x=>rfl
  |row j=>simp[lF,e] at h
  |ag z=>simp[lF,e] at h
  |aq j q=>simp[lF,e] at h
  |_=>simp[mJ] at l
 |const v=>simp[bD] at e;cases B:ofConst P t v<;>simp_all;subst e;rfl
 |func f=>simp[bD] at e;subst e;rfl
 |global g=>simp[bD] at e
theorem JR (G:Rel N w0 μ0 L μ loc st a w) (B:iB L.q μ0 P cz) {o:Oper} {c:Call} {f:Operand} {g:Nat} {O vs:List AV} {r:AV} (hd:∀i,o.dst=some i->i<N) (ho:o.op= .call c) (hc:c.callee= .value f)
  (hf:bD P 0 st f=some (.pv (.fn g O))) (hvs:jS P st c.args.toList c.argTypes.toList=some vs) (hr:cz g ((vs++O).map .pv) []=some (r,[]))
  (hp:(r.plain|| !(c.args.toList.any (lF st)))=true) (ZB:r.jM=true) (hK:mE N w0 μ0 L (st.set o.dst (.pv r)) K):o.uh P a w K Q:=by
 obtain⟨cs,ZA,hcs⟩:=Kb G hf;cases Vj:c.args.toList.any (lF st) with
 |false=>
  have z:=Db G (Mu.le.refl _) hvs (λx hx t s v e hl id hi=>by grind[TN]);obtain⟨he,hC⟩:=iB.noY (B g _ _ r _ hr w _ loc _ G.base.1 G.xZ (by simp[find]) (by intro i j oi oj hi;simp[find] at hi) (sw (ox z hcs))) λxs=>by simp[find]
  refine Jo (R:=λv w'=>∃D q,fN L.q μ loc [] r [] w v D q w') (r:=r) (BD:=[]) ho hc ZA rfl he (hC.mono ?_) ?_
  .simp
  .rintro v w' ⟨D,q,H⟩;exact hK _ _ _ _ ((G.grow (R6 H.ext) H.xZ (Ey H) H.drawn).set hd (H.pure ZB))
 |true=>
  have I :=by simpa[Vj] using hp
  let l :=λb=>∃id ob,st.ob id=some ob/\lI (loc id) b
  have:∀b,Decidable (l b):=λb=>Classical.propDecidable _
  let F :=λb j=>if l b then H7 w b j else μ b j
  have S:μ.le F:=λb j v hv=>by
   by_cases hb:l b
   .obtain⟨id,ob,U,hbl⟩:=hb;have:=((G.obs _ _ U).block b hbl).2.2 j;simp_all
   grind
  have V:Mb F w:=λb j v hv=>by
   by_cases hb:l b
   .simpa[F,hb] using hv
   .exact G.xZ b j v (by grind)
  have z:=Db G S hvs (λx hx t s v e hl id hi b j u hb R=>by
   obtain⟨ob,U⟩:=lend_ob hl hi;have hrow:l b:=⟨id,ob,U,hb⟩
   simpa[F,hrow] using R)
  obtain⟨he,hC⟩:=iB.noY (B g _ _ r _ hr w _ loc _ (G.base.1.trans S) V (by simp[find]) (by intro i j oi oj hi;simp[find] at hi) (sw (ox z (gj S _ _ hcs)))) λxs=>by simp[find]
  refine Jo (R:=λv w'=>∃D q,fN L.q F loc [] r [] w v D q w') (r:=r) (BD:=[]) ho hc ZA rfl he (hC.mono ?_) ?_
  .simp
  .rintro v w' ⟨D,q,H⟩;exact hK _ _ _ _ ((G.Xn (Ey H) H.drawn).set hd (Z2 I (H.pure ZB)))
def EC (G:Rel N w0 μ0 L μ loc st a w) {xs:List Operand} {D:List AV} (h:um st xs=some D):cM μ D (xs.map a.eval):=by induction xs generalizing D with
 |nil=>simp_all[um,dA]
 |cons x xs I=>cases x with
  |tmp i=>
   simp[um] at h;split at h
   .rename_i v F B l;injection h with h;subst h;obtain⟨u,z,q⟩:=G.env i _ B
    have:a.eval (.tmp i)=u:=by simp[Act.eval,z]
    exact cE (by rw[this];exact q) (I l)
   .rename_i U F B l;injection h with h;subst h;obtain⟨u,z,q⟩:=G.env i _ B
    have:a.eval (.tmp i)=u:=by simp[Act.eval,z]
    obtain⟨b,R,S,e,H,O⟩:=q;exact cE (by rw[this];exact⟨b,_,S,e,H.1,H.2,O⟩) (I l)
   grind
  |_=>simp[um] at h
def EB (G:Rel N w0 μ0 L μ loc st a w) {xs:List Operand} {F:List oE} (h:qM st xs=some F):kT μ loc F (xs.map a.eval):=by induction xs generalizing F with
 |nil=>simp[qM] at h;subst h;rfl
 |cons x xs H=>cases x with
  |tmp i=>
   simp[qM] at h;split at h
   .rename_i v D B l;injection h with h;subst h;obtain⟨u,z,q⟩:=G.env i _ B
    have:a.eval (.tmp i)=u:=by simp[Act.eval,z]
    exact⟨_,_,rfl,by rw[this];exact q,H l⟩
   .rename_i O D B l;injection h with h;subst h;obtain⟨u,z,q⟩:=G.env i _ B
    have:a.eval (.tmp i)=u:=by simp[Act.eval,z]
    obtain⟨b,U,V,e,I,S⟩:=q;refine⟨_,_,rfl,?_,H l⟩;rw[this];exact⟨b,_,V,e,I.1,I.2,S⟩
   .rename_i id D B l;injection h with h;subst h;obtain⟨u,z,q⟩:=G.env i _ B
    have:a.eval (.tmp i)=u:=by simp[Act.eval,z]
    obtain⟨b,R,h2⟩:=q;exact⟨_,_,rfl,⟨b,R,by simp_all⟩,H l⟩
   grind
  |_=>simp[qM] at h
def Ox (G:Rel N w0 μ0 L μ loc st a w) {o:Oper} {g:Nat} {first l:Array Operand} {d:Nat} {I:List AV} (hd:d<N) (z:o.dst=some d) (R:o.op= .makeFunc (.func g) first l) (F:first.isEmpty=true)
  (S:xk st l.toList=some st') (B:um st' l.toList=some I) (V:mE N w0 μ0 L (st'.set (some d) (.pv (.fn g I))) K):o.uh P a w K Q:=by
 obtain⟨U,O,q⟩:=Mx G G S;have H:=EC q B;have D :=by simpa using F
 refine pO q (λi hi=>by simp_all) ⟨.func (.func g) #[] (l.toList.map a.eval).toArray,?_,?_⟩ (by rw[z];omega)
 .unfold execOp;rw[R,D];have e:l.map a.eval=(l.toList.map a.eval).toArray:=by grind
  simp[Instr.makeFunc,e]
 .show rep _ _ _;rw[rep];simp_all
theorem Fp (q:Rel N w0 μ0 L μ loc st a w) {xs:List Operand} (h:mI.iA st xs=some st'):∃l,Rel N w0 μ0 L l loc st' a w:=by induction xs generalizing st μ with
 |nil=>grind[mI.iA]
 |cons x xs H=>cases x with
  |tmp i=>
   simp[mI.iA] at h;split at h
   .rename_i id G;cases z:st.cV id with
    |none=>simp_all
    |some B=>obtain⟨D,_,F⟩:=q.cV z;grind
   grind
  |_=>grind[mI.iA]
def GC (q:Rel N w0 μ0 L μ loc st a w) {xs:List Operand} (h:mI.jN st xs=some st'):∃l,Rel N w0 μ0 L l loc st' a w:=by grind[mI.jN,Fp]
def Rel.addOb (l:Rel N w0 μ0 L μ loc st a w) {id:Nat} {o:Ob} (B:st.ob id=none) (R:nv w0.heap.size L μ loc w id o)
  (I:∀j F,st.ob j=some F->∀g,lI (loc id) g->¬lI (loc j) g):Rel N w0 μ0 L μ loc { st with ob:=put st.ob id (some o) } a w:=by
 refine⟨l.small,l.names,l.fix,l.size,l.defers,l.env,l.xZ,l.base,?_,?_,l.keep,l.os,l.tape,l.output,l.grown,l.drawn⟩
 .intro i S q;by_cases e:id=i
  .simp_all[cZ]
  .exact l.obs i _ (by simp_all[bR])
 .intro i j S F q D z g O;by_cases G:id=i
  .simp_all[bR]
  .simp[bR _ _ G] at q;by_cases H:id=j
   .grind
   .simp[bR _ _ H] at D;exact l.apart i j _ _ q D z g O
def Mw (O:Rel N w0 μ0 L μ loc st a w) {locC:Nat->Value}:∀{xs:List Operand} {H:List TypeId} {F:List SV} {ids:List Nat},E6 P h st xs H=some (F,ids)->(∀id∈ids,locC 10000=loc id)->ig μ locC F (xs.map a.eval):=by intro xs;induction xs with
 |nil=>intro H F ids B _;obtain⟨rfl,rfl⟩:=B;rfl
 |cons x xs R=>
  intro H F ids B z;simp[E6] at B;split at B
  .rename_i id I D l q;obtain⟨rfl,rfl⟩:=B;refine⟨_,_,rfl,?_,R q (λi V=>z i (by simp[V]))⟩;show a.eval x=fS _;rw[z id ai];cases x with
   |tmp t=>simp only[pH] at l;cases S:h.fT.contains t with
    |false=>simp_all
    |true=>
     simp only[S] at l;split at l
     .rename_i id' U;injection l with l;subst l;obtain⟨v,B,hr⟩:=O.env t _ U
      have:a.eval (.tmp t)=v:=by simp[Act.eval,B]
      rw[this];exact hr
     simp_all
   |_=>simp[pH] at l
  .rename_i I D l q;split at B
   .rename_i v G;obtain⟨rfl,rfl⟩:=B;exact⟨_,_,rfl,fP O G,R q z⟩
   simp_all
  simp_all
theorem Mi (R:Rel N w0 μ0 L μ loc st a w) (wW:iB L.q μ0 P cz) {o:Oper} {c:Call} {f:Operand} {st1:St} (hd:∀i,o.dst=some i->i<N) (ho:o.op= .call c) (hc:c.callee= .value f)
  (U:qf P h cz st c f o.dst=some st1) (hK:mE N w0 μ0 L st1 K):o.uh P a w K Q:=by
 unfold qf at U;split at U
 .rename_i g caps vs id hf hvs;split at U
  .rename_i e sz xs qQ;split at U
   .rename_i r' nm D F B hr;cases hb:(Nat.beq e D&&Nat.beq sz F&&Nat.beq nm 10000) with
    |false=>simp_all
    |true=>
     simp only[hb,ak] at U;simp only[aS] at hb;obtain⟨cs,ZA,hcs⟩:=Kb R hf;let z:Nat->Value:=λ_=>loc id
     have hok:=R.obs id _ qQ;have hargs:=Mw R (locC:=z) hvs (λi hi=>by grind);have Sr:∀i oi,find [(10000,Ob.row e sz xs)] i=some oi->nv w.heap.size (iy L.q z ([(10000,Ob.row e sz xs)].map (·.1))) μ z w i oi:=by intro i oi hi;simp only[find] at hi;cases V:Nat.beq 10000 i with
      |false=>simp_all
      |true=>simp only[V,ak,aW] at hi;subst hi;have:=beq_iff.1 V;subst this;obtain⟨us,G,hrc,hm⟩:=hok;refine⟨us,G,hrc,λq O=>⟨.inr (.inr ⟨loc id,by rfl,O⟩),(hm q O).2⟩⟩
     obtain⟨he,hC⟩:=iB.noY (wW g _ _ r' _ hr w μ z (c.args.toList.map a.eval++cs) R.base.1 R.xZ Sr (by
      intro i j oi oj hi hj hij
      grind[vQ]) (mz hargs (sw hcs))) λxs h=>by simp[find] at h
     refine Jo (R:=λv w'=>∃μ' I,fN L.q μ z ([(10000,Ob.row e sz xs)].map (·.1)) r' [(nm,Ob.row D F B)] w v μ' I w') (r:=r') (BD:=[]) ho hc ZA rfl he (hC.mono ?_) ?_
     .simp
     .rintro v w' ⟨μ',I,H⟩;have hlb:∀b,Nj (iy L.q z ([(10000,Ob.row e sz xs)].map (·.1))) b->lI (loc id) b:=by
       rintro b ⟨i,x,l,Vk⟩;simp only[iy] at l;split at l
       .grind
       .cases l
      have hng:∀b,¬Vi (iy L.q z ([(10000,Ob.row e sz xs)].map (·.1))) b:=by
       rintro b ⟨i,x,h9,h10,l,_⟩;simp only[iy] at l;split at l
       .simp_all
       .cases l
      have h1:=(R.drop id).world (w':=w') (μ':=μ') H.ext.1 (λb j x l=>by
        rcases H.ext.2 b j x l with l|l|l
        .simp_all
        .exact .inr (.inl (e7 R.grown l))
        simp_all) H.xZ (λk ok hk b hbk=>by
        by_cases D:id=k
        .simp_all[cZ]
        .simp only[bR _ _ D] at hk;obtain⟨_,hlt,C8⟩:=(R.obs k ok hk).block b hbk;refine⟨H.keep b hlt (λhl=>R.apart id k _ ok qQ hk D b (hlb b hl) hbk),λj=> ?_⟩;cases hj:μ' b j with
         |none=>rfl
         |some x=>
          rcases H.ext.2 b j x hj with l|l|l
          .simp_all
          .omega
          simp_all) (λb V hl=>H.keep b (e8 V R.grown) (λhl'=>by
        have hbb:=hlb b hl';rcases(hok.block b hbb).1 with l|l|⟨x,l,Vk⟩
        .omega
        .exact hl l.cL
        .exact hl ⟨id,x,l,Vk⟩)) H.os H.tape H.output H.grown H.drawn
      have hnm:I nm=loc id:=by have:=beq_iff.1 hb.2;exact H.fix nm (by simp[this]) af af
      obtain⟨us,G,hrc,hm⟩:=H.obs nm (.row D F B) (by simp[find,jW]);rw[hnm] at G hm;split at U
      .rename_i n;cases Vl:(Nat.ble n B.length&&gO id) with
       |false=>simp_all
       |true=>
       simp only[Vl,ak,aW] at U;subst U;simp only[aS] at Vl;have hnl:n<=B.length:=fI Vl.1;obtain⟨A,m,cp,S,hnm',hvv⟩:∃A m cp,I 10000= .slice A m cp/\n<=m/\v= .slice A n cp:=by
        rcases H.res with l|⟨n',A,m,cp,e1,_,h1,h2,h3⟩|⟨_,e1,_⟩|⟨_,_,_,_,e1,_⟩
        .rw[rep] at l;simp_all
        .grind
        .cases e1
        simp_all
       have e10:=beq_iff.1 hb.2;rw[e10] at hnm;rw[hnm] at S;have hid:id<10000\/20000<=id:=by have Nc:=Vl.2;simp only[gO,gK] at Nc;rcases Nc with hm|hm<;>simp_all
       have hblk:∀q,lI v q↔lI (loc id) q:=λq=>by rw[hvv,S,ia,ia];cases A<;>rfl
       have h2:=h1.new (id:=id) (val:=v) (o:= .row D F (B.take n)) hid ?_ (λj oj hj hne q O=>by
        simp only[bR _ _ (c9 hne)] at hj
        exact R.apart id j _ oj qQ hj (c9 hne) q ((hblk q).1 O))
       .have heq:(St.new { env:=st.env,ob:=put st.ob id none } id (.row D F (B.take n)))=st.new id (.row D F (B.take n)):=by
         simp only[St.new,St.dw];congr 1;funext k;by_cases D:id=k
         .subst D;simp[cZ]
         .simp only[bR _ _ D]
        rw[heq] at h2;exact hK _ _ _ _ (h2.set hd (sv:= .row id) (Lh (by rw[hvv];rfl)))
       .have hlen:(B.take n).length=n:=aH;have ZE:=lu hrc n;refine⟨us.take (n *F),⟨by rw[dc ZE],?_⟩,ZE,λq O=> ?_⟩
        .rw[cI,hlen,hvv];rcases G.2 with⟨e1,e2⟩|⟨q,cap,cur,e1,k1,k2,k3,k4,k5,k6⟩
         .grind
         .rw[S] at e1;simp only[Value.slice.injEq] at e1;obtain⟨rfl,rfl,rfl⟩:=e1;refine .inr ⟨q,cp,cur,rfl,k1,k2,by omega,k4,k5,?_⟩;rw[<-k6,List.take_take,wP (jV _ hnl)]
        .rw[cI,hblk q] at O;exact⟨(hok.block q O).1,(hm q O).2⟩
      .cases Ul:r'.plain with
       |false=>simp_all
       |true=>
       simp[Ul,ak,aW] at U;subst U;have Gl:nv _ L _ _ _ _ (.row _ _ _):=⟨us,G,hrc,λq O=>⟨(hok.block q O).1,(hm q O).2⟩⟩
       have h2:=h1.addOb (by simp[cZ]) Gl (λj oj hj q O=>by
        by_cases D:id=j
        .simp_all[cZ]
        .simp[bR _ _ D] at hj
         exact R.apart _ j _ _ qQ hj D q O)
       have heq:({ env:=st.env,ob:=put (put st.ob id none) id (some (.row D F B)) }:St)={ env:=st.env,ob:=put st.ob id (some (.row D F B)) }:=by
        congr 1;funext k;by_cases D:id=k
        .subst D;simp[cZ]
        .simp[bR _ _ D]
       rw[heq] at h2;exact hK _ _ _ _ (h2.set hd (H.pure (Pv Ul)))
   simp_all
  simp_all
 simp_all
def Sh {B:Nat} {z:List (Nat×Nat×TypeId×Nat)} {id:Nat} {e:TypeId} {D:Nat} {loc:Nat->Value}:∃val,fS val= .slice none 0 0/\(∀g,¬lI val g)/\nv B L μ (qG loc id val) w id (Kc z id e D):=by
 have r:∃val,fS val= .slice _ 0 0/\(∀g,¬lI val g)/\nv B L μ (qG loc id val) w _ (.row e D []):=
  ⟨_,rfl,λg l=>by simp[lI,bH] at l,[],⟨ai, .inl ⟨cI _ _ _,rfl⟩⟩,rfl,λg l=>by simp_all[cI,lI,bH]⟩
 unfold Kc;split
 .rename_i k H I _;cases F:Nat.blt k _ with
  |false=>exact r
  |true=>refine⟨_,rfl,λg l=> ?_,_,[],[],cI _ _ _,λq G=>(by simp[bH] at G),⟨ai, .inl ⟨rfl,rfl⟩⟩,rfl,⟨cN.mp F,ai⟩,rfl,rfl,by simp,by simp,by simp,ai⟩;simp_all[kA,bH]
 omega
def qE (R:Rel N w0 μ0 L μ loc st a w) {F:List (Nat×Nat×TypeId×Nat)}:∀(l:List (Nat×TypeId×Nat)) (st:St) (loc:Nat->Value),Rel N w0 μ0 L μ loc st a w->(∀x∈l,x.1<10000)->
  ∃q,Rel N w0 μ0 L μ q (iP F l st) a w/\(∀x∈l,fS (q x.1)= .slice none 0 0)/\∀i,fS (loc i)= .slice none 0 0->fS (q i)= .slice none 0 0
 |[],st,loc,h,_=>⟨_,h,by simp,λ_ h=>h⟩
 |(id,e,s)::l,st,loc,h,G=>by
  obtain⟨val,V,B,D⟩:=Sh;have H:=h.new (.inl (G (id,e,s) ai)) D (λj oj hj _ g S=>absurd S (B g));obtain⟨q,I,U,O⟩:=qE R l _ _ H (λx z=>G x (by simp[z]));refine⟨_,I,λx z=> ?_,λi hi=>O i ?_⟩
  .rcases aJ.1 z with rfl|z
   .simp_all[cI]
   grind
  grind[cI,cQ]
def xJ {d:Nat} {pz:List Nat}:∀(j:Nat) (R:List TypeId) (G:List Value) (z:List SV) (l:List (Nat×TypeId×Nat)),nW P pz d j R G=some (z,l)->
  (∀x∈l,x.1<10000)/\(∀u∈G,u.oneCell'=true)/\∀(loc:Nat->Value),(∀x∈l,fS (loc x.1)= .slice none 0 0)->ig μ loc z G
 |j,[],[],z,l,q=>by simp only[nW,aW,ck] at q;obtain⟨rfl,rfl⟩:=q;exact⟨ai,by simp,λ_ _=>rfl⟩
 |j,[],_::_,z,l,q=>by simp[nW] at q
 |j,_::_,[],z,l,q=>by simp[nW] at q
 |j,t::R,v::G,z,l,q=>by
  simp only[nW] at q;split at q
  .rename_i F l' B;obtain⟨i1,i2,U⟩:=xJ (j+1) R G F _ B;split at q
   .rename_i e s hs;cases I:(Nat.blt 0 s&&Nat.blt (5000+16 *d+j) 10000) with
    |false=>simp_all
    |true=>
     simp[I] at q;obtain⟨rfl,rfl⟩:=q;simp at I;have V :=by have:=I.2;simpa[cN] using this
     refine⟨λx S=> ?_,λu D=> ?_,λloc O=> ?_⟩
     .grind
     .rcases aJ.1 D with rfl|D
      .rfl
      simp_all
     .exact⟨_,_,rfl,(by show _=fS _;simp_all),U _ (λx S=>O x (by simp[S]))⟩
   .simp at q;obtain⟨av,H,rfl,rfl⟩:=q;have hr:=xg (μ:=μ) H;refine⟨i1,λu D=> ?_,λloc O=>⟨_,_,rfl,hr,U _ O⟩⟩;rcases aJ.1 D with rfl|D
    .unfold ofConst at H;split at H<;>first|rfl|cases H
    simp_all
  simp_all
def Ml (G:Rel N w0 μ0 L μ loc st a w) {o:Oper} {d:Nat} {t:TypeId} {B:List SV} {l:List (Nat×TypeId×Nat)} (hd:d<N) (z:o.dst=some d) (ho:o.op= .alloc t)
  (hz:((yP P t).bind λI=>nW P ((find h.Pn d).getD []) d 0 (td P 8 t) I)=some (B,l)) (V:mE N w0 μ0 L (((iP h.nest l st).new d (.box t (B.map (SV.dw d)))).set (some d) (.ptr d 0)) K):o.uh P a w K Q:=by
 obtain⟨I,q,F⟩:=dm.1 hz;unfold yP at q;split at q
 .simp at q;obtain⟨v,hzv,rfl⟩:=q;obtain⟨O,R,S⟩:=xJ 0 _ _ _ _ F;obtain⟨H,D,U,_⟩:=qE G l _ _ G O;refine EI D hd z ?_ (xm _ _ (S _ U)) R V;simp_all[execOp,Instr.alloc,zeroValue,typeInfo,newVar,newRow]
 simp_all
def Pq (D:Rel N w0 μ0 L μ loc st a w) {s:SV} {l:List SV} {u:Value} (h:GA st s=some l) (k:fU μ loc s u):ig μ loc l u.cells.toList/\∀x∈u.cells.toList,x.oneCell'=true:=by
 unfold GA at h;split at h
 .injection h with h;subst h;obtain⟨F,rfl,B,q⟩:=k;simp_all[Value.cells,sw]
 .cases z:oI st s with
  |false=>simp_all
  |true=>rw[z] at h;simp at h;subst h;obtain⟨B,q⟩:=Wf D z k;rw[q];exact⟨⟨_,[],rfl,k,rfl⟩,by simp_all⟩
def Hx (U:Rel N w0 μ0 L μ loc st a w) {place:Nat->Option (Nat×Nat)} {ty:Nat->TypeId}:∀{q:List (Nat×Operand)} {S:List (Nat×List SV)} {cells O:List SV} {I:List Value},qJ P ty st q=some S->Hw place cells S=some O->ig μ loc cells I->(∀u∈I,u.oneCell'=true)->
  ∃ws:List Value,Instr.fill place I.toArray (q.map λp=>(p.1,a.eval p.2))=some ws.toArray/\ig μ loc O ws/\∀u∈ws,u.oneCell'=true
 |[],S,cells,O,I=>λG H R h4=>by simp_all[qJ,Hw,Instr.fill]
 |(i,x)::q,S,cells,O,I=>λG H R h4=>by
  simp[qJ] at G;split at G
  .rename_i l rest hx D;injection G with G;subst G;obtain⟨sx,V,hl⟩:=dm.1 hx;obtain⟨hc,hone⟩:=Pq U hl (bf U V);simp only[Hw] at H;split at H
   .cases H
   .rename_i F size Ul;split at H
    .rename_i z;have hlen :=by
      have:=qk hc;simpa[z.1] using this
     have hvl:=qk R;have B:=mz (mz (D0 R F) hc) (DZ R (F+size));obtain⟨ws,hw,hr,ho⟩:=Hx U D H B (λu hu=>by grind);simp[bw,Instr.fill];have hsp:=Ib I (a.eval x).cells.toList F 0 aH;grind[Array.toList_zipIdx]
    simp_all
  simp_all
def C0:∀{D:List SV} {l:List oE} {B:List Value},wS st D=some l->ig μ loc D B->kT μ loc l B
 |[],l,B=>λh k=>by simp[wS,aW] at h;subst h;exact k
 |s::D,l,B=>λh ⟨u,O,e,F,I⟩=>by
  simp[wS] at h;split at h
  .rename_i c G q z;injection h with h;subst h;refine⟨u,O,e,?_,C0 z I⟩;unfold aa2 at q;cases H:oI st s with
   |false=>simp_all
   |true=>
    rw[H] at q;split at q
    .injection q with q;subst q;exact F
    .injection q with q;subst q;exact F
    simp_all
  grind
def Mn (V:Rel N w0 μ0 L μ loc st a w) {hh:Hint} {o:Oper} {d:Nat} {t:TypeId} {q:Array (Nat×Operand)} (hd:d<N) (F:o.dst=some d) (ho:o.op= .build t q) (h:vw P hh st d t q.toList=some st') (hK:mE N w0 μ0 L st' K):o.uh P a w K Q:=by
 unfold vw at h;split at h
 .rename_i U svs l hu hz;cases G:U.toList.all (λf=>(lJ P f.type).isSome) with
  |false=>simp_all
  |true=>
   rw[G] at h;simp only[ak] at h;split at h
   .rename_i ps R;split at h
    .rename_i cs O;injection h with h;subst h;obtain⟨sv2,hf,I⟩:=dm.1 O;obtain⟨vs,z,B⟩:=dm.1 hz;unfold yP at z;split at z
     .rename_i i hi;simp only[cB] at z;obtain⟨v,hzv,rfl⟩:=z;obtain⟨h1,h2,h3⟩:=xJ 0 _ _ _ _ B;obtain⟨loc',D,h4,_⟩:=qE V l _ _ V h1;obtain⟨ws,hw,hr,H⟩:=Hx D R hf (h3 _ h4) h2;refine gB (v:= .agg ws.toArray) (w':=w) ?_ ?_
      .obtain⟨S⟩:=U;have Ul:=run_places (w:=w) _ G;have hpe:(λx=>Option.map (λf:Field=>(f.offset,(lJ P f.type).getD 0)) S[x]?)=pN P t:=by
        funext x;simp[pN,wU,hu,Hf];cases hx:S[x]? with
        |none=>rfl
        |some fd=>grind[Option.isSome_iff_exists]
       simp_all[execOp,Instr.build,zeroValue,typeInfo,bM]
      .rw[F];exact hK _ _ _ _ (D.set (λi hi=>by simp_all) ⟨ws,rfl,C0 I hr,H⟩)
     simp_all
    grind
   grind
 grind
def mW:∀{l:List Nat},distinct l=true->l.Nodup
 |[],_=>yV
 |x::l,h=>by simp[distinct,aS] at h;refine gC.2 ⟨λq=> ?_,mW h.2⟩;simp_all
def mY {q:Type}:∀{l:List (Nat×q)} {i:Nat} {v:q},find l i=some v->(i,v)∈l
 |[],_,_,h=>by simp[find] at h
 |(j,u)::l,i,v,h=>by simp[find] at h;cases z:Nat.beq j i with
  |true=>simp_all
  |false=>simp[z] at h;exact dz _ (mY h)
def M6 {z:Type}:∀{l:List (Nat×z)} {i:Nat},find l i=none->i∉l.map (·.1)
 |[],_,_=>by simp
 |(j,u)::l,i,h=>by simp[find] at h;cases q:Nat.beq j i with
  |true=>simp_all
  |false=>simp[q] at h;simp only[bw,aJ,not_or];exact⟨λe=>by simp_all,M6 h⟩
def jR {z:Type}:∀{l:List (Nat×z)} {i:Nat} {v:z},(l.map (·.1)).Nodup->(i,v)∈l->find l i=some v
 |[],_,_,_,h=>by simp at h
 |(j,u)::l,i,v,q,h=>by
  simp at q;simp[find];rcases aJ.1 h with h|h
  .simp_all
  .have:j≠i:=λe=>by simp_all
   rw[aaT this];exact jR q.2 h
def tQ (q:Nat->Bool):∀(k:Nat) (l:List Nat),(ja q k l).map (·.1)=l
 |_,[]=>rfl
 |k,id::l=>by simp[ja,tQ _ _ l]
def Dg (q:Nat->Bool):∀(k:Nat) (l:List Nat),k+l.length<=10000->∀p∈ja q k l,(q p.1=true->20000+k<=p.2)/\(q p.1=false->10000+k<=p.2/\p.2<20000)
 |_,[],_,p,h=>by simp[ja] at h
 |k,id::l,z,p,h=>by
  simp at z;simp[ja,aJ] at h;rcases h with rfl|h
  .grind
  .have:=Dg _ _ l af p h;grind
def Nu (q:Nat->Nat):∀(k:Nat) (l:List Nat),(qu q k l).map (·.1)=l
 |_,[]=>rfl
 |k,id::l=>by simp[qu,Nu _ _ l]
def rz (q:Nat->Nat):∀(k:Nat) (l:List Nat),∀p∈qu q k l,p.1∈l/\q p.1+k<=p.2/\p.2<q p.1+k+l.length
 |_,[],p,h=>by simp[qu] at h
 |k,id::l,p,h=>by
  simp[qu,aJ] at h;rcases h with rfl|h
  .simp
  .obtain⟨z,B,D⟩:=rz _ _ l p h;grind
def ClOK (q:Nat->Nat) (n:Nat) (l:List Nat):Prop:=n<=10000/\∀id∈l,q id=9000/\n<=1000\/q id=10000\/q id=20000
def HL (z:Nat->Nat):∀(k:Nat) (l:List Nat),ClOK z (k+l.length) l->((qu z k l).map (·.2)).Nodup
 |_,[],_=>by simp[qu]
 |k,id::l,q=>by
  simp only[qu,bw,gC];have B:ClOK z (k+1+l.length) l:=⟨by have:=q.1;grind,λi F=>by have:=q.2 i (by simp[F]);grind⟩
  refine⟨λG=> ?_,HL _ _ l B⟩;obtain⟨p,H,e⟩:=aD.1 G;obtain⟨D,S,U⟩:=rz _ _ l p H;have I:=q.2 id ai;have O:=q.2 p.1 (by simp[D]);have R:=q.1;grind
def Nt (q:Nat->Bool):∀(k:Nat) (l:List Nat),qu (E9 q) k l=ja q k l
 |_,[]=>rfl
 |k,id::l=>by simp[qu,ja,Nt _ _ l,E9];grind
theorem xQ (D:Nat->Bool):∀(k:Nat) (l:List Nat),k+l.length<=10000->((ja D k l).map (·.2)).Nodup
 |_,[],_=>by simp[ja]
 |k,id::l,q=>by simp at q;simp only[ja,bw,gC];refine⟨λz=> ?_,xQ _ _ l af⟩;obtain⟨p,B,e⟩:=aD.1 z;have:=Dg _ _ l af p B;grind
def yO:∀(m:List (Nat×Nat)),(swap m).map (·.1)=m.map (·.2)
 |[]=>rfl
 |(a,b)::l=>by simp[swap,yO l]
def BG:∀{m:List (Nat×Nat)} {a b:Nat},(a,b)∈m->(b,a)∈swap m
 |(x,y)::l,a,b,h=>by
  rcases aJ.1 h with h|h
  .simp_all[swap]
  .exact dz _ (BG h)
def BU {loc l:Nat->Value} {G:Nat->Nat} {names:List Nat} (q:∀j∈names,l (G j)=loc j):∀{z:List oE} {B:List Value},SV.closed names (.cl 0 z)=true->kT μ loc z B->kT μ l (z.map (oE.kD G)) B
 |[],B,_,h=>h
 |c::z,B,F,⟨u,O,e,D,H⟩=>by simp[SV.closed,jC,aS] at F;refine⟨u,O,e,?_,BU q (by simpa[SV.closed] using F.2) H⟩;cases c with
  |v a=>exact D
  |p id=>obtain⟨b,R,I⟩:=D;exact⟨b,by simp_all,I⟩
  |r id=>show u=fS _;rw[q _ (by simp_all)];exact D
def K9 {loc z:Nat->Value} {R:Nat->Nat} {names:List Nat} (B:∀j∈names,z (R j)=loc j) {s:SV} {v:Value} (G:s.closed names=true) (h:fU μ loc s v):fU μ z (s.kD R) v:=by induction s generalizing v with
 |two s t V H=>obtain⟨x,y,e,h,l⟩:=h;obtain⟨U,c2⟩:=pX.1 G;exact⟨x,y,e,V U h,H c2 l⟩
 |undef=>exact h
 |any=>exact h
 |pv x=>exact h
 |cp cs=>exact h
 |ptr j I=>obtain⟨b,D,l⟩:=h;exact⟨b,by simp_all[SV.closed],l⟩
 |row j=>show v=fS _;rw[B j (by simpa[SV.closed] using G)];exact h
 |rp j sz i I=>obtain⟨g,n,c,D,l⟩:=h;exact⟨g,n,c,by simp_all[SV.closed],l⟩
 |sub j sz lo hi=>obtain⟨A,n,c,S,c',D,l⟩:=h;exact⟨A,n,c,S,c',by simp_all[SV.closed],l⟩
 |cl f F=>obtain⟨O,e,D⟩:=h;exact⟨O,e,BU B (by assumption) D⟩
 |ag F=>obtain⟨O,e,D,l⟩:=h;exact⟨O,e,BU B (by assumption) D,l⟩
 |aq j q=>simp[SV.closed] at G
def GF {loc l:Nat->Value} {F:Nat->Nat} {names:List Nat} (q:∀j∈names,l (F j)=loc j):∀{z:List SV} {B:List Value},z.all (SV.closed names)=true->ig μ loc z B->ig μ l (z.map (SV.kD F)) B
 |[],B,_,h=>h
 |c::z,B,D,⟨u,I,e,G,H⟩=>by simp only[jC,aS] at D;exact⟨u,I,e,K9 q D.1 G,GF q D.2 H⟩
def KV {n0 R:Nat} {L L':sQ} {loc z:Nat->Value} {ρ:Nat->Nat} {names:List Nat} (hρ:∀j∈names,z (ρ j)=loc j) {id H:Nat} {o:Ob} (hc:o.closed names=true) (h:nv n0 L μ loc w id o) (hid:z H=loc id)
  (l:∀b,lI (loc id) b->Gz R L' H b) (hq:L'.q=L.q:=by rfl):nv R L' μ z w H (o.kD ρ):=by
 cases o with
 |box t cells=>obtain⟨b,I,B,ho,O,D,hs,S⟩:=h;exact⟨b,I,by simp_all,l b (by rw[B];exact tj.2 rfl),O,D,GF hρ hc hs,S⟩
 |row e sz xs=>obtain⟨I,hw,G,D⟩:=h;exact⟨I,by simp_all,G,λg V=>by simp_all⟩
 |mp k e ks es=>obtain⟨b,dM,clock,B,ho,O,D,S,U,hB⟩:=h;exact⟨b,_,_,by simp_all,l b (by rw[B];exact wZ.2 rfl),O,D,S,U,hB⟩
 |mr k e sz ks I=>simp[Ob.closed] at hc
 |rn e s k e' s' xs ys=>obtain⟨m,us,I,B,D,F,G,hk,U,h3,h4,h5,h6,h7⟩:=h;refine⟨m,us,I,by simp_all,λq hq=>⟨l q (by rw[B];exact kA.2 (.inl hq)),(D q hq).2⟩,F,G,hk,U,h3,λi zs hi=> ?_,h5,h6,h7⟩;obtain⟨u,cells,k1,k2,k3,k4,k5⟩:=h4 i zs hi;exact⟨u,cells,k1,k2,k3,k4,λg V=>⟨l g (by rw[B];exact kA.2 (.inr ⟨u,aZ k1,V⟩)),(k5 g V).2⟩⟩
 |it s pos=>obtain⟨b,B,ho,O,D⟩:=h;exact⟨b,by simp_all,l b (by rw[B];exact tj.2 rfl),O,D⟩
 |lp xs=>obtain⟨us,B,S,U⟩:=h;exact⟨us,by simp_all,λg V=>by simp_all,by simp_all⟩
def Fq {tm:Nat->Option Value}:∀(l:List Nat) (st:St) (loc q:Nat->Value),(∀i,i∉l->q i=loc i)->(∀i s,st.env i=some s->∃v,tm i=some v/\fU μ loc s v)->∀i s,(fG l st).env i=some s->∃v,tm i=some v/\fU μ q s v
 |[],st,loc,q,B,h,i,s,z=>by
  have :=funext λi=>B i ai
  rw[this];exact h i s z
 |id::l,st,loc,q,B,h,i,s,z=>by
  refine Fq l _ (qG loc id (q id)) _ (λi D=> ?_) (λi s z=> ?_) i s z
  .grind[cI,cQ]
  .simp[St.dw,cB] at z;grind[z6]
def HU:∀(l:List Nat) (st:St) (loc q:Nat->Value),(∀i,i∉l->q i=loc i)->∀i B,(fG l st).ob i=some B->i∉l/\∃o,st.ob i=some o/\∀D L μ w,nv D L μ loc w i o->nv D L μ q w i B
 |[],st,loc,q,G,i,B,z=>by
  have :=funext λi=>G i ai
  rw[this];exact⟨ai,B,z,λ_ _ _ _ h=>h⟩
 |id::l,st,loc,q,G,i,B,z=>by
  obtain⟨I,R,F,H⟩:=HU l _ (qG loc id (q id)) q (λi O=>by grind[cI,cQ]) i _ z;by_cases e:id=i
  .simp_all[St.dw,cZ]
  .simp[St.dw,bR _ _ e,cB] at F;obtain⟨o,z,rfl⟩:=F;exact⟨by grind,o,z,λD L μ w h=>H _ L _ w (DU h (c9 e))⟩
def Ew (F:Rel N w0 μ0 L μ loc st a w):∀{xs:List Operand} {z:List TypeId} {q:List SV},uk P h st xs z=some q->ig μ loc q (xs.map a.eval)
 |[],z,q,l=>by simp[uk,aW] at l;subst l;rfl
 |x::xs,z,q,l=>by
  simp[uk] at l;split at l
  .rename_i v G B D;injection l with l;subst l;refine⟨_,_,rfl,?_,Ew F D⟩;unfold aaR at B
   all_goals first
    |grind[bf]
    |cases B
    |(cases H:isRef h x with
      |false=>simp_all
      |true=>grind[bf])
  simp_all
def xO {ids:List Nat} {F:Nat->Nat}:∀{l:List (Nat×Nat)} {cL:List (Nat×Ob)},jT st ids F l=some cL->cL.map (·.1)=l.map (·.2)/\∀B D,(B,D)∈cL->∃id o,(id,B)∈l/\st.ob id=some o/\o.closed ids=true/\D=o.kD F
 |[],cL,z=>by simp_all[jT]
 |(id,B)::l,cL,z=>by
  simp[jT] at z;split at z
  .rename_i o R O q;cases I:o.closed ids with
   |false=>simp_all
   |true=>obtain⟨G,H⟩:=xO q;grind
  simp_all
def xG {names:List Nat} {H:Nat->Nat}:∀{l:List (Nat×Nat)} {cL q:List (Nat×Ob)},mS names H l cL=some q->cL.map (·.1)=l.map (·.2)/\q.map (·.1)=l.map (·.1)/\∀id G,(id,G)∈q->∃B o,(id,B)∈l/\(B,o)∈cL/\o.closed names=true/\G=o.kD H
 |[],[],q,z=>by simp_all[mS]
 |[],_::_,q,z=>by simp[mS] at z
 |_::_,[],q,z=>by simp[mS] at z
 |(id,B)::l,(F,o)::U,q,z=>by simp[mS] at z;cases D:(Nat.beq B F&&o.closed names) with
  |false=>simp_all
  |true=>simp[D,ak,cB] at z;obtain⟨r,I,rfl⟩:=z;simp only[aS] at D;have:=beq_iff.1 D.1;obtain⟨O,R,S⟩:=xG I;grind
def KG {l:Nat->Bool} {id:Nat} (h:l id=true->gO id=true):E9 l id=10000\/E9 l id=20000/\gO id=true:=by unfold E9;grind
def Vh {st:St} {l:Nat->Bool} {id:Nat} (h:l id=true->gO id=true):Ki st l id=9000\/Ki st l id=10000\/Ki st l id=20000/\gO id=true:=by unfold Ki;cases Vv _ _ with
 |true=>simp
 |false=>exact .inr (KG h)
def PA {z:Nat->Option Ob} {B:SV} {v:Value} (h:fU μ loc B v) (l:∀id t cells,z id=some (.box t cells)->∃b,loc id= .pointer (some ⟨b,0,none⟩)):fU μ loc (K1 z B) v:=by
 unfold K1;split
 .split
  .rename_i D;obtain⟨b,q⟩:=l _ _ _ D;exact⟨b,q,by rw[h,q];rfl⟩
  omega
 omega
def BJ:∀{l:List Nat},l.Nodup->distinct l=true
 |[],_=>rfl
 |x::l,h=>by have:=gC.1 h;simp[distinct,this.1,BJ this.2]
def Ka {R:SV} {v:Value} {g:Nat} {pre z:List SV} (D:fU μ loc R v) (l:Se R=some (g,pre,z)):∃O I:List Value,ig μ loc pre O/\ig μ loc z I/\((g<2000000/\v= .func (.func g) O.toArray I.toArray)\/(2000000<=g/\O=[]/\∃u,I=[u]/\v=clV g [u])):=by
 unfold Se at l;split at l
 .rename_i U H;cases B:Nat.blt U 1000000 with
  |false=>simp_all
  |true=>
  rw[B] at l;obtain⟨rfl,rfl,rfl⟩:=l;obtain⟨G,e,F⟩:=D;exact⟨[],G,rfl,sw F, .inl ⟨e8 (cN.mp B) (by decide),e⟩⟩
 .obtain⟨G,e,F⟩:=D;cases B:Nat.blt _ _ with
  |true=>rw[B] at l;obtain⟨rfl,rfl,rfl⟩:=l;exact⟨[],G,rfl,sU F, .inl ⟨e8 (cN.mp B) (by decide),by simp_all[clV]⟩⟩
  |false=>rw[B] at l;cases q:Nat.blt _ _ with
   |true=>rw[q] at l;simp at l;obtain⟨rfl,rfl,rfl⟩:=l;exact⟨G,[],sU F,rfl, .inl ⟨nF (Nat.sub_le _ _) (cN.mp q),by simp_all[clV]⟩⟩
   |false=>
    rw[q] at l;split at l
    .rename_i S;obtain⟨rfl,rfl,rfl⟩:=l;obtain⟨u,us',e1,V,h2⟩:=F;have :=h2;subst this e1;refine⟨[],_,rfl,sU (caps:=[S]) ⟨u,[],rfl,V,rfl⟩, .inr ⟨?_,rfl,u,rfl,e⟩⟩;cases Nat.lt_or_ge _ _ with
     |inl h=>rw[cN.mpr h] at q;grind
     |inr h=>exact h
    simp_all
 simp_all
def Bo (V:Rel N w0 μ0 L μ loc st a w) (wW:iB L.q μ0 P cz) {o:Oper} {c:Call} {f:Operand} {st1:St} (hd:∀i,o.dst=some i->i<N) (ho:o.op= .call c) (hc:c.callee= .value f)
  {g:Nat} {args:List SV} {cl:Nat->Nat} {ps cs:List Value} (hall0:ig μ loc args (ps++(c.args.toList.map a.eval++cs))) (hcl:∀id,cl id=9000\/cl id=10000\/cl id=20000/\gO id=true)
  (ZA:(g<2000000/\a.eval f= .func (.func g) ps.toArray cs.toArray)\/(2000000<=g/\ps=[]/\∃v,cs=[v]/\a.eval f=clV g [v]))
  (hv:jZ cz st g args cl o.dst=some st1) (hK:mE N w0 μ0 L st1 K):o.uh P a w K Q:=by
 unfold jZ at hv;simp only[] at hv;generalize hids:gN st 200 (args.flatMap SV.ids) []=ids at hv;generalize hm:qu cl 0 ids=m at hv;generalize hmB:(m.filter λp=> !(given cl p.1))=mB at hv;cases wX:(distinct ids&&Nat.blt ids.length 10000&&args.all (SV.closed ids)&&(ids.all (λi=> !(given cl i))||(Nat.blt ids.length 1000&&ids.all λi=> !(given cl i)||iG i))) with
 |false=>rw[wX] at hv;cases hv
 |true=>
 simp only[wX,ak] at hv;simp only[aS] at wX;obtain⟨⟨⟨hdis,hlen⟩,abJ⟩,hgiv⟩:=wX;have hlen:ids.length<10000:=by simpa[cN] using hlen
 have hgv:∀i∈ids,cl i=9000->ids.length<1000/\i<10000:=λi hi e=>by
  have hgi:given cl i=true:=by simp[given,e]
  rcases Bool.or_eq_true_iff.1 hgiv with h|h
  .have:=cH.1 h i hi;simp[hgi] at this
  .obtain⟨h1,h2⟩:=pX.1 h;have h2:=cH.1 h2 i hi;simp only[hgi,dx,kK,iG,cN] at h2;exact⟨cN.mp h1,h2⟩
 have hnd:=mW hdis;have hm1:m.map (·.1)=ids:=by rw[<-hm];exact Nu _ _ _
 have hin1:∀p∈m,p.1∈ids:=λp z=>by rw[<-hm1];exact aD.2 ⟨p,z,rfl⟩
 have OO:∀p∈m,(cl p.1=20000->20000<=p.2)/\(cl p.1=10000->10000<=p.2/\p.2<20000)/\(cl p.1=9000->9000<=p.2/\p.2<10000):=by intro p z;have h0:=hin1 p z;rw[<-hm] at z;obtain⟨_,h1,h2⟩:=rz cl 0 ids p z;refine⟨λe=>by omega,λe=>by omega,λe=> ?_⟩;have:=(hgv _ h0 e).1;omega
 have hmb:∀p,p∈mB↔p∈m/\cl p.1≠9000:=λp=>by
  rw[<-hmB,c4];refine and_congr_right λ_=>⟨λh e=> ?_,λh=> ?_⟩
  .unfold given at h;rw[e] at h;cases h
  .cases hg:given cl p.1 with
   |false=>rfl
   |true=>exact absurd (beq_iff.1 hg) h
 have hnn:(m.map (·.2)).Nodup:=by
  rw[<-hm];refine HL cl 0 ids ⟨af,λid hid=> ?_⟩;rcases hcl id with e|e|⟨e,_⟩
  .exact .inl ⟨e,by have:=(hgv id hid e).1;omega⟩
  .exact .inr (.inl e)
  .omega
 have hget:∀id l,(id,l)∈m->find m id=some l:=λid l z=>jR (by rw[hm1];exact hnd) z
 have U:∀id l,(id,l)∈m->find (swap m) l=some id:=λid l z=>jR (by rw[yO];omega) (BG z)
 have hex:∀id∈ids,∃l,(id,l)∈m:=λid hid=>by rw[<-hm1] at hid;obtain⟨p,z,rfl⟩:=aD.1 hid;exact⟨p.2,z⟩
 let G:Nat->Value:=λl=>match find (swap m) l with
  |some id=>loc id
  |none=>loc l
 have O:∀id l,(id,l)∈m->G l=loc id:=λid l z=>by simp only[G,U id l z]
 have hren:∀id l,(id,l)∈m->iS m id=l:=λid l z=>by simp[iS,hget id l z]
 have hren2:∀id l,(id,l)∈m->iS (swap m) l=id:=λid l z=>by simp[iS,U id l z]
 have hρ:∀j∈ids,G (iS m j)=loc j:=λj hj=>by obtain⟨l,z⟩:=hex j hj;rw[hren j l z,O j l z]
 split at hv
 .rename_i cL Sr;obtain⟨Xu,Vo⟩:=xO Sr;have hlnd:(cL.map (·.1)).Nodup:=by rw[Xu];exact hnn
  cases hr:cz g (args.map (SV.kD (iS m))) cL with
  |none=>rw[hr] at hv;cases hv
  |some rl=>
  obtain⟨r,R⟩:=rl;rw[hr] at hv;simp only[] at hv;generalize hnw:newNames (o.dst.getD 0) 0 (R.drop mB.length)=nw at hv;generalize hmm:mB++nw=mm at hv;cases OM:(Nat.ble nw.length 8&&distinct (mm.map (·.1))&&distinct (mm.map (·.2))&&nw.all (λx=>Nat.blt x.1 10000)&&nw.all (λx=>Nat.ble 25000 x.2)) with
  |false=>rw[OM] at hv;cases hv
  |true=>
  simp only[OM,ak] at hv;simp only[aS,cH] at OM;obtain⟨⟨⟨⟨_,hd1⟩,hd2⟩,hd3⟩,hd4⟩:=OM;have hn1:=mW hd1;have hn2:=mW hd2;have hgetM:∀id l,(id,l)∈mm->find mm id=some l:=λid l z=>jR hn1 z
  have hswapM:∀id l,(id,l)∈mm->find (swap mm) l=some id:=λid l z=>jR (by rw[yO];omega) (BG z)
  have hrenM:∀id l,(id,l)∈mm->iS (swap mm) l=id:=λid l z=>by simp[iS,hswapM id l z]
  have hpart:∀p∈mm,(p∈m/\cl p.1≠9000)\/p∈nw:=λp z=>by rw[<-hmm] at z;exact(bu.1 z).imp (hmb p).1 λh=>h
  have hnw25:∀p∈nw,25000<=p.2:=λp z=>by simpa using hd4 p z
  have hnwn:∀p∈nw,p.2∉cL.map (·.1):=λp z B=>by
   rw[Xu] at B;obtain⟨q,hq,e⟩:=aD.1 B;by_cases hg9:cl q.1=9000
   .have:=((OO q hq).2.2 hg9).2;have:=hnw25 p z;omega
   .have:(mB.map (·.2)++nw.map (·.2)).Nodup:=by rw[<-cn,hmm];exact hn2
    exact(iI.1 this).2.2 _ (aD.2 ⟨q,(hmb q).2 ⟨hq,hg9⟩,e⟩) _ (aD.2 ⟨p,z,rfl⟩) rfl
  have hnwi:∀p∈nw,p.1<10000:=λp z=>by simpa[cN] using hd3 p z
  split at hv
  .rename_i back abI;obtain⟨hb1,hb2,hb3⟩:=xG abI;have hbnd:(R.map (·.1)).Nodup:=by rw[hb1];exact hn2
   have hall:=GF hρ abJ hall0;have hobs:∀i oi,find cL i=some oi->nv w.heap.size (iy L.q G (cL.map (·.1))) μ G w i oi:=by
    intro i oi hi;obtain⟨id,S,z,qQ,hoc,rfl⟩:=Vo i oi (mY hi);refine KV hρ hoc (V.obs id _ qQ) (O id i z) (λb hb=> .inr (.inr ⟨loc id,?_,hb⟩))
    have:i∈cL.map (·.1):=by rw[Xu];exact aD.2 ⟨_,z,rfl⟩
    simp only[iy,aB this,O id i z]
   have hapC:WQ G cL:=by intro i j oi oj hi hj hij q hq;obtain⟨id,S,z,qQ,_⟩:=Vo i oi (mY hi);obtain⟨id',ob',H,Gl,_⟩:=Vo j oj (mY hj);rw[O id i z] at hq;rw[O id' j H];refine V.apart id id' S ob' qQ Gl (λe=>hij ?_) q hq;subst e;have:=(hget id i z).symm.trans (hget id j H);injection this
   have hgo:(∀v w',(∃μ' I,fN L.q μ G (cL.map (·.1)) r R w v μ' I w')->K (a.put o.dst v) w')->o.uh P a w K Q:=λhK'=>by
    rcases wW g _ _ r _ hr w μ G (ps++(c.args.toList.map a.eval++cs)) V.base.1 V.xZ hobs hapC hall with⟨hg,he,hC⟩|⟨hg,_,as,v0,AQ,hY⟩
    .rcases ZA with⟨_,ZA⟩|⟨hg2,_⟩
     .refine aev (R:=λv w'=>∃μ' I,fN L.q μ G (cL.map (·.1)) r R w v μ' I w') ho hc ZA rfl he (hC.mono ?_) hK';rintro e w' ⟨v,μ',I,rfl,hP⟩;exact⟨v,rfl,μ',I,hP⟩
     omega
    .rcases ZA with⟨hg2,_⟩|⟨_,rfl,v1,rfl,ZA⟩
     .omega
     .rw[dK] at AQ;obtain⟨e1,e2⟩:=List.append_inj' AQ rfl;simp only[cS,eH] at e2;subst e1 e2;rw[<-ZA] at hY;refine aew (R:=λv w'=>∃μ' I,fN L.q μ G (cL.map (·.1)) r R w v μ' I w') ho hc (hY.mono ?_) hK';rintro e w' ⟨v,μ',I,rfl,hP⟩;exact⟨v,rfl,μ',I,hP⟩
   refine hgo ?_;rintro v w' ⟨μ',I,hP⟩;let F:Nat->Value:=λi=>match find mm i with
    |some l=>I l
    |none=>loc i
   have Zy:∀id l,(id,l)∈mm->F id=I l:=λid l z=>by simp only[F,hgetM id l z]
   have Xp:∀i,i∉ids.filter (λi=> !(stays cl i))++nw.map (·.1)->F i=loc i:=by intro i hi;cases hfi:find mm i with
    |none=>simp only[F,hfi]
    |some l=>
     have z:=mY hfi;rcases hpart _ z with⟨H,_⟩|H
     .have D:i∈ids:=hin1 _ H;have hmv0:cl i=10000:=by
       cases B:stays cl i with
       |true=>exact beq_iff.1 B
       |false=>exact absurd (cR _ (c4.2 ⟨D,by simp[B]⟩)) hi
      have hr2:=(OO _ H).2.1 hmv0;rw[Zy i l z,hP.fix l (by rw[Xu];exact aD.2 ⟨_,H,rfl⟩) hr2.1 hr2.2];exact O i l H
     .exact absurd (gD _ (aD.2 ⟨_,H,rfl⟩)) hi
   have hlb:∀b,Nj (iy L.q G (cL.map (·.1))) b->∃id S,id∈ids/\st.ob id=some S/\lI (loc id) b:=by
    rintro b ⟨l,x,B,Vk⟩;simp only[iy] at B;split at B
    .rename_i D;injection B with B;subst B;rw[Xu] at D;obtain⟨p,z,rfl⟩:=aD.1 D;rw[O p.1 p.2 z] at Vk;obtain⟨q,hq,e⟩:=aD.1 (show p.2∈cL.map (·.1) by rw[Xu];exact aD.2 ⟨_,z,rfl⟩);obtain⟨id,S,k1,k2,_⟩:=Vo q.1 q.2 hq;rw[e] at k1;have:=(U p.1 p.2 z).symm.trans (U id p.2 k1);injection this with this;exact⟨p.1,S,by rw[<-hm1];exact aD.2 ⟨_,z,rfl⟩,by rw[this];exact k2,Vk⟩
    .cases B
   have holdob:∀i oi,st.ob i=some oi->i∉ids->nv w0.heap.size L μ' loc w' i oi:=by
    intro i oi hi hni;refine(V.obs i oi hi).keep hP.ext.1 (λb hb=> ?_);obtain⟨_,hlt,C8⟩:=(V.obs i oi hi).block b hb;refine⟨hP.keep b hlt (λhl=> ?_),λj=> ?_⟩
    .obtain⟨id,S,h1,h2,h3⟩:=hlb b hl;exact V.apart id i S oi h2 hi (λe=>hni (by rw[<-e];exact h1)) b h3 hb
    .cases hj:μ' b j with
     |none=>rfl
     |some x=>
      rcases hP.ext.2 b j x hj with B|B|B
      .rw[C8 j] at B;cases B
      .omega
      .obtain⟨id,S,h1,h2,h3⟩:=hlb b B.cL;exact absurd hb (V.apart id i S oi h2 hi (λe=>hni (by rw[<-e];exact h1)) b h3)
   have hgb:∀b,Vi (iy L.q G (cL.map (·.1))) b->∃id S,id∈ids/\cl id=9000/\st.ob id=some S/\lI (loc id) b:=by
    rintro b ⟨l,x,h9,h10,B,Vk⟩;simp only[iy] at B;split at B
    .rename_i D;injection B with B;subst B;rw[Xu] at D;obtain⟨p,z,rfl⟩:=aD.1 D;have hc9:cl p.1=9000:=by
      rcases hcl p.1 with e|e|⟨e,_⟩
      .exact e
      .have:=(OO p z).2.1 e;omega
      .have:=(OO p z).1 e;omega
     rw[O p.1 p.2 z] at Vk;obtain⟨q,hq,e⟩:=aD.1 (show p.2∈cL.map (·.1) by rw[Xu];exact aD.2 ⟨_,z,rfl⟩);obtain⟨id,S,k1,k2,_⟩:=Vo q.1 q.2 hq;rw[e] at k1;have:=(U p.1 p.2 z).symm.trans (U id p.2 k1);injection this with this;exact⟨p.1,S,hin1 p z,hc9,by rw[this];exact k2,Vk⟩
    .cases B
   have hgn:∀b,Vi (iy L.q G (cL.map (·.1))) b->w0.heap.size<=b\/Vi L b:=λb hb=>by obtain⟨id,S,h1,h2,h3,h4⟩:=hgb b hb;exact V.BI (hgv id h1 h2).2 ((V.obs id S h3).block b h4).1
   have hback':∀id o',find back id=some o'->∃l o,(id,l)∈mm/\find R l=some o/\o.closed (mm.map (·.2))=true/\o'=o.kD (iS (swap mm)):=by intro id o' hfb;obtain⟨l,o,h1,h2,h3,h4⟩:=hb3 id o' (mY hfb);exact⟨l,o,h1,jR hbnd h2,h3,h4⟩
   have Sv:∀id l S b,(id,l)∈mm->find R l=some S->lI (I l) b->w.heap.size<=b\/Vi (iy L.q G (cL.map (·.1))) b\/((id,l)∈m/\lI (loc id) b):=by
    intro id l S b z hfo hb;rcases((hP.obs l S hfo).block b hb).1 with B|B|⟨x,B,Vk⟩
    .omega
    .exact .inr (.inl B)
    .right;right;simp only[iy] at B;split at B
     .rename_i D;rcases hpart _ z with⟨H,_⟩|H
      .injection B with B;subst B;rw[O id l H] at Vk;exact⟨H,Vk⟩
      .exact absurd D (hnwn _ H)
     .cases B
   have hobin:∀id l,(id,l)∈m->∃S,st.ob id=some S:=by intro id l z;obtain⟨q,hq,e⟩:=aD.1 (show l∈cL.map (·.1) by rw[Xu];exact aD.2 ⟨_,z,rfl⟩);obtain⟨id',S,k1,k2,_⟩:=Vo q.1 q.2 hq;rw[e] at k1;have:=(U id l z).symm.trans (U id' l k1);injection this with this;exact⟨S,by rw[this];exact k2⟩
   have hidm:∀i,i∉mm.map (·.1)->i∉ids.filter (λi=> !(stays cl i))++nw.map (·.1)->i∉ids:=λi hi hn B=>by
    obtain⟨l,z⟩:=hex i B;by_cases h9:cl i=9000
    .exact hn (cR _ (c4.2 ⟨B,by unfold stays;rw[h9];rfl⟩))
    .exact hi (by rw[<-hmm];exact aD.2 ⟨_,cR _ ((hmb (i,l)).2 ⟨z,h9⟩),rfl⟩)
   have Su:∀i oi,((find back i).orElse λ_=>(fG (ids.filter (λi=> !(stays cl i))++nw.map (·.1)) st).ob i)=some oi->nv w0.heap.size L μ' F w' i oi/\((∃l o,(i,l)∈mm/\find R l=some o)\/(i∉mm.map (·.1)/\i∉ids/\∃o,st.ob i=some o)):=by intro i oi hi;cases hfb:find back i with
    |some o'=>
     rw[hfb] at hi;simp at hi;subst hi;obtain⟨l,S,z,hfo,hcl,rfl⟩:=hback' i o' hfb;refine⟨KV (names:=mm.map (·.2)) (λj hj=> ?_) hcl (hP.obs l S hfo) (Zy i l z) (λb hb=> ?_), .inl ⟨l,S,z,hfo⟩⟩
     .obtain⟨q,hq,rfl⟩:=aD.1 hj;rw[hrenM q.1 q.2 hq,Zy q.1 q.2 hq]
     .rcases Sv i l S b z hfo hb with B|B|⟨H,B⟩
      .exact .inl (e7 V.grown B)
      .exact(hgn b B).imp (λh=>h) .inl
      .obtain⟨ob0,hob0⟩:=hobin i l H;exact((V.obs i ob0 hob0).block b B).1
    |none=>
     rw[hfb] at hi;have hni:i∉mm.map (·.1):=by rw[<-hb2];exact M6 hfb
     have hi':(fG (ids.filter (λi=> !(stays cl i))++nw.map (·.1)) st).ob i=some oi:=by simpa using hi
     obtain⟨hnp,S,qQ,hk⟩:=HU _ st loc F Xp i oi hi';exact⟨hk _ _ _ _ (holdob i S qQ (hidm i hni hnp)), .inr ⟨hni,hidm i hni hnp,S,qQ⟩⟩
   have hrel:Rel N w0 μ0 L μ' F { env:=(fG (ids.filter (λi=> !(stays cl i))++nw.map (·.1)) st).env,ob:=λi=>(find back i).orElse λ_=>(fG (ids.filter (λi=> !(stays cl i))++nw.map (·.1)) st).ob i } a w':=by
    refine⟨V.small,V.names,?_,V.size,V.defers,?_,hP.xZ,⟨V.base.1.trans hP.ext.1,?_⟩,λi oi hi=>(Su i oi hi).1,?_,?_,hP.os.trans V.os,hP.tape.trans V.tape,hP.output.trans V.output,e7 V.grown hP.grown,λq=>e7 (V.drawn q) (hP.drawn q)⟩
    .intro id x B h9 hlt;rw[Xp id (λD=> ?_)]
     .exact V.fix id x B h9 hlt
     .rcases bu.1 D with D|D
      .obtain⟨hmi,hms⟩:=c4.1 D;rcases hcl id with e|e|⟨_,hmt⟩
       .have:=(hgv id hmi e).2;omega
       .simp[stays,e] at hms
       .simp only[gO,gK,aS] at hmt;rcases hmt with hh|hh
        .have:id<10000:=by simpa[cN] using hh
         omega
        .have:=fI hh.1;omega
      .obtain⟨p,z,rfl⟩:=aD.1 D;have:=hnwi p z;omega
    .exact Fq (tm:=λi=>a.tmps[i]?) _ st loc F Xp (λi s hs=>by
      obtain⟨u,hu,hr⟩:=V.env i s hs
      exact⟨u,hu,GD hP.ext.1 hr⟩)
    .intro b j x B;rcases hP.ext.2 b j x B with B|B|B
     .exact V.base.2 b j x B
     .exact .inr (.inl (e7 V.grown B))
     .exact .inr (hgn b B)
    .intro i j oi oj hi hj hij q hq;have Wh:∀k ok,k∉mm.map (·.1)->k∉ids->st.ob k=some ok->∀q,lI (F k) q->lI (loc k) q/\q<w.heap.size:=by
      intro k ok hk hki hok q hq
      have:F k=loc k:=Xp k (λhm=>by
       rcases bu.1 hm with hm|hm
       .exact hki (c4.1 hm).1
       .exact hk (by rw[<-hmm,cn];exact gD _ hm))
      rw[this] at hq;exact⟨hq,((V.obs k ok hok).block q hq).2.1⟩
     have mixed:∀i l o j oj q,(i,l)∈mm->find R l=some o->j∉mm.map (·.1)->j∉ids->st.ob j=some oj->lI (F i) q->lI (F j) q->False:=by
      intro i l o j oj q z hfo hj hji hoj hqi Um;obtain⟨hqj',hlt⟩:=Wh j oj hj hji hoj q Um;rw[Zy i l z] at hqi;rcases Sv i l o q z hfo hqi with B|B|⟨H,B⟩
      .omega
      .obtain⟨id,S,h1,_,h3,h4⟩:=hgb q B;exact V.apart id j S oj h3 hoj (λe=>hji (by grind)) q h4 hqj'
      .obtain⟨ob0,hob0⟩:=hobin i l H;exact V.apart i j ob0 oj hob0 hoj (λe=>hj (by grind)) q B hqj'
     rcases(Su i oi hi).2 with⟨l,o,z,hfo⟩|⟨hni,hni',S,qQ⟩
     .rcases(Su j oj hj).2 with⟨nm',o',H,hfo'⟩|⟨hnj,hnj',ob',Gl⟩
      .rw[Zy i l z] at hq;rw[Zy j nm' H];refine hP.apart l nm' o o' hfo hfo' (λe=>hij ?_) q hq;grind
      grind
     .rcases(Su j oj hj).2 with⟨nm',o',H,hfo'⟩|⟨hnj,hnj',ob',Gl⟩
      .grind
      .obtain⟨hqi,_⟩:=Wh i S hni hni' qQ q hq;intro Um;obtain⟨Um,_⟩:=Wh j ob' hnj hnj' Gl q Um;exact V.apart i j S ob' qQ Gl hij q hqi Um
    .intro b hb hl;refine(hP.keep b (e8 hb V.grown) (λhl'=> ?_)).trans (V.keep b hb hl);obtain⟨id,S,_,h2,h3⟩:=hlb b hl';rcases((V.obs id S h2).block b h3).1 with B|B|⟨x,B,Vk⟩
     .omega
     .exact hl B.cL
     .exact hl ⟨id,x,B,Vk⟩
   have fin:∀sv,fU μ' F sv v->st1=St.set { env:=(fG (ids.filter (λi=> !(stays cl i))++nw.map (·.1)) st).env,ob:=λi=>(find back i).orElse λ_=>(fG (ids.filter (λi=> !(stays cl i))++nw.map (·.1)) st).ob i } o.dst sv->K (a.put o.dst v) w':=λsv hs e=>by subst e;exact hK _ _ μ' F (hrel.set hd hs)
   split at hv
   .rename_i x;cases hcx:(wV x).closed _ with
    |false=>rw[hcx] at hv;cases hv
    |true=>
    simp only[hcx,ak,aW] at hv;refine fin _ ?_ hv.symm;obtain⟨h1,_⟩:fU _ _ _ v/\True:=by
     rcases hP.res with B|⟨_,_,_,_,e1,_⟩|⟨x',e1,h1,_⟩|⟨_,_,_,_,e1,_⟩
     .simp[rep,cM] at B
     .cases e1
     .simp at e1;subst e1;exact⟨h1,trivial⟩
     .simp at e1
    refine PA (K9 (λj hj=> ?_) hcx h1) (λid t cells hb=> ?_)
    .obtain⟨q,hq,rfl⟩:=aD.1 hj;grind
    .obtain⟨hok,_⟩:=Su _ _ (by rw[hb];rfl);obtain⟨b,vs,hl,_⟩:=hok;exact⟨b,hl⟩
   .cases ZB:r.jM with
    |false=>rw[ZB] at hv;cases hv
    |true=>
    simp only[ZB,ak,aW] at hv;exact fin (.pv r) (hP.pure ZB) hv.symm
  simp_all
 simp_all
theorem Bq (I:Rel N w0 μ0 L μ loc st a w) (D:iB L.q μ0 P cz) {o:Oper} {c:Call} {f:Operand} {H:St} (hd:∀i,o.dst=some i->i<N) (ho:o.op= .call c) (hc:c.callee= .value f)
  (q:j0 P h cz st c f o.dst=some H) (hK:mE N w0 μ0 L H K):o.uh P a w K Q:=by
 unfold j0 at q;split at q
 .rename_i g pre z vs hf hvs;obtain⟨sf,hsf,S⟩:=dm.1 hf;obtain⟨ps,cs,hps,O,R⟩:=Ka (bf I hsf) S;refine Bo I D hd ho hc (cl:=E9 (iz (o.dst.any h.stay.contains) st (qz (pre++(vs++z))))) (mz hps (mz (Ew I hvs) O)) (λid=> ?_) R ?_ hK
  .simp_all[KG,iz]
  unfold jZ;simp only at q⊢;generalize gN _ _ _ _=ids at q⊢;generalize Nc:iz _ _ _=B at q⊢;rw[Nt];have V:ids.all (λi=> !(given (E9 B) i))=true:=cH.2 λi _=>by unfold given E9;cases B i<;>rfl
  have G:((ja B 0 ids).filter λp=> !(given (E9 B) p.1))=ja _ 0 _:=yW.2 λp _=>by unfold given E9;cases B _<;>rfl
  have hpg:(ids.filter λi=> !(stays (E9 B) i))=ids.filter B:=lU λi _=>by unfold stays E9;cases B i<;>rfl
  rw[V,G,hpg,uI,rH];generalize hm:ja _ 0 _=m at q⊢;cases l:(distinct _&&Nat.blt _ _&&(pre++(vs++z)).all _) with
  |false=>grind
  |true=>
  rw[l,ak] at q;simp only[ak];simp at l;have hlen :=by simpa[cN] using l.1.2
  split at q
  .split at q
   .rename_i r F hr;split at q
    .rename_i back hb;have U :=by
      have:=aP List.length (xG hb).1;simpa using this
     have e:F.drop m.length=[]:=by rw[<-U];exact rI
     have h1:distinct (m.map (·.1))=true:=by rw[<-hm,tQ];exact l.1.1
     have h2:distinct (m.map (·.2))=true:=BJ (by grind[xQ]);simp only[e,newNames,dP,h1,h2,hb,di];split
     .simp[AV.jM,AV.Xz] at q
     .exact q
    simp_all
   omega
  omega
 simp_all
def Bh (O:Rel N w0 μ0 L μ loc st a w) {G:List Nat} {d:Nat}:∀{xs:List Operand} {D:List TypeId} {j:Nat} {F:List SV},(∀x∈mZ P G d j xs D,fS (loc x.1)= .slice none 0 0)->CV P G d st j xs D=some F->ig μ loc F (xs.map a.eval)
 |[],D,j,F,_,z=>by simp[CV] at z;subst z;rfl
 |x::xs,D,j,F,B,z=>by
  simp only[CV] at z;split at z
  .rename_i v S l I;injection z with z;subst z;cases q:(DM x&&G.contains j) with
   |false=>rw[mZ,q] at B;refine⟨_,_,rfl,?_,Bh O B I⟩;unfold argG at l;grind[bf]
   |true=>
    simp only[aS] at q;unfold argG at l;rw[q.1,q.2] at l;obtain⟨⟨e,U⟩,H,l⟩:=dm.1 l;rw[mZ,q.1,q.2,H] at B;refine⟨_,_,rfl,?_,Bh O (λy R=>B y (dz _ R)) I⟩;injection l with l;subst l;unfold DM at q;split at q
    .show Value.slice _ 0 0=fS _;simp_all
    simp_all
  simp_all
mutual
theorem AV.sE:∀(a b:AV),AV.same a b=true->a=b
 | .bool a,b=>by cases b<;>simp[AV.same]
 | .int k a,b=>by cases b<;>simp[AV.same]
 | .str a,b=>by cases b<;>simp[AV.same]
 | .dD s xs,b=>by cases b<;>simp only[AV.same,aS,ey,nG];rintro⟨h1,h2⟩;rw[beq_iff.1 h1,B3 _ _ h2]
 | .agg a,b=>by cases b<;>simp only[AV.same,ey,nG];intro h;rw[ot _ _ h]
 | .fn f a,b=>by cases b<;>simp only[AV.same,aS,ey,nG];rintro⟨h1,h2⟩;rw[beq_iff.1 h1,ot _ _ h2]
 | .iQ a,b=>by cases b<;>simp only[AV.same,ey,nG];intro h;rw[ot _ _ h]
 | .ref a,b=>by cases b<;>simp only[AV.same,ey,nG];intro h;rw[ot _ _ h]
 | .mp a b,c=>by cases c<;>simp only[AV.same,aS,ey,nG];rintro⟨h1,h2⟩;rw[ot _ _ h1,ot _ _ h2]
 | .self n,b=>by cases b<;>simp only[AV.same,ey,nG];intro h;rw[beq_iff.1 h]
 | .rD,b=>by cases b<;>simp[AV.same]
 | .tR,b=>by cases b<;>simp[AV.same]
 | .hole,b=>by cases b<;>simp[AV.same]
theorem ot:∀(a b:List AV),sC a b=true->a=b
 |[],[]=>λ_=>rfl
 |[],_::_=>λh=>by simp[sC] at h
 |_::_,[]=>λh=>by simp[sC] at h
 |x::l,y::m=>λh=>by simp only[sC,aS] at h;rw[AV.sE x y h.1,ot l m h.2]
theorem B3:∀(a b:List (List AV)),B2 a b=true->a=b
 |[],[]=>λ_=>rfl
 |[],_::_=>λh=>by simp[B2] at h
 |_::_,[]=>λh=>by simp[B2] at h
 |x::l,y::m=>λh=>by simp only[B2,aS] at h;rw[ot x y h.1,B3 l m h.2]
end
mutual
theorem AV.nq:∀a:AV,AV.same a a=true
 | .bool a=>by simp[AV.same]
 | .int k a=>by simp[AV.same]
 | .str a=>by simp[AV.same]
 | .dD s xs=>by simp[AV.same,jW,Ab xs]
 | .agg a=>by simp[AV.same,mL a]
 | .fn f a=>by simp[AV.same,jW,mL a]
 | .iQ a=>by simp[AV.same,mL a]
 | .ref a=>by simp[AV.same,mL a]
 | .mp a b=>by simp[AV.same,mL a,mL b]
 | .self n=>by simp[AV.same,jW]
 | .rD=>by simp[AV.same]
 | .tR=>by simp[AV.same]
 | .hole=>by simp[AV.same]
theorem mL:∀a:List AV,sC a a=true
 |[]=>rfl
 |x::l=>by simp[sC,AV.nq x,mL l]
theorem Ab:∀a:List (List AV),B2 a a=true
 |[]=>rfl
 |x::l=>by simp[B2,mL x,Ab l]
end
theorem oE.sE {a b:oE} (h:a.same b=true):a=b:=by
 cases a<;>cases b<;>simp[oE.same,ey] at h
 .rw[AV.sE _ _ h]
 .simp_all
 simp_all
def oE.nq (a:oE):a.same a=true:=by cases a<;>simp[oE.same,AV.nq]
theorem B0:∀{a b:List oE},sD a b=true->a=b
 |[],[]=>λ_=>rfl
 |[],_::_=>λh=>by simp[sD] at h
 |_::_,[]=>λh=>by simp[sD] at h
 |x::l,y::m=>λh=>by simp[sD,aS] at h;rw[oE.sE h.1,B0 h.2]
def Dr:∀a:List oE,sD a a=true
 |[]=>rfl
 |x::l=>by simp[sD,oE.nq x,Dr l]
theorem Ak.sE {a b:Ak} (h:a.same b=true):a=b:=by
 cases a<;>cases b<;>simp[Ak.same,ey] at h
 .rfl
 .simp_all
 simp_all
def Ak.nq (a:Ak):a.same a=true:=by cases a<;>simp[Ak.same]
theorem SV.sE {a b:SV} (h:a.same b=true):a=b:=by induction a generalizing b with
 |two s x q l=>cases b<;>simp only[SV.same,aS,ey] at h;grind
 |undef=>grind[SV.same,Bool.false_eq_true]
 |any=>grind[SV.same,Bool.false_eq_true]
 |pv x=>cases b<;>simp_all[SV.same,ey];rw[AV.sE _ _ h]
 |ptr x y=>cases b<;>simp[SV.same,ey] at h;simp_all
 |row x=>cases b<;>simp[SV.same,ey] at h;simp_all
 |rp x y z u=>cases b<;>simp[SV.same,ey] at h;simp_all
 |sub x y z u=>cases b<;>simp[SV.same,ey] at h;simp_all
 |cp x=>cases b<;>simp_all[SV.same];rw[ot _ _ h]
 |cl f x=>cases b<;>simp[SV.same,ey] at h;grind[beq_iff,B0]
 |ag x=>cases b<;>simp_all[SV.same];rw[B0 h]
 |aq x y=>cases b<;>simp[SV.same,ey] at h;grind[beq_iff,Ak.sE]
def SV.nq (a:SV):a.same a=true:=by induction a<;>simp[SV.same,AV.nq,mL,Dr,Ak.nq, *]
theorem Lo:∀{a b:List SV},xu a b=true->a=b
 |[],[]=>λ_=>rfl
 |[],_::_=>λh=>by simp[xu] at h
 |_::_,[]=>λh=>by simp[xu] at h
 |x::l,y::m=>λh=>by simp[xu,aS] at h;rw[SV.sE h.1,Lo h.2]
def FB:∀a:List SV,xu a a=true
 |[]=>rfl
 |x::l=>by simp[xu,SV.nq x,FB l]
theorem CD:∀{a b:List (Option (List (List AV)))},qV a b=true->a=b
 |[],[]=>λ_=>rfl
 |[],_::_=>λh=>by simp[qV] at h
 |none::_,[]=>λh=>by simp[qV] at h
 |some _::_,[]=>λh=>by simp[qV] at h
 |some x::l,some y::m=>λh=>by simp[qV,aS] at h;rw[B3 _ _ h.1,CD h.2]
 |none::l,none::m=>λh=>by simp[qV] at h;rw[CD h]
 |some _::_,none::_=>λh=>by simp[qV] at h
 |none::_,some _::_=>λh=>by simp[qV] at h
def B1:∀a:List (Option (List (List AV))),qV a a=true
 |[]=>rfl
 |some x::l=>by simp[qV,Ab x,B1 l]
 |none::l=>by simp[qV,B1 l]
theorem Ob.sE {a b:Ob} (h:a.same b=true):a=b:=by
 cases a<;>cases b<;>simp[Ob.same,ey] at h
 .grind[beq_iff,Lo]
 .grind[beq_iff,B3]
 .grind[beq_iff,ot]
 .grind[beq_iff,ot,CD]
 .simp_all
 .rw[ot _ _ h]
 grind[beq_iff,B3,CD]
def Ob.nq (a:Ob):a.same a=true:=by cases a<;>simp[Ob.same,Ab,mL,FB,B1]
def Ln:∀{a b:List (Nat×Ob)},vr a b=true->a=b
 |[],[]=>λ_=>rfl
 |[],_::_=>λh=>by simp[vr] at h
 |_::_,[]=>λh=>by simp[vr] at h
 |(i,x)::l,(j,y)::m=>λh=>by simp only[vr,aS] at h;rw[beq_iff.1 h.1.1,Ob.sE h.1.2,Ln h.2]
def FA:∀a:List (Nat×Ob),vr a a=true
 |[]=>rfl
 |(i,x)::l=>by simp[vr,Ob.nq x,FA l]
theorem oE.wz {B l:Nat->Nat} {ids:List Nat} (h:∀j∈ids,l (B j)=j):∀{q:List oE},SV.closed ids (.cl 0 q)=true->(q.map (oE.kD B)).map (oE.kD l)=q
 |[],_=>rfl
 |c::q,z=>by simp[SV.closed,jC,aS] at z;simp only[bw];rw[oE.wz h (by simpa[SV.closed] using z.2)];grind[oE.kD]
theorem SV.wz {B q:Nat->Nat} {ids:List Nat} (h:∀j∈ids,q (B j)=j) {s:SV} (G:s.closed ids=true):(s.kD B).kD q=s:=by induction s with
 |two s b I D=>simp_all[SV.kD,SV.closed]
 |ptr j z=>simp_all[SV.kD,SV.closed]
 |row j=>simp_all[SV.kD,SV.closed]
 |rp j F i z=>simp_all[SV.kD,SV.closed]
 |sub j F O H=>simp_all[SV.kD,SV.closed]
 |cl f l=>simp only[SV.kD];rw[oE.wz h (by assumption)]
 |ag l=>simp only[SV.kD];rw[oE.wz h (by assumption)]
 |_=>rfl
def Az {q:Nat->Nat} {ids names:List Nat} (h:∀j∈ids,q j∈names):∀{l:List oE},SV.closed ids (.cl 0 l)=true->SV.closed names (.cl 0 (l.map (oE.kD q)))=true
 |[],_=>rfl
 |c::l,z=>by simp[SV.closed] at z;simp[SV.closed];grind[oE.kD]
theorem SV.DC {B:Nat->Nat} {ids names:List Nat} (h:∀j∈ids,B j∈names) {s:SV} (G:s.closed ids=true):(s.kD B).closed names=true:=by induction s with
 |two s b I D=>simp_all[SV.kD,SV.closed]
 |ptr j z=>simp_all[SV.kD,SV.closed]
 |row j=>simp_all[SV.kD,SV.closed]
 |rp j F i z=>simp_all[SV.kD,SV.closed]
 |sub j F O H=>simp_all[SV.kD,SV.closed]
 |cl f l=>have:=Az h (by assumption);assumption
 |ag l=>have:=Az h (by assumption);assumption
 |aq j q=>assumption
 |_=>rfl
theorem Ob.wz {z l:Nat->Nat} {ids:List Nat} (h:∀j∈ids,l (z j)=j) {o:Ob} (q:o.closed ids=true):(o.kD z).kD l=o:=by cases o with
 |box t cells=>simp[Ob.kD,fo];congr 1;simp[Ob.closed,cH] at q;exact(gY λs B=>SV.wz h (q s B)).trans (nH _)
 |_=>rfl
theorem Ob.DC {l:Nat->Nat} {ids names:List Nat} (h:∀j∈ids,l j∈names) {o:Ob} (q:o.closed ids=true):(o.kD l).closed names=true:=by cases o with
 |box t cells=>simp[Ob.closed] at q;simp[Ob.kD,Ob.closed];grind[SV.DC]
 |mr k e s z B=>assumption
 |_=>rfl
def MS {ids names:List Nat} {B ρ':Nat->Nat} (G:∀j∈ids,ρ' (B j)=j) (F:∀j∈ids,B j∈names):∀{l:List (Nat×Nat)} {cL:List (Nat×Ob)},jT st ids B l=some cL->∃q,mS names ρ' l cL=some q/\∀i o,find q i=some o->st.ob i=some o
 |[],cL,z=>by simp[jT,aW] at z;subst z;exact⟨[],rfl,λi o h=>by simp[find] at h⟩
 |(id,S)::l,cL,z=>by
  simp[jT] at z;split at z
  .rename_i o U ho D;obtain⟨O,z⟩:=(show o.closed ids=true/\some ((S,o.kD B)::U)=some cL from by grind)
   injection z with z;subst z;obtain⟨q,H,V⟩:=MS G F D;refine⟨(id,(o.kD B).kD ρ')::q,?_,λi o' R=> ?_⟩
   .simp[mS,jW,Ob.DC F O,rJ,ak,H,dX]
   .simp[find] at R;cases I:Nat.beq id i with
    |true=>grind[beq_iff,Ob.wz]
    |false=>simp_all
  simp_all
def RL {c:Call} {f:Operand} {r:AV} {d:Option Nat} (hst:d.any h.stay.contains=true) (F:sS P h cz st c f=some r):j0 P h cz st c f d=some (st.set d (.pv r)):=by
 unfold sS at F;split at F
 .rename_i g args l;unfold ux at l;split at l
  .rename_i g' pre z U hf hvs;simp only[aW,ck] at l;obtain⟨rfl,rfl⟩:=l;have V:iz (d.any h.stay.contains) st (qz (pre++(U++z)))=λ_=>false:=by
    funext id;simp only[iz,hst,dx,Bool.and_false]
   have G:gN st 200 ((pre++(U++z)).flatMap SV.ids) []=jG st (pre++(U++z)):=rfl;generalize jG st _=ids at F G;have hm:ja _ 0 ids=mA _:=rfl;cases q:(distinct ids&&Nat.blt ids.length 10000&&(pre++(U++z)).all (SV.closed ids)) with
   |false=>grind
   |true=>
   simp only[q] at F;have B:=q;simp at B;obtain⟨⟨O,H⟩,abJ⟩:=B;have H :=by simpa[cN] using H
   have hnd:=mW O;have hm1:(mA _).map _=ids:=tQ _ _ _;have hnn:((mA ids).map _).Nodup:=xQ _ 0 _ af;have hget:∀id R,(id,R)∈mA ids->find _ _=some _:=λid R hp=>jR (by simp_all) hp
   have hswap:∀id R,(id,R)∈mA _->find _ _=some _:=λid R hp=>jR (by rw[yO];omega) (BG hp)
   split at F
   .rename_i cL D;split at F
    .rename_i r' I hr;cases S:(vr I cL&&r'.jM) with
     |false=>simp_all
     |true=>
      rw[S] at F;simp at F;subst F;simp at S;have e:=Ln S.1;subst e
      obtain⟨back,hb,hg⟩:=MS (names:=(mA ids).map (·.2)) (ρ':=iS (swap (mA ids))) (λj hj=>by
       grind[iS]) (λj hj=>by
       simp[iS]
       grind) D
      unfold j0;simp only[hf,hvs,V,G,hm,q,ak,D,hr,hb,S.2];have e1:fG (ids.filter λ_=>false) st=st:=by have e0:(ids.filter λ_=>false)=[]:=yX.2 (λ_ _=>by decide);rw[e0];rfl
      rw[e1];congr 2;congr 1;funext i;cases hfi:find _ i with
      |none=>rfl
      |some o=>simp_all
    simp_all
   simp_all
  simp_all
 simp_all
def K3 (H:Rel N w0 μ0 L μ loc st a w) {b:Bool}:∀{xs:List Operand} {G:List TypeId} {D:List AV},sq P b st xs G=some D->cM μ D (xs.map a.eval):=by intro xs;induction xs with
 |nil=>simp_all[sq,dA]
 |cons x xs O=>
  intro G D q;simp[sq] at q;split at q
  .rename_i v R l B;injection q with q;subst q;refine cE ?_ (O B);unfold PE at l;cases z:(b&&DM x) with
   |true=>
    rw[z] at l;simp at l;subst l;have:=(pX.1 z).2;unfold DM at this;split at this
    .rfl
    simp_all
   |false=>rw[z] at l;obtain⟨s,I,F⟩:=dm.1 l;have:=bf H I;cases s<;>simp[iY] at F;subst F;exact this
  simp_all
def xS:∀{D:List AV} {l:List (Nat×TypeId×Nat)} {z:List oE} {B:List Value},tq D l=some z->(∀x∈l,fS (loc x.1)= .slice none 0 0)->cM μ D B->kT μ loc z B
 |[],l,z,B,q,_,O=>by simp_all[tq,cM,kT]
 |a::D,l,z,B,q,I,O=>by
  obtain⟨u,R,rfl,G,H⟩:=O;have other:∀{k':List _},tq _ l=some _->kT _ _ (.v a::k') _:=λF=>⟨u,R,rfl,G,xS F I H⟩
  cases a with
  |tR=>cases l with
   |nil=>simp[tq] at q
   |cons x l=>simp[tq,cB] at q;obtain⟨k',F,rfl⟩:=q;rw[rep] at G;refine⟨u,R,rfl,?_,xS F (λy S=>I y (by simp[S])) H⟩;show u=fS _;simp_all
  |_=>simp[tq,cB] at q;grind
def RJ (V:Rel N w0 μ0 L μ loc st a w) (l:iB L.q μ0 P cz) {o:Oper} {c:Call} {f:Operand} {B:St} {d:Nat} {U:List Nat} (q:o.dst=some d) (hd:∀i,o.dst=some i->i<N) (ho:o.op= .call c) (hc:c.callee= .value f)
  (z:CY P h cz st c f d U=some B) (hK:mE N w0 μ0 L B K):o.uh P a w K Q:=by
 unfold CY at z;simp at z;split at z
 .rename_i g pre S vs hf R;cases hb:(mZ P U d 0 c.args.toList c.argTypes.toList).all (λx=>Nat.blt x.1 10000) with
  |false=>simp_all
  |true=>
  rw[hb] at z;obtain⟨loc2,D,h3,_⟩:=qE V _ _ _ V (λx hx=>cN.mp (cH.1 hb x hx));obtain⟨sf,O,H⟩:=dm.1 hf;obtain⟨ps,cs,I,F,G⟩:=Ka (bf D O) H;exact Bo D l hd ho hc (mz I (mz (Bh D h3 R) F)) (λid=>Vh λhm=>by simp_all[iz]) G (q▸z) hK
 simp_all
theorem Mh (R:Rel N w0 μ0 L μ loc st a w) (G:iB L.q μ0 P cz) {o:Oper} {c:Call} {f:Operand} {st1:St} (hd:∀i,o.dst=some i->i<N) (ho:o.op= .call c) (hc:c.callee= .value f)
  (D:iO P h cz st c f o.dst=some st1) (hK:mE N w0 μ0 L st1 K):o.uh P a w K Q:=by
 unfold iO at D;split at D
 .rename_i d z;split at D
  .rename_i gv _;exact RJ R G z hd ho hc D hK
  split at D
  .rename_i g caps vs hf hvs;obtain⟨cs,ZA,hcs⟩:=Kb R hf;have main:∀{r:AV},cz g ((vs++caps).map .pv) []=some (r,[])->(∀v O B q,fN L.q μ loc [] r [] w v B q O->Rel N w0 μ0 L B loc st a O->K (a.put o.dst v) O)->o.uh P a w K Q:=λ{r} hr hk=>by
    obtain⟨he,hC⟩:=iB.noY (G g _ [] _ [] hr w μ loc (c.args.toList.map a.eval++cs) R.base.1 R.xZ (by simp[find]) (by intro i j oi oj V;simp[find] at V) (sw (ox (K3 R hvs) hcs))) λxs=>by simp[find]
    refine Jo (R:=λv O=>∃B q,fN L.q μ loc [] r [] w v B q O) (r:=r) (BD:=[]) ho hc ZA rfl he (hC.mono ?_) ?_
    .simp
    .rintro v O ⟨B,q,F⟩;exact hk v O B q F (R.grow (R6 F.ext) F.xZ (Ey F) F.drawn)
   split at D
   .rename_i e sz xs hr;cases hn:(xb h d).isSome with
    |true=>simp_all
    |false=>
    rw[hn] at D;simp only[az,aW] at D;subst D;refine main hr λv O B q F h1=> ?_
    obtain⟨us,U,hrc,S⟩:∃us,O.ownsRow 0 e sz v xs.length us/\cT B sz xs us/\∀g,bH v=some g->w.heap.size<=g/\∀j,B g j=none:=by
     rcases F.res with hx|⟨_,_,_,_,e1,_⟩|⟨_,e1,_⟩|⟨e2,sz2,xs2,us,e1,k1,k2,k3⟩
     .simp_all[rep,cM]
     .cases e1
     .simp at e1
     .simp only[AV.iQ.injEq,cS,AV.self.injEq,AV.dD.injEq,eH] at e1;obtain⟨rfl,rfl,rfl⟩:=e1;exact⟨us,k1,k2,λg H=>⟨(k3 g H).1.resolve_right λ⟨_,_,_,_,hx,_⟩=>by simp[iy] at hx,(k3 g H).2.1⟩⟩
    have hdN:=hd d z;have hin:∀g,lI v g->bH v=some g:=λg H=>by
     rcases H with H|⟨us',e1,_⟩
     .exact H
     .subst e1;rcases U.2 with⟨e2,_⟩|⟨_,_,_,e2,_⟩<;>cases e2
    have h2:=h1.new (id:=d) (o:= .row e _ _) (.inl (e8 hdN R.small)) ⟨us,by rw[cI];omega,hrc,λg H=>by
      rw[cI] at H;obtain⟨k1,k2⟩:=S g (hin g H)
      exact⟨.inl (e7 R.grown k1),k2⟩⟩ (λj oj hj _ g H hb=>by
     have k1:=(S g (hin g H)).1;have:=((R.obs j _ hj).block g hb).2.1
     omega)
    rw[z];refine hK _ _ _ _ (h2.set (λi V=>(eT V)▸hdN) ?_);show v=fS _;rw[cI];rcases U.2 with⟨e2,_⟩|⟨_,_,_,e2,_⟩<;>rw[e2]<;>rfl
   .rename_i cs' hr;split at D
    .injection D with D;subst D;refine main hr λv O B q F h1=> ?_
     have I:=F.pure rfl;rw[z];exact hK _ _ _ _ (h1.set (λi V=>hd i (z.trans V)) I)
    .rename_i l _ hl;split at D
     .rename_i ks hks;cases hb:l.all (λx=>Nat.blt x.1 10000) with
      |false=>simp_all
      |true=>
      rw[hb] at D;simp at D;subst D;refine main hr λv O B q F h1=> ?_
      have I:=F.pure rfl;obtain⟨vs',rfl,hra,hone⟩:=I;obtain⟨loc2,h2,h3,_⟩:=qE h1 l _ _ h1 (λx hx=>cN.mp (cH.1 hb x hx));rw[z];exact hK _ _ _ _ (h2.set (λi V=>hd i (z.trans V)) ⟨_,rfl,xS hks h3 hra,hone⟩)
     simp_all
    simp_all
   simp_all
  simp_all
 simp_all
theorem Oi (B:Rel N w0 μ0 L μ loc st a w) (l:iB L.q μ0 P cz) {o:Oper} {c:Call} {f:Operand} {r:AV} (F:∀i,o.dst=some i->i<N) (G:o.op= .call c) (D:c.callee= .value f) (q:o.dst.any h.stay.contains=true)
  (H:sS P h cz st c f=some r) (z:mE N w0 μ0 L (st.set o.dst (.pv r)) K):o.uh P a w K Q:=
 Bq B l F G D (RL q H) z
theorem Ve (z:Rel N w0 μ0 L μ loc st a w) (wW:iB L.q μ0 P cz) {o:Oper} {v:SV} (H:∀i,o.dst=some i->i<N) (l:dQ P h cz o st=some v) (F:mE N w0 μ0 L (st.set o.dst v) K):o.uh P a w K Q:=by
 unfold dQ at l;split at l
 .rename_i t len D I;cases V:(o.dst.any h.rows.contains||o.dst.any h.fT.contains) with
  |true=>simp_all
  |false=>simp only[V,az] at l;cases hl:lC P t len D.toList st with
   |none=>simp_all
   |some x=>grind[Vb]
 .rename_i c I;split at l
  .rename_i f hc;replace l:=Gy l;cases R:(o.dst.any h.stay.contains&&wide st c f) with
   |true=>rw[R] at l;simp only[ak,cB] at l;obtain⟨r,hr,rfl⟩:=l;rw[aS] at R;grind[Oi]
   |false=>
   rw[R] at l;replace l:=Gy l;split at l
   .rename_i g q vs hf hvs;split at l
    .rename_i r hr;cases hp:((!(c.args.toList.any (lF st))||r.plain)&&r.jM) with
     |true=>simp only[hp,ak,aW] at l;subst l;rw[aS] at hp;grind[JR,Bool.or_comm]
     |false=>grind
    simp_all
   simp_all
  .exact pO z H (HC z I l) F
 .rename_i t x k ok I;exact pO z H (wv z (Gy l)) F
 .rename_i t D I;exact pO z H (Sk z I (Gy l)) F
 .rename_i t x I;exact pO z H (wv z (Gy l)) F
 .rename_i g first q I
  cases O:first.isEmpty with
  |false=>
   simp[O] at l;cases G:(q.isEmpty&&o.dst.any h.fT.contains&&Nat.blt g 1000000) with
   |false=>simp_all
   |true=>
   rw[G] at l;simp only[aS] at G;have hc0 :=by simpa using G.1.1
   have hg :=cN.mp G.2;have run:(execOp a.eval o).run P w= .ok (.value (.func (.func g) (first.toList.map a.eval).toArray #[])) w:=by
    unfold execOp;rw[I,hc0];have e:first.map a.eval=(first.toList.map a.eval).toArray:=by grind
    simp[Instr.makeFunc,e]
   cases B:qM st first.toList with
   |none=>simp_all
   |some vs=>
    simp[B] at l;subst l;refine pO z H ⟨_,run,(show fU _ _ (.cl _ _) _ from⟨_,?_,EB z B⟩)⟩ F;have h1:Nat.blt (g+1000000) 1000000=false:=by cases V:Nat.blt _ _ with
     |false=>rfl
     |true=>have:=cN.mp V;omega
    have h2:Nat.blt (g+1000000) _=true:=cN.mpr (Nat.add_lt_add_right hg _);simp[clV,h1,h2,az,ak,lV]
  |true=>
   simp[O] at l;have hf0 :=by simpa using O
   have run:(execOp a.eval o).run P w= .ok (.value (.func (.func g) #[] (q.toList.map a.eval).toArray)) w:=by
    unfold execOp;rw[I,hf0];have e:q.map a.eval=(q.toList.map a.eval).toArray:=by grind
    simp[Instr.makeFunc,e]
   cases S:o.dst.any h.fT.contains with
   |true=>
    simp[S] at l;cases U:Nat.blt g 1000000 with
    |false=>simp_all
    |true=>
    rw[U] at l;cases B:qM st q.toList with
    |none=>simp_all
    |some vs=>simp[B] at l;subst l;exact pO z H ⟨_,run,(show fU _ _ (.cl g _) _ from⟨_,by simp[clV,U,ak],EB z B⟩)⟩ F
   |false=>
   simp[S] at l;cases B:um st q.toList with
   |none=>simp_all
   |some vs=>simp[B] at l;subst l;have hall:=EC z B;refine pO z H ⟨_,run,?_⟩ F;show rep _ _ _;rw[rep];simp_all
 .have key:eW P o st=some v:=by
   split at l
   .grind
   .grind
   .exact l
  exact pO z H (wv z key) F
 .exact pO z H (wv z l) F
theorem Zn (G:Rel N w0 μ0 L μ loc st a w) (wW:iB L.q μ0 P cz) {o:Oper} (S:∀i,o.dst=some i->i<N) (B:mI P h cz o st=some st') (I:mE N w0 μ0 L st' K):o.uh P a w K Q:=by
 unfold mI at B;split at B
 .rename_i d q D;split at B
  .rename_i e s hs;split at B
   .injection B with B;subst B;exact eff_nil G (S d q) q D I
   .cases B
  .cases B
 .rename_i d x hnc q D;split at B
  .rename_i id R;cases U:h.mvs.contains d with
   |true=>rw[U] at B;exact Pf G (S d q) q D R B I
   |false=>
   rw[U] at B;simp only[az] at B;split at B
   .rename_i st1 hp;split at B
    .rename_i v hv1;injection B with B;subst B;obtain⟨μ1,_,h1⟩:=G.cV hp;exact pO h1 S (DK h1 (.inr D) hv1) (by rw[q];exact I)
    .cases B
   .cases B
  .cases B
 .rename_i d t x q D;split at B
  .rename_i cs R hagg;injection B with B;subst B;have V:=bf G R;simp only[fU,rep] at V;obtain⟨vs,V,hall,hone⟩:=V;refine EI (v:= .agg vs.toArray) G (S d q) q ?_ (by simpa[Value.cells] using sw hall) (by assumption) I;unfold execOp;rw[D];simp[Instr.box,newVar,newRow,V,Value.cells]
  .rename_i cs R hagg;cases hm:(SV.ag cs).mentions d with
   |true=>rw[hm] at B;cases B
   |false=>
   rw[hm] at B;simp only[az,aW] at B;subst B;have V:=TK (x:= .pointer (some ⟨w.heap.size,0,none⟩)) hm (bf G R);obtain⟨vs,V,hall,hone⟩:=V;refine EI (v:= .agg vs.toArray) G (S d q) q ?_ (by simp_all[Value.cells,sU]) (by assumption) I;unfold execOp;rw[D];simp[Instr.box,newVar,newRow,V,Value.cells]
  .rename_i v hnot R hagg;split at B
   .rename_i hone;injection B with B;subst B;have V:=bf G R;obtain⟨h1,hc1⟩:=Wf G hone V;refine EI (v:=a.eval x) G (S d q) q ?_ (by rw[hc1];exact⟨_,[],rfl,z6 V,rfl⟩) (by rw[hc1];simpa using h1) I;unfold execOp;rw[D];simp[Instr.box,newVar,newRow]
   .cases B
  .cases B
 .rename_i d t q D;cases hrw:h.rows.contains d with
  |true=>
   rw[hrw] at B;simp only[ak] at B;split at B
   .rename_i svs l hz;injection B with B;subst B;exact Ml G (S d q) q D hz I
   .cases B
  |false=>
  rw[hrw] at B;simp only[az] at B;split at B
  .rename_i z hz;injection B with B;subst B;obtain⟨i,v,hi,hzv,hc⟩:=N2 (μ:=μ) hz;refine EI (v:=v) G (S d q) q ?_ (sw hc.1) hc.2 I;unfold execOp;rw[D];simp[Instr.alloc,zeroValue,typeInfo,hi,hzv,newVar,newRow]
  .cases B
 .rename_i d t l c q D;split at B
  .rename_i e s kl nl kc nc hs hl hc;split at B
   .rename_i z i hz hi;split at B
    .rename_i F;injection B with B;subst B;exact abk G (S d q) q D hs hl hc hz hi F I
    .cases B
   .cases B
  .cases B
 .rename_i d t len parts q D;cases hby:h.fT.contains d with
  |true=>rw[hby] at B;exact RX G (S d q) q D B I
  |false=>
  rw[hby] at B;simp only[az] at B;split at B
  .rename_i e s xs hl;split at B
   .injection B with B;subst B;exact Ow G (S d q) q D hl I
   .rename_i k e' s' hn;cases hb:(Nat.blt k s&&xs.all (qI k)) with
    |false=>rw[hb] at B;cases B
    |true=>rw[hb] at B;simp only[ak,aW] at B;subst B;obtain⟨b1,b2⟩:=pX.1 hb;exact Mm G (S d q) q D hl (cN.mp b1) b2 I
  .cases B
 .rename_i t x y q D;split at B
  .rename_i id sz i off j R hy;exact Tx G q D R hy B I
  .rename_i id off j sz n R hy;exact RS G q D R hy B I
  .rename_i sa sv _ hnr R hy;exact Zo G q D R hy B I
  .cases B
 .rename_i d t r q D;split at B
  .rename_i k e hu;cases hb:vD P st r with
   |false=>simp_all
   |true=>
    rw[hb] at B;simp only[ak] at B;cases hrw:h.rows.contains d with
    |true=>
     rw[hrw] at B;simp only[ak] at B;split at B
     .split at B
      .injection B with B;subst B;exact U1 G (S d q) q D hu hb I
      .cases B
     .cases B
    |false=>
    rw[hrw] at B;simp only[az,aW] at B;subst B;exact RY G (S d q) q D hu hb I
  simp_all
 .rename_i t m k x q D;cases hrm:qA h m with
  |true=>rw[hrm] at B;exact RZ G q (.inl D) B I
  |false=>rw[hrm] at B;exact EJ G q (.inl D) B I
 .rename_i t m k x q D;cases hrm:qA h m with
  |true=>rw[hrm] at B;exact RZ G q (.inr D) B I
  |false=>rw[hrm] at B;exact EJ G q (.inr D) B I
 .rename_i d t m k q D;cases hrm:qA h m with
  |true=>rw[hrm] at B;exact Zk G (S d q) q D B I
  |false=>rw[hrm] at B;cases B
 .rename_i d t x q D;split at B
  .rename_i s ht R;injection B with B;subst B;exact Zm G (S d q) q D ht R I
  .cases B
 .rename_i d x q D;split at B
  .rename_i id R;split at B
   .rename_i s pos qQ;refine abl G (S d q) q D R qQ ?_;grind
   .cases B
  .cases B
 .rename_i d t parts q D;cases hrw:h.rows.contains d with
  |false=>rw[hrw] at B;cases B
  |true=>rw[hrw] at B;exact Mn G (S d q) q D B I
 .rename_i d t x q D;cases Vp:h.take.contains d with
  |false=>rw[Vp] at B;cases B
  |true=>rw[Vp] at B;exact MK G (S d q) q D B I
 .rename_i d g first caps q D
  cases hfi:first.isEmpty with
  |false=>rw[hfi] at B;cases B
  |true=>
   rw[hfi] at B;simp only[ak] at B;split at B
   .rename_i st1 hp;simp only[cB] at B;obtain⟨vs,hcs,rfl⟩:=B;exact Ox G (S d q) q D hfi hp hcs I
   .cases B
 .rename_i d c D;split at B
  .rename_i hc;split at B
   .rename_i d' x y t t' q H O;split at B
    .rename_i e s id sy hs R hy;split at B
     .rename_i e' sz xs sz' ys i qQ hel hi;split at B
      .rename_i F;obtain⟨rfl,rfl,rfl,rfl,hpos,hby,hlen,hz,U⟩:=F;injection B with B;subst B;have ho':o.op= .call { callee:= .builtin .append,args:= #[x,y],argTypes:= #[t,t] }:=by
        rw[D];obtain⟨cal,⟨as⟩,⟨ts⟩⟩:=c;simp only at hc H O;subst hc;subst H;subst O;rfl
       refine UZ G (S d' q) q ho' hs R hy qQ hel hi hpos hby hlen hz ?_ I;simp only[gO,gK] at U;rcases U with hm|hm
       .left;simpa[cN] using hm
       simp_all
      simp_all
     .rename_i e' sz k e2 s2 xs zs sz' ys i qQ hel hi;split at B
      .rename_i F;obtain⟨rfl,rfl,rfl,rfl,hpos,hby,hlen,hz,U,hall⟩:=F;injection B with B;subst B;have ho':o.op= .call { callee:= .builtin .append,args:= #[x,y],argTypes:= #[t,t] }:=by
        rw[D];obtain⟨cal,⟨as⟩,⟨ts⟩⟩:=c;simp only at hc H O;subst hc;subst H;subst O;rfl
       refine RW G (S d' q) q ho' hs R hy qQ hel hi hpos hby hlen hz ?_ hall I;simp only[gO,gK] at U;rcases U with hm|hm
       .simp_all
       simp_all
      simp_all
     simp_all
    .rename_i e s id sy hs R hy;split at B
     .rename_i e' sz xs sz' ys i qQ hel hi;split at B
      .rename_i F;obtain⟨rfl,rfl,rfl,rfl,hpos,hby,hlen,hz,U,hne⟩:=F;injection B with B;subst B;have ho':o.op= .call { callee:= .builtin .append,args:= #[x,y],argTypes:= #[t,t] }:=by
        rw[D];obtain⟨cal,⟨as⟩,⟨ts⟩⟩:=c;subst hc;subst H;subst O;rfl
       refine RV G (S _ q) q ho' hs R hy qQ hel hi hpos hby hlen hz ?_ hne I;simp[gO,gK] at U;rcases U with hm|hm
       .simp_all
       simp_all
      simp_all
     simp_all
    simp_all
   simp_all
  .grind[U0]
  .rename_i hc;split at B
   .rename_i x t q H O;split at B
    .rename_i e s id sz lo hi hs R;split at B
     .rename_i e' sz' xs z qQ hz;split at B
      .rename_i F;injection B with B;subst B;exact Zj G q D hc H O hs R qQ hz F I
      .cases B
     .cases B
    .exact Oy G q D hc H O B I
    .cases B
   .cases B
  .rename_i f hc;cases how:o.dst.any h.owns.contains with
   |true=>grind[Mh]
   |false=>
   rw[how] at B;replace B:=Gy B;cases hw:wide st c f with
   |true=>simp only[hw,ak] at B;grind[Bq]
   |false=>
   cases Kl:c.args.toList.any (λx=>(pH h st x).isSome) with
   |true=>simp only[Kl,ak] at B;grind[Mi]
   |false=>
   simp only[Kl] at B;split at B
   .rename_i st1 hp;split at B
    .split at B
     .rename_i r hr;cases Vj:(c.args.toList.any (lF st1)|| !r.jM) with
      |true=>grind
      |false=>obtain⟨μ1,h1⟩:=GC G hp;rw[jX] at Vj;grind[JR]
     simp_all
    simp_all
   simp_all
  simp_all
 simp_all
def sk:∀{l:List SV} {μ:Mu} {loc:Nat->Value} {st st':St} {a:Act} {w:World},Rel N w0 μ0 L μ loc st a w->pG l st=some st'->∃B,μ.le B/\Rel N w0 μ0 L B loc st' a w
 |[],μ,loc,st,st',a,w,D,q=>by simp only[pG,aW] at q;subst q;exact⟨μ,Mu.le.refl _,D⟩
 |s::l,μ,loc,st,st',a,w,D,q=>by
  unfold pG at q;split at q
  .rename_i e;cases e
  .rename_i id V e;injection e with e1 F;subst e1;subst F;obtain⟨st1,R,S⟩:=dm.1 q;obtain⟨μ1,I,G⟩:=D.cV R;obtain⟨O,z,H⟩:=sk G S;exact⟨O,I.trans z,H⟩
  .rename_i s' V U e;injection e with e1 F;subst e1;subst F;exact sk D q
def TX (z:Rel N w0 μ0 L μ loc st a w) (l:iB L.q μ0 P cz) {o:Oper} (B:∀i,o.dst=some i->i<N) (D:step0 P h cz o st=some st') (q:mE N w0 μ0 L st' K):o.uh P a w K Q:=by grind[step0,Ve,Zn]
def BO:∀{l:List Nat} {st st':St} {μ:Mu} {loc:Nat->Value} {a:Act} {w:World},Rel N w0 μ0 L μ loc st a w->nj l st=some st'->∃q,μ.le q/\Rel N w0 μ0 L q loc st' a w
 |[],st,st',μ,loc,a,w,B,F=>by simp only[nj,aW] at F;subst F;exact⟨μ,Mu.le.refl _,B⟩
 |t::l,st,st',μ,loc,a,w,B,F=>by
  simp only[nj] at F;obtain⟨O,z,S⟩:=dm.1 F;obtain⟨U,I,G⟩:∃q,μ.le q/\Rel N w0 μ0 L q loc O a w:=by
   unfold qx at z;split at z
   .exact B.cV z
   .exact B.cV z
   .split at z
    .exact sk B z
    .cases z
   .injection z with z;subst z;exact⟨μ,Mu.le.refl _,B⟩
  obtain⟨R,D,H⟩:=BO G S;exact⟨R,I.trans D,H⟩
def Ls (G:Rel N w0 μ0 L μ loc st a w) (l:iB L.q μ0 P cz) {o:Oper} (H:∀i,o.dst=some i->i<N) (z:step P h cz o st=some st') (F:mE N w0 μ0 L st' K):o.uh P a w K Q:=by unfold step at z;obtain⟨I,B,D⟩:=dm.1 z;obtain⟨O,_,q⟩:=BO G B;exact TX q l H D F
def Au (D:Rel N w0 μ0 L μ loc st a w) {l:Array Oper} {o:Oper} {b:Bool} (q:qp l o st=some b):Region.wanted o (yielded l a.tmps)=b:=by
 unfold qp at q;unfold Region.wanted;split at q
 .simp_all
 .split at q
  .rename_i d F;split at q
   .rename_i t B;obtain⟨v,G,z⟩:=D.env d _ B;simp_all[fU,rep,yielded]
   .rename_i B;obtain⟨v,G,z⟩:=D.env d _ B;have z:v=undef:=z;simp_all[yielded,undef]
   simp_all
  simp_all
def PT (B:iB L.q μ0 P cz) {I:Array Oper}:∀{l:List Oper} {st:St} {μ:Mu} {loc:Nat->Value} {a:Act} {w:World},Rel N w0 μ0 L μ loc st a w->(∀o∈l,∀i,o.dst=some i->i<N)->qU P h cz I l st=some st'->
  (∀U w' O z,Rel N w0 μ0 L O z st' U w'->Q .normal U w')->∀F,Wd F->wpListIn F 0 P I Q l a w:=by
 intro l;induction l with
 |nil=>intro st μ loc a w H _ q R F G;simp only[qU,aW] at q;subst q;exact R _ _ _ _ H
 |cons o l ih=>
  intro st μ loc a w H S q R F G;simp only[qU] at q;split at q
  .rename_i b hw;have D:=Au H hw;unfold wpListIn;rw[D];cases b with
   |true=>simp only[ak] at q;simp only[fW];cases hs:step P h cz o st with
    |none=>simp[hs] at q
    |some st1=>simp[hs] at q;exact Ls H B (S o ai) hs (λU w' O z h1=>ih h1 (λp V=>S p (by simp[V])) q R F G) F G
   |false=>simp only[az] at q;simp only[ey,eP];exact⟨λf _=>G.fn f,ih (H.set (S o ai) (show fU μ loc .undef undef from rfl)) (λp V=>S p (by simp[V])) q R F G⟩
  .cases q
end
