/- THE ABSTRACT MACHINE. -/
import Derived.Test.YthphfjcnkinkpaaGreatDoorAmEff
set_option linter.all false
namespace Go.AM
open Go.RowKit
def Mm (μ:Mu) (w:World):Prop:=∀b j v,μ b j=some v->Ii w b j=some v
def gY (q:Qp) (loc:Nat->Value) (names:List Nat):s7:=⟨λid=>if id∈names then some (loc id) else none,q⟩
def W9 (loc:Nat->Value) (cG:List (Nat×Ob)):Prop:=∀i j l q,find cG i=some l->find cG j=some q->i≠j->∀g,mE (loc i) g->¬mE (loc j) g
structure fJ (q:Qp) (μ:Mu) (loc:Nat->Value) (names:List Nat) (r:AV) (sW:List (Nat×Ob)) (w:World) (v:Value) (μ':Mu) (loc':Nat->Value) (w':World):Prop where
 ext:μ.extL w.heap.size (gY q loc names) μ'
 yz:Mm μ' w'
 res:rep μ' r v\/(∃n A m c,r= .self n/\10000∈names/\loc' 10000= .slice A m c/\n<=m/\v= .slice A n c)\/
  (∃x,r= .gU [.gU [.self 0, .qh,x]]/\fQ μ' loc' (wk x) v/\(wk x).closed (sW.map (·.1))=true)\/
  ∃e sz xs vs,r= .gU [.gU [.self e, .dD sz xs]]/\w'.ownsRow 0 e sz v xs.length vs/\cV μ' sz xs vs/\∀g,cu v=some g->(w.heap.size<=g\/ZE (gY q loc names) g)/\(∀j,μ' g j=none)/\∀id o,find sW id=some o->¬mE (loc' id) g
 obs:∀id o,find sW id=some o->nU w.heap.size (gY q loc names) μ' loc' w' id o
 apart:W9 loc' sW
 keep:∀b,b<w.heap.size->¬NA (gY q loc names) b->w'.heap[b]? =w.heap[b]?
 fix:∀id,id∈names->10000<=id->id<20000->loc' id=loc id
 os:w'.os=w.os
 tape:w'.tape=w.tape
 output:w'.output=w.output
 grown:w.heap.size<=w'.heap.size
 drawn:q->w.drawn<=w'.drawn
def SA {n:Nat} {q:Qp} {loc:Nat->Value} {μ l:Mu} (h:μ.extL n (gY q loc []) l):μ.ext n l:=⟨h.1,λb j v z=>by
 rcases h.2 b j v z with h|h|⟨_,_,_,_,B,_⟩
 .simp_all
 .omega
 .simp[gY] at B⟩
def fJ.pure {q:Qp} {μ:Mu} {loc:Nat->Value} {names:List Nat} {r:AV} {l:List (Nat×Ob)} {w:World} {v:Value} {B:Mu} {z:Nat->Value} {F:World} (h:fJ q μ loc names r l w v B z F) (D:r.jG=true):rep B r v:=by
 rcases h.res with h|⟨n,A,m,c,rfl,_⟩|⟨x,rfl,_⟩|⟨e,G,xs,H,rfl,_⟩<;>try cases D
 .exact h
def PN {r:AV} (h:r.plain=true):r.jG=true:=by cases r with
 |self n=>cases h
 |gU z=>
  have:z.any AV.XL=false:=by rw[zq];intro x q l;have:=cI.1 (h) x q;cases x<;>simp[AV.XL,AV.scalar] at l this
  simp[AV.jG,this]
 |_=>rfl
def JJ (P:Program) (u:Value) (args:Array Value) (w:World) (R:Ending->World->Prop):Prop:=
 ∃(l:Nat) (f:FuncId) (z:Array Value) (q body:Code),u= .func (.yield l) #[] #[]/\(Instr.yield l args).run P w= .ok (.round l f z q body) w/\∀F,Wd F->RoundIn F (0-1) P l f z q body w R
def ic (q:Qp) (B:Mu) (P:Program) (cB:eE):Prop:=∀g args cG r l,cB g args cG=some (r,l)->∀(w:World) (μ:Mu) (loc:Nat->Value) (F:List Value),B.le μ->Mm μ w->
 (∀id o,find cG id=some o->nU w.heap.size (gY q loc (cG.map (·.1))) μ loc w id o)->W9 loc cG->gT μ loc args F->
 (g<2000000/\(∀H,(callFunc g F.toArray).run P H= .ok (.enter g F.toArray) H)/\
  Calls P g F.toArray w λe G=>∃v D z,e= .returned v/\fJ q μ loc (cG.map (·.1)) r l w v D z G)\/
 (2000000<=g/\(∃xs,find cG 10000=some (.lp xs))/\∃as v,F=as++[v]/\
  JJ P (clV g [v]) as.toArray w λe G=>∃v D z,e= .returned v/\fJ q μ loc (cG.map (·.1)) r l w v D z G)
def ic.noY {A B C R:Prop} {cG:List (Nat×Ob)} {D:Prop} (h:(A/\B/\C)\/(D/\(∃xs,find cG 10000=some (.lp xs))/\R)) (l:∀xs,find cG 10000≠some (.lp xs)):B/\C:=by simp_all
def ic.mono {q:Qp} {B D:Mu} {P:Program} {cB:eE} (h:ic q B P cB) (F:B.le D):ic q D P cB:=
 λg args cG r z G w μ loc H l=>h g _ _ r _ G w _ _ _ (F.trans l)
section
variable {P:Program} {N:Nat} {w0:World} {μ0:Mu} {L:s7} {μ:Mu} {loc:Nat->Value} {st st':St} {a:Act} {w:World} {Q:Exit->Act->World->Prop} {K:Act->World->Prop} {h:Hint} {cB:eE}
def K6 {l:Type} {c:Bool} {x:Option l} {v:l} (h:(bif c then none else x)=some v):x=some v:=by grind
theorem wg {l:Type} {j i:Nat} {x v:l} (q:find [(j,x)] i=some v):i=j:=by grind[find,beq_iff]
def wv (O:Rel N w0 μ0 L μ loc st a w) {q:Mu} (l:μ.le q):∀{z:List oF} {D:List AV} {B:List Value},ku st z=some D->kH μ loc z B->
  (∀id,oF.r id∈z->∀b j x,mE (loc id) b->Ii w b j=some x->q b j=some x)->cN q D B
 |[],D,B,h,k,_=>by simp[ku,bg] at h;subst h;assumption
 | .v a::z,D,B,h,⟨u,_,e,H,I⟩,G=>by subst e;simp[ku,cL] at h;obtain⟨vs',U,rfl⟩:=h;exact cQ (y5 l _ _ H) (wv O l U I λid R=>G _ (by simp[R]))
 | .r _::z,D,B,h,⟨u,_,e,H,I⟩,G=>by
  subst e;simp[ku] at h;split at h
  .rename_i v vs' U V;injection h with h;subst h;obtain⟨ob,S,F⟩:=dy.1 U;refine cQ ?_ (wv O l V I λid R=>G _ (by simp[R]));have e :=H;rw[e];exact Rv (O.obs _ _ S) F l (λb j x hb hc=>G _ ai b j x hb hc)
  grind
 | .p _::z,D,B,h,_,_=>by simp[ku] at h
theorem Wa (O:Rel N w0 μ0 L μ loc st a w) {s:SV} {v:AV} {u:Value} (l:nT st s=some v) (I:fQ μ loc s u) {F:Mu} (B:μ.le F)
  (z:∀id∈s.P8,∀b j x,mE (loc id) b->Ii w b j=some x->F b j=some x):rep F v u:=by
 cases s with
 |pv x=>simp[nT,bg] at l;subst l;exact y5 B _ _ I
 |row id=>obtain⟨ob,D,H⟩:=dy.1 l;have e :=I;rw[e];exact Rv (O.obs _ _ D) H B (λb j x hb R=>z _ (by simp[SV.P8,SV.ids]) b j x hb R)
 |ag cs=>simp[nT,cL] at l;obtain⟨vs,hv,rfl⟩:=l;obtain⟨us,rfl,R,h1⟩:=I;exact⟨us,rfl,wv O B hv R (λid hi=>z _ (e8.2 ⟨_,hi,rfl⟩)),h1⟩
 |aq id q=>cases q with
  |full=>simp[nT] at l
  |bs n=>simp[nT] at l
  |nr i=>
   simp[nT] at l;split at l
   .rename_i e sz k U s' xs ys D;split at l
    .rename_i zs hy;obtain⟨m,us,vs,S,hm,V,hrc,hk,h2,h3,h4,h5,h6,h7⟩:=O.obs _ _ D;obtain⟨u',cells,k1,k2,k3,k4,k5⟩:=h4 i _ hy;obtain⟨m',us',e1,_,G⟩:=I;rw[S] at e1;have U:=aP Array.toList (Value.tuple.inj e1);obtain⟨rfl,rfl⟩:=U;have hu:u'=u:=by
      rcases G _ k1 with G|G
      .subst G;rcases k3.2 with⟨e1,_⟩|⟨g,cap,cur,e1,_⟩<;>simp[undef] at e1
      .exact G
     grind[FP,SV.P8,j8]
    simp_all
   simp_all
 |_=>simp[nT] at l
def B0 {id:Nat}:∀{l:List oF} {z:List AV},ku st l=some z->id∈(SV.ag l).ids->∃G,st.ob id=some G
 |[],_,_,h=>by simp[SV.ids] at h
 | .v a::l,z,h,q=>by simp[ku,cL] at h;obtain⟨D,F,rfl⟩:=h;exact B0 F (by assumption)
 | .r j::l,z,h,q=>by
  simp[ku] at h;split at h
  .rename_i v D F B;simp only[SV.ids,List.filterMap_cons,aN] at q;rcases q with rfl|q
   .grind[Option.bind_eq_some_iff]
   .exact B0 B (by assumption)
  grind
 | .p j::l,z,h,_=>by simp[ku] at h
def lend_ob {s:SV} {v:AV} (h:nT st s=some v) {id:Nat} (l:id∈s.P8):∃z,st.ob id=some z:=by cases s with
 |pv x=>simp[SV.P8,SV.ids] at l
 |row j=>simp[SV.P8,SV.ids] at l;obtain⟨z,B,_⟩:=dy.1 (h);simp_all
 |ag F=>simp[nT,cL] at h;obtain⟨G,D,_⟩:=h;exact B0 D l
 |aq j q=>simp[SV.P8] at l;cases q with
  |full=>simp[nT] at h
  |bs n=>simp[nT] at h
  |nr i=>grind[nT]
 |_=>simp[nT] at h
def Du (F:Rel N w0 μ0 L μ loc st a w) {l:Mu} (D:μ.le l) {xs:List Operand} {q:List TypeId} {z:List AV} (h:jN P st xs q=some z)
  (B:∀x∈xs,∀t s v,bI P t st x=some s->nT st s=some v->∀id∈s.P8,∀b j x,mE (loc id) b->Ii w b j=some x->l b j=some x):cN l z (xs.map a.eval):=by
 induction xs generalizing q z with
 |nil=>simp_all[jN,dR]
 |cons x xs H=>
  simp[jN] at h;split at h
  .cases G:bI P (q.headD 0) st x with
   |none=>simp_all
   |some I=>grind[cQ,Wa,aW]
  grind
theorem aaa {μ q:Mu} {r:AV} {v:Value} (h:r.plain=true) (k:rep μ r v):rep q r v:=by
 have sc:∀(r) (v),r.scalar=true->rep μ r v->rep q r v:=λr v h k=>by cases r<;>simp[AV.scalar] at h<;>simpa[rep] using k
 cases r with
 |gU G=>obtain⟨B,e,l⟩:=k;refine⟨B,e,?_⟩;simp[AV.plain] at h;clear e;induction G generalizing B with
  |nil=>assumption
  |cons x xs R=>obtain⟨u,F,rfl,I,O⟩:=l;simp_all[cQ]
 |bool b=>assumption
 |int b n=>assumption
 |str s=>assumption
 |dD U xs=>grind[AV.plain]
 |agg D=>grind[AV.plain]
 |fn f z=>grind[AV.plain]
 |ref D=>grind[AV.plain]
 |mp S H=>grind[AV.plain]
 |self n=>assumption
 |qh=>assumption
 |tS=>assumption
 |hole=>assumption
def EO {D:Mu} {B:Nat->Value} {r:AV} {l:List (Nat×Ob)} {u:Value} {F:World} {q:Qp} (z:fJ q μ loc [] r l w u D B F):Below w.heap.size w F:=
 ⟨z.os,z.tape,z.output,z.grown,λb G=>z.keep b G (by rintro⟨id,v,h,_⟩;simp[gY] at h)⟩
theorem JC {o:Oper} {c:Call} {f:Operand} {g:Nat} {z l:List Value} {r:AV} {sW:List (Nat×Ob)} (ho:o.op= .call c) (hc:c.callee= .value f) (hf:a.eval f= .func (.func g) #[] l.toArray)
  (U:c.args.toList.map a.eval=z) (he:∀I,(callFunc g (z++l).toArray).run P I= .ok (.enter g (z++l).toArray) I)
  {R:Value->World->Prop} (q:Calls P g (z++l).toArray w λe B=>∃v,e= .returned v/\R v B) (V:∀v B,R v B->K (a.put o.dst v) B):o.wU P a w K Q:=by
 have D:c.args.map a.eval=z.toArray:=by grind
 refine Mi (λc' S=>by simp_all) (x:= .enter g (z++l).toArray) (w':=w) ?_ λF H=> ?_
 .simp_all[execOp,resolve,Deferred.ofValue,invoke]
 .refine⟨H.one,?_⟩;have G:CallsIn _ (0-1) P g _ w _:=uO.2 q;have O :=by
   have:=H;rw[<-this] at G;exact G
  refine O.mono ?_;simp_all
def aeE {o:Oper} {c:Call} {f:Operand} {g:Nat} {B z l:List Value} (ho:o.op= .call c) (hc:c.callee= .value f) (hf:a.eval f= .func (.func g) B.toArray l.toArray)
  (V:c.args.toList.map a.eval=z) (he:∀O,(callFunc g (B++(z++l)).toArray).run P O= .ok (.enter g (B++(z++l)).toArray) O)
  {R:Value->World->Prop} (q:Calls P g (B++(z++l)).toArray w λe D=>∃v,e= .returned v/\R v D) (hK:∀v D,R v D->K (a.put o.dst v) D):o.wU P a w K Q:=by
 have G:c.args.map a.eval=z.toArray:=by grind
 refine Mi (λc' U=>by simp_all) (x:= .enter g (B++(z++l)).toArray) (w':=w) ?_ λF I=> ?_
 .simp_all[execOp,resolve,Deferred.ofValue,invoke]
 .refine⟨I.one,?_⟩;have H:CallsIn _ (0-1) P g _ w _:=uO.2 q;have S :=by
   have:=I;rw[<-this] at H;exact H
  refine S.mono ?_;simp_all
def JJ.mono {u:Value} {args:Array Value} {R z:Ending->World->Prop} (h:JJ P u args w R) (S:∀e D,R e D->z e D):JJ P u args w z:=by obtain⟨l,f,B,q,body,G,H,I⟩:=h;exact⟨l,f,_,_,_,G,H,λF O=>(I F O).mono S⟩
def aeF {o:Oper} {c:Call} {f:Operand} (ho:o.op= .call c) (V:c.callee= .value f) {R:Value->World->Prop}
  (O:JJ P (a.eval f) (c.args.toList.map a.eval).toArray w λe D=>∃v,e= .returned v/\R v D) (U:∀v D,R v D->K (a.put o.dst v) D):o.wU P a w K Q:=by
 obtain⟨l,g,B,q,body,hf,I,z⟩:=O;have G:c.args.map a.eval=(c.args.toList.map a.eval).toArray:=by grind
 refine Mi (λc' S=>by simp_all) (x:= .round l g B q body) (w':=w) ?_ λF H=> ?_
 .simp_all[execOp,resolve,Deferred.ofValue,invoke]
 .refine⟨H.one,(z F H).mono ?_⟩;simp_all
def Kl (z:Rel N w0 μ0 L μ loc st a w) {f:Operand} {g:Nat} {l:List AV} (h:bI P 0 st f=some (.pv (.fn g l))):∃q:List Value,a.eval f= .func (.func g) #[] q.toArray/\cN μ l q:=by have:=aW z h;assumption
theorem Ud {x:Operand} (h:kV st x=false) {t:TypeId} {s:SV} {v:AV} (e:bI P t st x=some s) (l:nT st s=some v):s.P8=[]:=by cases x with
 |tmp i=>simp[bI] at e;cases s with
  |pv x=>rfl
  |row j=>simp[kV,e] at h
  |ag z=>simp[kV,e] at h
  |aq j q=>simp[kV,e] at h
  |_=>simp[nT] at l
 |const v=>simp[bI] at e;cases B:ofConst P t v<;>simp_all;subst e;rfl
 |func f=>simp[bI] at e;subst e;rfl
 |global g=>simp[bI] at e
theorem J6 (G:Rel N w0 μ0 L μ loc st a w) (B:ic L.q μ0 P cB) {o:Oper} {c:Call} {f:Operand} {g:Nat} {O vs:List AV} {r:AV} (hd:∀i,o.dst=some i->i<N) (ho:o.op= .call c) (hc:c.callee= .value f)
  (hf:bI P 0 st f=some (.pv (.fn g O))) (hvs:jN P st c.args.toList c.argTypes.toList=some vs) (hr:cB g ((vs++O).map .pv) []=some (r,[]))
  (hp:(r.plain|| !(c.args.toList.any (kV st)))=true) (hns:r.jG=true) (hK:oP N w0 μ0 L (st.set o.dst (.pv r)) K):o.wU P a w K Q:=by
 obtain⟨cs,ZH,hcs⟩:=Kl G hf;cases VA:c.args.toList.any (kV st) with
 |false=>
  have z:=Du G (Mu.le.refl _) hvs (λx hx t s v e hl id hi=>by grind[Ud]);obtain⟨he,hC⟩:=ic.noY (B g _ _ r _ hr w _ loc _ G.base.1 G.yz (by simp[find]) (by intro i j oi oj hi;simp[find] at hi) (sD (oz z hcs))) λxs=>by simp[find]
  refine JC (R:=λv w'=>∃D q,fJ L.q μ loc [] r [] w v D q w') (r:=r) (sW:=[]) ho hc ZH rfl he (hC.mono ?_) ?_
  .simp
  .rintro v w' ⟨D,q,H⟩;exact hK _ _ _ _ ((G.grow (SA H.ext) H.yz (EO H) H.drawn).set hd (H.pure hns))
 |true=>
  have I :=by simpa[VA] using hp
  let l :=λb=>∃id ob,st.ob id=some ob/\mE (loc id) b
  have:∀b,Decidable (l b):=λb=>Classical.propDecidable _
  let F :=λb j=>if l b then Ii w b j else μ b j
  have S:μ.le F:=λb j v hv=>by
   by_cases hb:l b
   .obtain⟨id,ob,U,hbl⟩:=hb;have:=((G.obs _ _ U).block b hbl).2.2 j;simp_all
   grind
  have V:Mm F w:=λb j v hv=>by
   by_cases hb:l b
   .simpa[F,hb] using hv
   .exact G.yz b j v (by grind)
  have z:=Du G S hvs (λx hx t s v e hl id hi b j u hb R=>by
   obtain⟨ob,U⟩:=lend_ob hl hi;have hrow:l b:=⟨id,ob,U,hb⟩
   simpa[F,hrow] using R)
  obtain⟨he,hC⟩:=ic.noY (B g _ _ r _ hr w _ loc _ (G.base.1.trans S) V (by simp[find]) (by intro i j oi oj hi;simp[find] at hi) (sD (oz z (gy S _ _ hcs)))) λxs=>by simp[find]
  refine JC (R:=λv w'=>∃D q,fJ L.q F loc [] r [] w v D q w') (r:=r) (sW:=[]) ho hc ZH rfl he (hC.mono ?_) ?_
  .simp
  .rintro v w' ⟨D,q,H⟩;exact hK _ _ _ _ ((G.abO (EO H) H.drawn).set hd (aaa I (H.pure hns)))
def EU (G:Rel N w0 μ0 L μ loc st a w) {xs:List Operand} {D:List AV} (h:uw st xs=some D):cN μ D (xs.map a.eval):=by induction xs generalizing D with
 |nil=>simp_all[uw,dR]
 |cons x xs I=>cases x with
  |tmp i=>
   simp[uw] at h;split at h
   .rename_i v F B l;injection h with h;subst h;obtain⟨u,z,q⟩:=G.env i _ B
    have:a.eval (.tmp i)=u:=by simp[Act.eval,z]
    exact cQ (by rw[this];exact q) (I l)
   .rename_i U F B l;injection h with h;subst h;obtain⟨u,z,q⟩:=G.env i _ B
    have:a.eval (.tmp i)=u:=by simp[Act.eval,z]
    obtain⟨b,R,S,e,H,O⟩:=q;exact cQ (by rw[this];exact⟨b,_,S,e,H.1,H.2,O⟩) (I l)
   grind
  |_=>simp[uw] at h
def ET (G:Rel N w0 μ0 L μ loc st a w) {xs:List Operand} {F:List oF} (h:qL st xs=some F):kH μ loc F (xs.map a.eval):=by induction xs generalizing F with
 |nil=>simp[qL] at h;subst h;rfl
 |cons x xs H=>cases x with
  |tmp i=>
   simp[qL] at h;split at h
   .rename_i v D B l;injection h with h;subst h;obtain⟨u,z,q⟩:=G.env i _ B
    have:a.eval (.tmp i)=u:=by simp[Act.eval,z]
    exact⟨_,_,rfl,by rw[this];exact q,H l⟩
   .rename_i O D B l;injection h with h;subst h;obtain⟨u,z,q⟩:=G.env i _ B
    have:a.eval (.tmp i)=u:=by simp[Act.eval,z]
    obtain⟨b,U,V,e,I,S⟩:=q;refine⟨_,_,rfl,?_,H l⟩;rw[this];exact⟨b,_,V,e,I.1,I.2,S⟩
   .rename_i id D B l;injection h with h;subst h;obtain⟨u,z,q⟩:=G.env i _ B
    have:a.eval (.tmp i)=u:=by simp[Act.eval,z]
    obtain⟨b,R,h2⟩:=q;exact⟨_,_,rfl,⟨b,R,by simp_all⟩,H l⟩
   grind
  |_=>simp[qL] at h
def OJ (G:Rel N w0 μ0 L μ loc st a w) {o:Oper} {g:Nat} {first l:Array Operand} {d:Nat} {I:List AV} (hd:d<N) (z:o.dst=some d) (R:o.op= .makeFunc (.func g) first l) (F:first.isEmpty=true)
  (S:xI st l.toList=some st') (B:uw st' l.toList=some I) (V:oP N w0 μ0 L (st'.set (some d) (.pv (.fn g I))) K):o.wU P a w K Q:=by
 obtain⟨U,O,q⟩:=MK G G S;have H:=EU q B;have D :=by simpa using F
 refine qC q (λi hi=>by simp_all) ⟨.func (.func g) #[] (l.toList.map a.eval).toArray,?_,?_⟩ (by rw[z];omega)
 .unfold execOp;rw[R,D];have e:l.map a.eval=(l.toList.map a.eval).toArray:=by grind
  simp[Instr.makeFunc,e]
 .show rep _ _ _;rw[rep];simp_all
theorem FH (q:Rel N w0 μ0 L μ loc st a w) {xs:List Operand} (h:ni.ia st xs=some st'):∃l,Rel N w0 μ0 L l loc st' a w:=by induction xs generalizing st μ with
 |nil=>grind[ni.ia]
 |cons x xs H=>cases x with
  |tmp i=>
   simp[ni.ia] at h;split at h
   .rename_i id G;cases z:st.dr id with
    |none=>simp_all
    |some B=>obtain⟨D,_,F⟩:=q.dr z;grind
   grind
  |_=>grind[ni.ia]
def GQ (q:Rel N w0 μ0 L μ loc st a w) {xs:List Operand} (h:ni.jH st xs=some st'):∃l,Rel N w0 μ0 L l loc st' a w:=by grind[ni.jH,FH]
def Rel.addOb (l:Rel N w0 μ0 L μ loc st a w) {id:Nat} {o:Ob} (B:st.ob id=none) (R:nU w0.heap.size L μ loc w id o)
  (I:∀j F,st.ob j=some F->∀g,mE (loc id) g->¬mE (loc j) g):Rel N w0 μ0 L μ loc { st with ob:=put st.ob id (some o) } a w:=by
 refine⟨l.small,l.names,l.fix,l.size,l.defers,l.env,l.yz,l.base,?_,?_,l.keep,l.os,l.tape,l.output,l.grown,l.drawn⟩
 .intro i S q;by_cases e:id=i
  .simp_all[cW]
  .exact l.obs i _ (by simp_all[bS])
 .intro i j S F q D z g O;by_cases G:id=i
  .simp_all[bS]
  .simp[bS _ _ G] at q;by_cases H:id=j
   .grind
   .simp[bS _ _ H] at D;exact l.apart i j _ _ q D z g O
def MI (O:Rel N w0 μ0 L μ loc st a w) {locC:Nat->Value}:∀{xs:List Operand} {H:List TypeId} {F:List SV} {ids:List Nat},Fl P h st xs H=some (F,ids)->(∀id∈ids,locC 10000=loc id)->gT μ locC F (xs.map a.eval):=by intro xs;induction xs with
 |nil=>intro H F ids B _;obtain⟨rfl,rfl⟩:=B;rfl
 |cons x xs R=>
  intro H F ids B z;simp[Fl] at B;split at B
  .rename_i id I D l q;obtain⟨rfl,rfl⟩:=B;refine⟨_,_,rfl,?_,R q (λi V=>z i (by simp[V]))⟩;show a.eval x=fW _;rw[z id ai];cases x with
   |tmp t=>simp only[pE] at l;cases S:h.fq.contains t with
    |false=>simp_all
    |true=>
     simp only[S] at l;split at l
     .rename_i id' U;injection l with l;subst l;obtain⟨v,B,hr⟩:=O.env t _ U
      have:a.eval (.tmp t)=v:=by simp[Act.eval,B]
      rw[this];exact hr
     simp_all
   |_=>simp[pE] at l
  .rename_i I D l q;split at B
   .rename_i v G;obtain⟨rfl,rfl⟩:=B;exact⟨_,_,rfl,gI O G,R q z⟩
   simp_all
  simp_all
theorem Ms (R:Rel N w0 μ0 L μ loc st a w) (xA:ic L.q μ0 P cB) {o:Oper} {c:Call} {f:Operand} {st1:St} (hd:∀i,o.dst=some i->i<N) (ho:o.op= .call c) (hc:c.callee= .value f)
  (U:qe P h cB st c f o.dst=some st1) (hK:oP N w0 μ0 L st1 K):o.wU P a w K Q:=by
 unfold qe at U;split at U
 .rename_i g caps vs id hf hvs;split at U
  .rename_i e sz xs sV;split at U
   .rename_i r' nm D F B hr;cases hb:(Nat.beq e D&&Nat.beq sz F&&Nat.beq nm 10000) with
    |false=>simp_all
    |true=>
     simp only[hb,au] at U;simp only[aU] at hb;obtain⟨cs,ZH,hcs⟩:=Kl R hf;let z:Nat->Value:=λ_=>loc id
     have hok:=R.obs id _ sV;have hargs:=MI R (locC:=z) hvs (λi hi=>by grind);have SZ:∀i oi,find [(10000,Ob.row e sz xs)] i=some oi->nU w.heap.size (gY L.q z ([(10000,Ob.row e sz xs)].map (·.1))) μ z w i oi:=by intro i oi hi;simp only[find] at hi;cases V:Nat.beq 10000 i with
      |false=>simp_all
      |true=>simp only[V,au,bg] at hi;subst hi;have:=beq_iff.1 V;subst this;obtain⟨us,G,hrc,hm⟩:=hok;refine⟨us,G,hrc,λq O=>⟨.inr (.inr ⟨loc id,by rfl,O⟩),(hm q O).2⟩⟩
     obtain⟨he,hC⟩:=ic.noY (xA g _ _ r' _ hr w μ z (c.args.toList.map a.eval++cs) R.base.1 R.yz SZ (by
      intro i j oi oj hi hj hij
      grind[wg]) (mc hargs (sD hcs))) λxs h=>by simp[find] at h
     refine JC (R:=λv w'=>∃μ' I,fJ L.q μ z ([(10000,Ob.row e sz xs)].map (·.1)) r' [(nm,Ob.row D F B)] w v μ' I w') (r:=r') (sW:=[]) ho hc ZH rfl he (hC.mono ?_) ?_
     .simp
     .rintro v w' ⟨μ',I,H⟩;have hlb:∀b,NA (gY L.q z ([(10000,Ob.row e sz xs)].map (·.1))) b->mE (loc id) b:=by
       rintro b ⟨i,x,l,ZG⟩;simp only[gY] at l;split at l
       .grind
       .cases l
      have hng:∀b,¬ZE (gY L.q z ([(10000,Ob.row e sz xs)].map (·.1))) b:=by
       rintro b ⟨i,x,h9,h10,l,_⟩;simp only[gY] at l;split at l
       .simp_all
       .cases l
      have h1:=(R.drop id).world (w':=w') (μ':=μ') H.ext.1 (λb j x l=>by
        rcases H.ext.2 b j x l with l|l|l
        .simp_all
        .exact .inr (.inl (fO R.grown l))
        simp_all) H.yz (λk ok hk b hbk=>by
        by_cases D:id=k
        .simp_all[cW]
        .simp only[bS _ _ D] at hk;obtain⟨_,hlt,I4⟩:=(R.obs k ok hk).block b hbk;refine⟨H.keep b hlt (λhl=>R.apart id k _ ok sV hk D b (hlb b hl) hbk),λj=> ?_⟩;cases hj:μ' b j with
         |none=>rfl
         |some x=>
          rcases H.ext.2 b j x hj with l|l|l
          .simp_all
          .omega
          simp_all) (λb V hl=>H.keep b (fG V R.grown) (λhl'=>by
        have hbb:=hlb b hl';rcases(hok.block b hbb).1 with l|l|⟨x,l,ZG⟩
        .omega
        .exact hl l.cG
        .exact hl ⟨id,x,l,ZG⟩)) H.os H.tape H.output H.grown H.drawn
      have hnm:I nm=loc id:=by have:=beq_iff.1 hb.2;exact H.fix nm (by simp[this]) af af
      obtain⟨us,G,hrc,hm⟩:=H.obs nm (.row D F B) (by simp[find,pN]);rw[hnm] at G hm;split at U
      .rename_i n;cases VB:(Nat.ble n B.length&&gC id) with
       |false=>simp_all
       |true=>
       simp only[VB,au,bg] at U;subst U;simp only[aU] at VB;have hnl:n<=B.length:=fF VB.1;obtain⟨A,m,cp,S,hnm',hvv⟩:∃A m cp,I 10000= .slice A m cp/\n<=m/\v= .slice A n cp:=by
        rcases H.res with l|⟨n',A,m,cp,e1,_,h1,h2,h3⟩|⟨_,e1,_⟩|⟨_,_,_,_,e1,_⟩
        .rw[rep] at l;simp_all
        .grind
        .cases e1
        simp_all
       have e10:=beq_iff.1 hb.2;rw[e10] at hnm;rw[hnm] at S;have hid:id<10000\/20000<=id:=by have VE:=VB.2;simp only[gC,gx] at VE;rcases VE with hm|hm<;>simp_all
       have hblk:∀q,mE v q↔mE (loc id) q:=λq=>by rw[hvv,S,iJ,iJ];cases A<;>rfl
       have h2:=h1.new (id:=id) (val:=v) (o:= .row D F (B.take n)) hid ?_ (λj oj hj hne q O=>by
        simp only[bS _ _ (eB hne)] at hj
        exact R.apart id j _ oj sV hj (eB hne) q ((hblk q).1 O))
       .have heq:(St.new { env:=st.env,ob:=put st.ob id none } id (.row D F (B.take n)))=st.new id (.row D F (B.take n)):=by
         simp only[St.new,St.dG];congr 1;funext k;by_cases D:id=k
         .subst D;simp[cW]
         .simp only[bS _ _ D]
        rw[heq] at h2;exact hK _ _ _ _ (h2.set hd (sv:= .row id) (Qa (by rw[hvv];rfl)))
       .have hlen:(B.take n).length=n:=aH;have ZJ:=kN hrc n;refine⟨us.take (n *F),⟨by rw[cZ ZJ],?_⟩,ZJ,λq O=> ?_⟩
        .rw[dc,hlen,hvv];rcases G.2 with⟨e1,e2⟩|⟨q,cap,cur,e1,k1,k2,k3,k4,k5,k6⟩
         .grind
         .rw[S] at e1;simp only[Value.slice.injEq] at e1;obtain⟨rfl,rfl,rfl⟩:=e1;refine .inr ⟨q,cp,cur,rfl,k1,k2,by omega,k4,k5,?_⟩;rw[<-k6,List.take_take,xe (jR _ hnl)]
        .rw[dc,hblk q] at O;exact⟨(hok.block q O).1,(hm q O).2⟩
      .cases RC:r'.plain with
       |false=>simp_all
       |true=>
       simp[RC,au,bg] at U;subst U;have Kw:nU _ L _ _ _ _ (.row _ _ _):=⟨us,G,hrc,λq O=>⟨(hok.block q O).1,(hm q O).2⟩⟩
       have h2:=h1.addOb (by simp[cW]) Kw (λj oj hj q O=>by
        by_cases D:id=j
        .simp_all[cW]
        .simp[bS _ _ D] at hj
         exact R.apart _ j _ _ sV hj D q O)
       have heq:({ env:=st.env,ob:=put (put st.ob id none) id (some (.row D F B)) }:St)={ env:=st.env,ob:=put st.ob id (some (.row D F B)) }:=by
        congr 1;funext k;by_cases D:id=k
        .subst D;simp[cW]
        .simp[bS _ _ D]
       rw[heq] at h2;exact hK _ _ _ _ (h2.set hd (H.pure (PN RC)))
   simp_all
  simp_all
 simp_all
def SN {B:Nat} {z:List (Nat×Nat×TypeId×Nat)} {id:Nat} {e:TypeId} {D:Nat} {loc:Nat->Value}:∃val,fW val= .slice none 0 0/\(∀g,¬mE val g)/\nU B L μ (rF loc id val) w id (Km z id e D):=by
 have r:∃val,fW val= .slice _ 0 0/\(∀g,¬mE val g)/\nU B L μ (rF loc id val) w _ (.row e D []):=
  ⟨_,rfl,λg l=>by simp[mE,cu] at l,[],⟨ai, .inl ⟨dc _ _ _,rfl⟩⟩,rfl,λg l=>by simp_all[dc,mE,cu]⟩
 unfold Km;split
 .rename_i k H I _;cases F:Nat.blt k _ with
  |false=>exact r
  |true=>refine⟨_,rfl,λg l=> ?_,_,[],[],dc _ _ _,λq G=>(by simp[cu] at G),⟨ai, .inl ⟨rfl,rfl⟩⟩,rfl,⟨cK.mp F,ai⟩,rfl,rfl,by simp,by simp,by simp,ai⟩;simp_all[j8,cu]
 omega
def qB (R:Rel N w0 μ0 L μ loc st a w) {F:List (Nat×Nat×TypeId×Nat)}:∀(l:List (Nat×TypeId×Nat)) (st:St) (loc:Nat->Value),Rel N w0 μ0 L μ loc st a w->(∀x∈l,x.1<10000)->
  ∃q,Rel N w0 μ0 L μ q (iB F l st) a w/\(∀x∈l,fW (q x.1)= .slice none 0 0)/\∀i,fW (loc i)= .slice none 0 0->fW (q i)= .slice none 0 0
 |[],st,loc,h,_=>⟨_,h,by simp,λ_ h=>h⟩
 |(id,e,s)::l,st,loc,h,G=>by
  obtain⟨val,V,B,D⟩:=SN;have H:=h.new (.inl (G (id,e,s) ai)) D (λj oj hj _ g S=>absurd S (B g));obtain⟨q,I,U,O⟩:=qB R l _ _ H (λx z=>G x (by simp[z]));refine⟨_,I,λx z=> ?_,λi hi=>O i ?_⟩
  .rcases aN.1 z with rfl|z
   .simp_all[dc]
   grind
  grind[dc,c8]
def x6 {d:Nat} {pz:List Nat}:∀(j:Nat) (R:List TypeId) (G:List Value) (z:List SV) (l:List (Nat×TypeId×Nat)),nR P pz d j R G=some (z,l)->
  (∀x∈l,x.1<10000)/\(∀u∈G,u.oneCell'=true)/\∀(loc:Nat->Value),(∀x∈l,fW (loc x.1)= .slice none 0 0)->gT μ loc z G
 |j,[],[],z,l,q=>by simp only[nR,bg,cD] at q;obtain⟨rfl,rfl⟩:=q;exact⟨ai,by simp,λ_ _=>rfl⟩
 |j,[],_::_,z,l,q=>by simp[nR] at q
 |j,_::_,[],z,l,q=>by simp[nR] at q
 |j,t::R,v::G,z,l,q=>by
  simp only[nR] at q;split at q
  .rename_i F l' B;obtain⟨i1,i2,U⟩:=x6 (j+1) R G F _ B;split at q
   .rename_i e s hs;cases I:(Nat.blt 0 s&&Nat.blt (5000+16 *d+j) 10000) with
    |false=>simp_all
    |true=>
     simp[I] at q;obtain⟨rfl,rfl⟩:=q;simp at I;have V :=by have:=I.2;simpa[cK] using this
     refine⟨λx S=> ?_,λu D=> ?_,λloc O=> ?_⟩
     .grind
     .rcases aN.1 D with rfl|D
      .rfl
      simp_all
     .exact⟨_,_,rfl,(by show _=fW _;simp_all),U _ (λx S=>O x (by simp[S]))⟩
   .simp at q;obtain⟨av,H,rfl,rfl⟩:=q;have hr:=xH (μ:=μ) H;refine⟨i1,λu D=> ?_,λloc O=>⟨_,_,rfl,hr,U _ O⟩⟩;rcases aN.1 D with rfl|D
    .unfold ofConst at H;split at H<;>first|rfl|cases H
    simp_all
  simp_all
def Mw (G:Rel N w0 μ0 L μ loc st a w) {o:Oper} {d:Nat} {t:TypeId} {B:List SV} {l:List (Nat×TypeId×Nat)} (hd:d<N) (z:o.dst=some d) (ho:o.op= .alloc t)
  (hz:((zi P t).bind λI=>nR P ((find h.PD d).getD []) d 0 (tA P 8 t) I)=some (B,l)) (V:oP N w0 μ0 L (((iB h.nest l st).new d (.box t (B.map (SV.dG d)))).set (some d) (.ptr d 0)) K):o.wU P a w K Q:=by
 obtain⟨I,q,F⟩:=dy.1 hz;unfold zi at q;split at q
 .simp at q;obtain⟨v,hzv,rfl⟩:=q;obtain⟨O,R,S⟩:=x6 0 _ _ _ _ F;obtain⟨H,D,U,_⟩:=qB G l _ _ G O;refine E0 D hd z ?_ (xJ _ _ (S _ U)) R V;simp_all[execOp,Instr.alloc,zeroValue,typeInfo,newVar,newRow]
 simp_all
def PJ (D:Rel N w0 μ0 L μ loc st a w) {s:SV} {l:List SV} {u:Value} (h:GL st s=some l) (k:fQ μ loc s u):gT μ loc l u.cells.toList/\∀x∈u.cells.toList,x.oneCell'=true:=by
 unfold GL at h;split at h
 .injection h with h;subst h;obtain⟨F,rfl,B,q⟩:=k;simp_all[Value.cells,sD]
 .cases z:ot st s with
  |false=>simp_all
  |true=>rw[z] at h;simp at h;subst h;obtain⟨B,q⟩:=Wt D z k;rw[q];exact⟨⟨_,[],rfl,k,rfl⟩,by simp_all⟩
def HI (U:Rel N w0 μ0 L μ loc st a w) {place:Nat->Option (Nat×Nat)} {ty:Nat->TypeId}:∀{q:List (Nat×Operand)} {S:List (Nat×List SV)} {cells O:List SV} {I:List Value},qG P ty st q=some S->HG place cells S=some O->gT μ loc cells I->(∀u∈I,u.oneCell'=true)->
  ∃ws:List Value,Instr.fill place I.toArray (q.map λp=>(p.1,a.eval p.2))=some ws.toArray/\gT μ loc O ws/\∀u∈ws,u.oneCell'=true
 |[],S,cells,O,I=>λG H R h4=>by simp_all[qG,HG,Instr.fill]
 |(i,x)::q,S,cells,O,I=>λG H R h4=>by
  simp[qG] at G;split at G
  .rename_i l rest hx D;injection G with G;subst G;obtain⟨sx,V,hl⟩:=dy.1 hx;obtain⟨hc,hone⟩:=PJ U hl (aW U V);simp only[HG] at H;split at H
   .cases H
   .rename_i F size RC;split at H
    .rename_i z;have hlen :=by
      have:=ql hc;simpa[z.1] using this
     have hvl:=ql R;have B:=mc (mc (Eh R F) hc) (Eg R (F+size));obtain⟨ws,hw,hr,ho⟩:=HI U D H B (λu hu=>by grind);simp[bH,Instr.fill];have hsp:=Ip I (a.eval x).cells.toList F 0 aH;grind[Array.toList_zipIdx]
    simp_all
  simp_all
def Dm:∀{D:List SV} {l:List oF} {B:List Value},xx st D=some l->gT μ loc D B->kH μ loc l B
 |[],l,B=>λh k=>by simp[xx,bg] at h;subst h;exact k
 |s::D,l,B=>λh ⟨u,O,e,F,I⟩=>by
  simp[xx] at h;split at h
  .rename_i c G q z;injection h with h;subst h;refine⟨u,O,e,?_,Dm z I⟩;unfold aba at q;cases H:ot st s with
   |false=>simp_all
   |true=>
    rw[H] at q;split at q
    .injection q with q;subst q;exact F
    .injection q with q;subst q;exact F
    simp_all
  grind
def My (V:Rel N w0 μ0 L μ loc st a w) {hh:Hint} {o:Oper} {d:Nat} {t:TypeId} {q:Array (Nat×Operand)} (hd:d<N) (F:o.dst=some d) (ho:o.op= .build t q) (h:vI P hh st d t q.toList=some st') (hK:oP N w0 μ0 L st' K):o.wU P a w K Q:=by
 unfold vI at h;split at h
 .rename_i U svs l hu hz;cases G:U.toList.all (λf=>(kZ P f.type).isSome) with
  |false=>simp_all
  |true=>
   rw[G] at h;simp only[au] at h;split at h
   .rename_i ps R;split at h
    .rename_i cs O;injection h with h;subst h;obtain⟨sv2,hf,I⟩:=dy.1 O;obtain⟨vs,z,B⟩:=dy.1 hz;unfold zi at z;split at z
     .rename_i i hi;simp only[cL] at z;obtain⟨v,hzv,rfl⟩:=z;obtain⟨h1,h2,h3⟩:=x6 0 _ _ _ _ B;obtain⟨loc',D,h4,_⟩:=qB V l _ _ V h1;obtain⟨ws,hw,hr,H⟩:=HI D R hf (h3 _ h4) h2;refine jg (v:= .agg ws.toArray) (w':=w) ?_ ?_
      .obtain⟨S⟩:=U;have RC:=run_places (w:=w) _ G;have hpe:(λx=>Option.map (λf:Field=>(f.offset,(kZ P f.type).getD 0)) S[x]?)=pJ P t:=by
        funext x;simp[pJ,xz,hu,Ht];cases hx:S[x]? with
        |none=>rfl
        |some fd=>grind[Option.isSome_iff_exists]
       simp_all[execOp,Instr.build,zeroValue,typeInfo,bR]
      .rw[F];exact hK _ _ _ _ (D.set (λi hi=>by simp_all) ⟨ws,rfl,Dm I hr,H⟩)
     simp_all
    grind
   grind
 grind
theorem mL:∀{l:List Nat},distinct l=true->l.Nodup
 |[],_=>zu
 |x::l,h=>by simp[distinct,aU] at h;refine gj.2 ⟨λq=> ?_,mL h.2⟩;simp_all
def mN {q:Type}:∀{l:List (Nat×q)} {i:Nat} {v:q},find l i=some v->(i,v)∈l
 |[],_,_,h=>by simp[find] at h
 |(j,u)::l,i,v,h=>by simp[find] at h;cases z:Nat.beq j i with
  |true=>simp_all
  |false=>simp[z] at h;exact dz _ (mN h)
def Np {z:Type}:∀{l:List (Nat×z)} {i:Nat},find l i=none->i∉l.map (·.1)
 |[],_,_=>by simp
 |(j,u)::l,i,h=>by simp[find] at h;cases q:Nat.beq j i with
  |true=>simp_all
  |false=>simp[q] at h;simp only[bH,aN,not_or];exact⟨λe=>by simp_all,Np h⟩
def jM {z:Type}:∀{l:List (Nat×z)} {i:Nat} {v:z},(l.map (·.1)).Nodup->(i,v)∈l->find l i=some v
 |[],_,_,_,h=>by simp at h
 |(j,u)::l,i,v,q,h=>by
  simp at q;simp[find];rcases aN.1 h with h|h
  .simp_all
  .have:j≠i:=λe=>by simp_all
   rw[aa0 this];exact jM q.2 h
theorem tR (q:Nat->Bool):∀(k:Nat) (l:List Nat),(iP q k l).map (·.1)=l
 |_,[]=>rfl
 |k,id::l=>by simp[iP,tR _ _ l]
def Dx (q:Nat->Bool):∀(k:Nat) (l:List Nat),k+l.length<=10000->∀p∈iP q k l,(q p.1=true->20000+k<=p.2)/\(q p.1=false->10000+k<=p.2/\p.2<20000)
 |_,[],_,p,h=>by simp[iP] at h
 |k,id::l,z,p,h=>by
  simp at z;simp[iP,aN] at h;rcases h with rfl|h
  .grind
  .have:=Dx _ _ l af p h;grind
def NI (q:Nat->Nat):∀(k:Nat) (l:List Nat),(qu q k l).map (·.1)=l
 |_,[]=>rfl
 |k,id::l=>by simp[qu,NI _ _ l]
def ri (q:Nat->Nat):∀(k:Nat) (l:List Nat),∀p∈qu q k l,p.1∈l/\q p.1+k<=p.2/\p.2<q p.1+k+l.length
 |_,[],p,h=>by simp[qu] at h
 |k,id::l,p,h=>by
  simp[qu,aN] at h;rcases h with rfl|h
  .simp
  .obtain⟨z,B,D⟩:=ri _ _ l p h;grind
def ClOK (q:Nat->Nat) (n:Nat) (l:List Nat):Prop:=n<=10000/\∀id∈l,q id=9000/\n<=1000\/q id=10000\/q id=20000
def HS (z:Nat->Nat):∀(k:Nat) (l:List Nat),ClOK z (k+l.length) l->((qu z k l).map (·.2)).Nodup
 |_,[],_=>by simp[qu]
 |k,id::l,q=>by
  simp only[qu,bH,gj];have B:ClOK z (k+1+l.length) l:=⟨by have:=q.1;grind,λi F=>by have:=q.2 i (by simp[F]);grind⟩
  refine⟨λG=> ?_,HS _ _ l B⟩;obtain⟨p,H,e⟩:=aD.1 G;obtain⟨D,S,U⟩:=ri _ _ l p H;have I:=q.2 id ai;have O:=q.2 p.1 (by simp[D]);have R:=q.1;grind
def NH (q:Nat->Bool):∀(k:Nat) (l:List Nat),qu (Fq q) k l=iP q k l
 |_,[]=>rfl
 |k,id::l=>by simp[qu,iP,NH _ _ l,Fq];grind
theorem yg (D:Nat->Bool):∀(k:Nat) (l:List Nat),k+l.length<=10000->((iP D k l).map (·.2)).Nodup
 |_,[],_=>by simp[iP]
 |k,id::l,q=>by simp at q;simp only[iP,bH,gj];refine⟨λz=> ?_,yg _ _ l af⟩;obtain⟨p,B,e⟩:=aD.1 z;have:=Dx _ _ l af p B;grind
def zh:∀(m:List (Nat×Nat)),(swap m).map (·.1)=m.map (·.2)
 |[]=>rfl
 |(a,b)::l=>by simp[swap,zh l]
def B2:∀{m:List (Nat×Nat)} {a b:Nat},(a,b)∈m->(b,a)∈swap m
 |(x,y)::l,a,b,h=>by
  rcases aN.1 h with h|h
  .simp_all[swap]
  .exact dz _ (B2 h)
theorem Ch {loc l:Nat->Value} {G:Nat->Nat} {names:List Nat} (q:∀j∈names,l (G j)=loc j):∀{z:List oF} {B:List Value},SV.closed names (.cl 0 z)=true->kH μ loc z B->kH μ l (z.map (oF.oI G)) B
 |[],B,_,h=>h
 |c::z,B,F,⟨u,O,e,D,H⟩=>by simp[SV.closed,lW,aU] at F;refine⟨u,O,e,?_,Ch q (by simpa[SV.closed] using F.2) H⟩;cases c with
  |v a=>exact D
  |p id=>obtain⟨b,R,I⟩:=D;exact⟨b,by simp_all,I⟩
  |r id=>show u=fW _;rw[q _ (by simp_all)];exact D
def Lm {loc B:Nat->Value} {ρ:Nat->Nat} {names:List Nat} (D:∀j∈names,B (ρ j)=loc j) {s:SV} {v:Value} (O:s.closed names=true) (h:fQ μ loc s v):fQ μ B (s.oI ρ) v:=by induction s generalizing v with
 |two s t R F=>obtain⟨x,y,e,h,l⟩:=h;obtain⟨H,c2⟩:=lH.1 O;exact⟨x,y,e,R H h,F c2 l⟩
 |three s t r R F S=>obtain⟨x,y,z,e,h,l,h3⟩:=h;obtain⟨H,c3⟩:=lH.1 O;obtain⟨H,c2⟩:=lH.1 H;exact⟨x,y,z,e,R H h,F c2 l,S c3 h3⟩
 |undef=>exact h
 |any=>exact h
 |pv x=>exact h
 |cp cs=>exact h
 |ptr j U=>obtain⟨b,G,l⟩:=h;exact⟨b,by simp_all[SV.closed],l⟩
 |row j=>show v=fW _;rw[D j (by simpa[SV.closed] using O)];exact h
 |rp j sz i U=>obtain⟨g,n,c,G,l⟩:=h;exact⟨g,n,c,by simp_all[SV.closed],l⟩
 |sub j sz lo hi=>obtain⟨A,n,c,A',c',G,l⟩:=h;exact⟨A,n,c,A',c',by simp_all[SV.closed],l⟩
 |cl f I=>obtain⟨V,e,G⟩:=h;exact⟨V,e,Ch D (by assumption) G⟩
 |ag I=>obtain⟨V,e,G,l⟩:=h;exact⟨V,e,Ch D (by assumption) G,l⟩
 |aq j q=>simp[SV.closed] at O
def GU {loc l:Nat->Value} {F:Nat->Nat} {names:List Nat} (q:∀j∈names,l (F j)=loc j):∀{z:List SV} {B:List Value},z.all (SV.closed names)=true->gT μ loc z B->gT μ l (z.map (SV.oI F)) B
 |[],B,_,h=>h
 |c::z,B,D,⟨u,I,e,G,H⟩=>by simp only[lW,aU] at D;exact⟨u,I,e,Lm q D.1 G,GU q D.2 H⟩
def K5 {n0 I:Nat} {L V:s7} {loc z:Nat->Value} {ρ:Nat->Nat} {names:List Nat} (hρ:∀j∈names,z (ρ j)=loc j) {id G:Nat} {o:Ob} (hc:o.closed names=true) (h:nU n0 L μ loc w id o) (hid:z G=loc id)
  (l:∀b,mE (loc id) b->IK I V G b) (hq:V.q=L.q:=by rfl):nU I V μ z w G (o.oI ρ):=by
 cases o with
 |box t cells=>obtain⟨b,O,B,ho,hh,H,hs,R⟩:=h;exact⟨b,O,by simp_all,l b (by rw[B];exact Ff.2 rfl),hh,H,GU hρ hc hs,R⟩
 |row e sz xs=>obtain⟨O,hw,F,H⟩:=h;exact⟨O,by simp_all,F,λg U=>by simp_all⟩
 |mp k e ks es=>obtain⟨b,eL,clock,B,ho,hh,H,R,S,hB⟩:=h;exact⟨b,_,_,by simp_all,l b (by rw[B];exact Ah.2 rfl),hh,H,R,S,hB⟩
 |rn e s k e' s' xs ys=>obtain⟨m,us,O,B,H,D,F,hk,S,h3,h4,h5,h6,h7⟩:=h;refine⟨m,us,O,by simp_all,λq hq=>⟨l q (by rw[B];exact j8.2 (.inl hq)),(H q hq).2⟩,D,F,hk,S,h3,λi zs hi=> ?_,h5,h6,h7⟩;obtain⟨u,cells,k1,k2,k3,k4,k5⟩:=h4 i zs hi;exact⟨u,cells,k1,k2,k3,k4,λg U=>⟨l g (by rw[B];exact j8.2 (.inr ⟨u,aV k1,U⟩)),(k5 g U).2⟩⟩
 |lp xs=>obtain⟨us,B,R,S⟩:=h;exact⟨us,by simp_all,λg U=>by simp_all,by simp_all⟩
def FI {tm:Nat->Option Value}:∀(l:List Nat) (st:St) (loc q:Nat->Value),(∀i,i∉l->q i=loc i)->(∀i s,st.env i=some s->∃v,tm i=some v/\fQ μ loc s v)->∀i s,(fD l st).env i=some s->∃v,tm i=some v/\fQ μ q s v
 |[],st,loc,q,B,h,i,s,z=>by
  have :=funext λi=>B i ai
  rw[this];exact h i s z
 |id::l,st,loc,q,B,h,i,s,z=>by
  refine FI l _ (rF loc id (q id)) _ (λi D=> ?_) (λi s z=> ?_) i s z
  .grind[dc,c8]
  .simp[St.dG,cL] at z;grind[Aw]
def H9:∀(l:List Nat) (st:St) (loc q:Nat->Value),(∀i,i∉l->q i=loc i)->∀i B,(fD l st).ob i=some B->i∉l/\∃o,st.ob i=some o/\∀D L μ w,nU D L μ loc w i o->nU D L μ q w i B
 |[],st,loc,q,G,i,B,z=>by
  have :=funext λi=>G i ai
  rw[this];exact⟨ai,B,z,λ_ _ _ _ h=>h⟩
 |id::l,st,loc,q,G,i,B,z=>by
  obtain⟨I,R,F,H⟩:=H9 l _ (rF loc id (q id)) q (λi O=>by grind[dc,c8]) i _ z;by_cases e:id=i
  .simp_all[St.dG,cW]
  .simp[St.dG,bS _ _ e,cL] at F;obtain⟨o,z,rfl⟩:=F;exact⟨by grind,o,z,λD L μ w h=>H _ L _ w (Eb h (eB e))⟩
def EM (F:Rel N w0 μ0 L μ loc st a w):∀{xs:List Operand} {z:List TypeId} {q:List SV},uv P h st xs z=some q->gT μ loc q (xs.map a.eval)
 |[],z,q,l=>by simp[uv,bg] at l;subst l;rfl
 |x::xs,z,q,l=>by
  simp[uv] at l;split at l
  .rename_i v G B D;injection l with l;subst l;refine⟨_,_,rfl,?_,EM F D⟩;unfold aaZ at B
   all_goals first
    |grind[aW]
    |cases B
    |(cases H:isRef h x with
      |false=>simp_all
      |true=>grind[aW])
  simp_all
def yd {ids:List Nat} {F:Nat->Nat}:∀{l:List (Nat×Nat)} {cG:List (Nat×Ob)},jO st ids F l=some cG->cG.map (·.1)=l.map (·.2)/\∀B D,(B,D)∈cG->∃id o,(id,B)∈l/\st.ob id=some o/\o.closed ids=true/\D=o.oI F
 |[],cG,z=>by simp_all[jO]
 |(id,B)::l,cG,z=>by
  simp[jO] at z;split at z
  .rename_i o R O q;cases I:o.closed ids with
   |false=>simp_all
   |true=>obtain⟨G,H⟩:=yd q;grind
  simp_all
theorem xW {names:List Nat} {H:Nat->Nat}:∀{l:List (Nat×Nat)} {cG q:List (Nat×Ob)},mH names H l cG=some q->cG.map (·.1)=l.map (·.2)/\q.map (·.1)=l.map (·.1)/\∀id G,(id,G)∈q->∃B o,(id,B)∈l/\(B,o)∈cG/\o.closed names=true/\G=o.oI H
 |[],[],q,z=>by simp_all[mH]
 |[],_::_,q,z=>by simp[mH] at z
 |_::_,[],q,z=>by simp[mH] at z
 |(id,B)::l,(F,o)::U,q,z=>by simp[mH] at z;cases D:(Nat.beq B F&&o.closed names) with
  |false=>simp_all
  |true=>simp[D,au,cL] at z;obtain⟨r,I,rfl⟩:=z;simp only[aU] at D;have:=beq_iff.1 D.1;obtain⟨O,R,S⟩:=xW I;grind
def KO {l:Nat->Bool} {id:Nat} (h:l id=true->gC id=true):Fq l id=10000\/Fq l id=20000/\gC id=true:=by unfold Fq;grind
def Vz {st:St} {l:Nat->Bool} {id:Nat} (h:l id=true->gC id=true):Kt st l id=9000\/Kt st l id=10000\/Kt st l id=20000/\gC id=true:=by unfold Kt;cases VL _ _ with
 |true=>simp
 |false=>exact .inr (KO h)
def PT {z:Nat->Option Ob} {B:SV} {v:Value} (h:fQ μ loc B v) (l:∀id t cells,z id=some (.box t cells)->∃b,loc id= .pointer (some ⟨b,0,none⟩)):fQ μ loc (Ld z B) v:=by
 unfold Ld;split
 .split
  .rename_i D;obtain⟨b,q⟩:=l _ _ _ D;exact⟨b,q,by rw[h,q];rfl⟩
  omega
 omega
def B3:∀{l:List Nat},l.Nodup->distinct l=true
 |[],_=>rfl
 |x::l,h=>by have:=gj.1 h;simp[distinct,this.1,B3 this.2]
def Kk {R:SV} {v:Value} {g:Nat} {pre z:List SV} (D:fQ μ loc R v) (l:SJ R=some (g,pre,z)):∃O I:List Value,gT μ loc pre O/\gT μ loc z I/\((g<2000000/\v= .func (.func g) O.toArray I.toArray)\/(2000000<=g/\O=[]/\∃u,I=[u]/\v=clV g [u])):=by
 unfold SJ at l;split at l
 .rename_i U H;cases B:Nat.blt U 1000000 with
  |false=>simp_all
  |true=>
  rw[B] at l;obtain⟨rfl,rfl,rfl⟩:=l;obtain⟨G,e,F⟩:=D;exact⟨[],G,rfl,sD F, .inl ⟨fG (cK.mp B) (by decide),e⟩⟩
 .obtain⟨G,e,F⟩:=D;cases B:Nat.blt _ _ with
  |true=>rw[B] at l;obtain⟨rfl,rfl,rfl⟩:=l;exact⟨[],G,rfl,tc F, .inl ⟨fG (cK.mp B) (by decide),by simp_all[clV]⟩⟩
  |false=>rw[B] at l;cases q:Nat.blt _ _ with
   |true=>rw[q] at l;simp at l;obtain⟨rfl,rfl,rfl⟩:=l;exact⟨G,[],tc F,rfl, .inl ⟨nv (Nat.sub_le _ _) (cK.mp q),by simp_all[clV]⟩⟩
   |false=>
    rw[q] at l;split at l
    .rename_i S;obtain⟨rfl,rfl,rfl⟩:=l;obtain⟨u,us',e1,V,h2⟩:=F;have :=h2;subst this e1;refine⟨[],_,rfl,tc (caps:=[S]) ⟨u,[],rfl,V,rfl⟩, .inr ⟨?_,rfl,u,rfl,e⟩⟩;cases Nat.lt_or_ge _ _ with
     |inl h=>rw[cK.mpr h] at q;grind
     |inr h=>exact h
    simp_all
 simp_all
def BM (V:Rel N w0 μ0 L μ loc st a w) (xA:ic L.q μ0 P cB) {o:Oper} {c:Call} {f:Operand} {st1:St} (hd:∀i,o.dst=some i->i<N) (ho:o.op= .call c) (hc:c.callee= .value f)
  {g:Nat} {args:List SV} {cl:Nat->Nat} {ps cs:List Value} (hall0:gT μ loc args (ps++(c.args.toList.map a.eval++cs))) (hcl:∀id,cl id=9000\/cl id=10000\/cl id=20000/\gC id=true)
  (ZH:(g<2000000/\a.eval f= .func (.func g) ps.toArray cs.toArray)\/(2000000<=g/\ps=[]/\∃v,cs=[v]/\a.eval f=clV g [v]))
  (hv:ki cB st g args cl o.dst=some st1) (hK:oP N w0 μ0 L st1 K):o.wU P a w K Q:=by
 unfold ki at hv;simp only[] at hv;generalize hids:gB st 200 (args.flatMap SV.ids) []=ids at hv;generalize hm:qu cl 0 ids=m at hv;generalize hmB:(m.filter λp=> !(given cl p.1))=mB at hv;cases A4:(distinct ids&&Nat.blt ids.length 10000&&args.all (SV.closed ids)&&(ids.all (λi=> !(given cl i))||(Nat.blt ids.length 1000&&ids.all λi=> !(given cl i)||iC i))) with
 |false=>rw[A4] at hv;cases hv
 |true=>
 simp only[A4,au] at hv;simp only[aU] at A4;obtain⟨⟨⟨hdis,hlen⟩,abQ⟩,hgiv⟩:=A4;have hlen:ids.length<10000:=by simpa[cK] using hlen
 have hgv:∀i∈ids,cl i=9000->ids.length<1000/\i<10000:=λi hi e=>by
  have hgi:given cl i=true:=by simp[given,e]
  rcases Bool.or_eq_true_iff.1 hgiv with h|h
  .have:=cI.1 h i hi;simp[hgi] at this
  .obtain⟨h1,h2⟩:=lH.1 h;have h2:=cI.1 h2 i hi;simp only[hgi,dM,pO,iC,cK] at h2;exact⟨cK.mp h1,h2⟩
 have hnd:=mL hdis;have hm1:m.map (·.1)=ids:=by rw[<-hm];exact NI _ _ _
 have hin1:∀p∈m,p.1∈ids:=λp z=>by rw[<-hm1];exact aD.2 ⟨p,z,rfl⟩
 have O2:∀p∈m,(cl p.1=20000->20000<=p.2)/\(cl p.1=10000->10000<=p.2/\p.2<20000)/\(cl p.1=9000->9000<=p.2/\p.2<10000):=by intro p z;have h0:=hin1 p z;rw[<-hm] at z;obtain⟨_,h1,h2⟩:=ri cl 0 ids p z;refine⟨λe=>by omega,λe=>by omega,λe=> ?_⟩;have:=(hgv _ h0 e).1;omega
 have hmb:∀p,p∈mB↔p∈m/\cl p.1≠9000:=λp=>by
  rw[<-hmB,cT];refine and_congr_right λ_=>⟨λh e=> ?_,λh=> ?_⟩
  .unfold given at h;rw[e] at h;cases h
  .cases hg:given cl p.1 with
   |false=>rfl
   |true=>exact absurd (beq_iff.1 hg) h
 have hnn:(m.map (·.2)).Nodup:=by
  rw[<-hm];refine HS cl 0 ids ⟨af,λid hid=> ?_⟩;rcases hcl id with e|e|⟨e,_⟩
  .exact .inl ⟨e,by have:=(hgv id hid e).1;omega⟩
  .exact .inr (.inl e)
  .omega
 have hget:∀id l,(id,l)∈m->find m id=some l:=λid l z=>jM (by rw[hm1];exact hnd) z
 have U:∀id l,(id,l)∈m->find (swap m) l=some id:=λid l z=>jM (by rw[zh];omega) (B2 z)
 have hex:∀id∈ids,∃l,(id,l)∈m:=λid hid=>by rw[<-hm1] at hid;obtain⟨p,z,rfl⟩:=aD.1 hid;exact⟨p.2,z⟩
 let G:Nat->Value:=λl=>match find (swap m) l with
  |some id=>loc id
  |none=>loc l
 have O:∀id l,(id,l)∈m->G l=loc id:=λid l z=>by simp only[G,U id l z]
 have hren:∀id l,(id,l)∈m->iD m id=l:=λid l z=>by simp[iD,hget id l z]
 have hren2:∀id l,(id,l)∈m->iD (swap m) l=id:=λid l z=>by simp[iD,U id l z]
 have hρ:∀j∈ids,G (iD m j)=loc j:=λj hj=>by obtain⟨l,z⟩:=hex j hj;rw[hren j l z,O j l z]
 split at hv
 .rename_i cG SZ;obtain⟨XH,VD⟩:=yd SZ;have hlnd:(cG.map (·.1)).Nodup:=by rw[XH];exact hnn
  cases hr:cB g (args.map (SV.oI (iD m))) cG with
  |none=>rw[hr] at hv;cases hv
  |some rl=>
  obtain⟨r,R⟩:=rl;rw[hr] at hv;simp only[] at hv;generalize hnw:newNames (o.dst.getD 0) 0 (R.drop mB.length)=nw at hv;generalize hmm:mB++nw=mm at hv;cases OZ:(Nat.ble nw.length 8&&distinct (mm.map (·.1))&&distinct (mm.map (·.2))&&nw.all (λx=>Nat.blt x.1 10000)&&nw.all (λx=>Nat.ble 25000 x.2)) with
  |false=>rw[OZ] at hv;cases hv
  |true=>
  simp only[OZ,au] at hv;simp only[aU,cI] at OZ;obtain⟨⟨⟨⟨_,hd1⟩,hd2⟩,hd3⟩,hd4⟩:=OZ;have hn1:=mL hd1;have hn2:=mL hd2;have hgetM:∀id l,(id,l)∈mm->find mm id=some l:=λid l z=>jM hn1 z
  have hswapM:∀id l,(id,l)∈mm->find (swap mm) l=some id:=λid l z=>jM (by rw[zh];omega) (B2 z)
  have hrenM:∀id l,(id,l)∈mm->iD (swap mm) l=id:=λid l z=>by simp[iD,hswapM id l z]
  have hpart:∀p∈mm,(p∈m/\cl p.1≠9000)\/p∈nw:=λp z=>by rw[<-hmm] at z;exact(bu.1 z).imp (hmb p).1 λh=>h
  have hnw25:∀p∈nw,25000<=p.2:=λp z=>by simpa using hd4 p z
  have hnwn:∀p∈nw,p.2∉cG.map (·.1):=λp z B=>by
   rw[XH] at B;obtain⟨q,hq,e⟩:=aD.1 B;by_cases hg9:cl q.1=9000
   .have:=((O2 q hq).2.2 hg9).2;have:=hnw25 p z;omega
   .have:(mB.map (·.2)++nw.map (·.2)).Nodup:=by rw[<-cE,hmm];exact hn2
    exact(jq.1 this).2.2 _ (aD.2 ⟨q,(hmb q).2 ⟨hq,hg9⟩,e⟩) _ (aD.2 ⟨p,z,rfl⟩) rfl
  have hnwi:∀p∈nw,p.1<10000:=λp z=>by simpa[cK] using hd3 p z
  split at hv
  .rename_i back Ds;obtain⟨hb1,hb2,hb3⟩:=xW Ds;have hbnd:(R.map (·.1)).Nodup:=by rw[hb1];exact hn2
   have hall:=GU hρ abQ hall0;have hobs:∀i oi,find cG i=some oi->nU w.heap.size (gY L.q G (cG.map (·.1))) μ G w i oi:=by
    intro i oi hi;obtain⟨id,S,z,sV,hoc,rfl⟩:=VD i oi (mN hi);refine K5 hρ hoc (V.obs id _ sV) (O id i z) (λb hb=> .inr (.inr ⟨loc id,?_,hb⟩))
    have:i∈cG.map (·.1):=by rw[XH];exact aD.2 ⟨_,z,rfl⟩
    simp only[gY,aB this,O id i z]
   have hapC:W9 G cG:=by intro i j oi oj hi hj hij q hq;obtain⟨id,S,z,sV,_⟩:=VD i oi (mN hi);obtain⟨id',ob',H,Kw,_⟩:=VD j oj (mN hj);rw[O id i z] at hq;rw[O id' j H];refine V.apart id id' S ob' sV Kw (λe=>hij ?_) q hq;subst e;have:=(hget id i z).symm.trans (hget id j H);injection this
   have hgo:(∀v w',(∃μ' I,fJ L.q μ G (cG.map (·.1)) r R w v μ' I w')->K (a.put o.dst v) w')->o.wU P a w K Q:=λhK'=>by
    rcases xA g _ _ r _ hr w μ G (ps++(c.args.toList.map a.eval++cs)) V.base.1 V.yz hobs hapC hall with⟨hg,he,hC⟩|⟨hg,_,as,v0,BX,hY⟩
    .rcases ZH with⟨_,ZH⟩|⟨hg2,_⟩
     .refine aeE (R:=λv w'=>∃μ' I,fJ L.q μ G (cG.map (·.1)) r R w v μ' I w') ho hc ZH rfl he (hC.mono ?_) hK';rintro e w' ⟨v,μ',I,rfl,hP⟩;exact⟨v,rfl,μ',I,hP⟩
     omega
    .rcases ZH with⟨hg2,_⟩|⟨_,rfl,v1,rfl,ZH⟩
     .omega
     .rw[dK] at BX;obtain⟨e1,e2⟩:=List.append_inj' BX rfl;simp only[cR,eH] at e2;subst e1 e2;rw[<-ZH] at hY;refine aeF (R:=λv w'=>∃μ' I,fJ L.q μ G (cG.map (·.1)) r R w v μ' I w') ho hc (hY.mono ?_) hK';rintro e w' ⟨v,μ',I,rfl,hP⟩;exact⟨v,rfl,μ',I,hP⟩
   refine hgo ?_;rintro v w' ⟨μ',I,hP⟩;let F:Nat->Value:=λi=>match find mm i with
    |some l=>I l
    |none=>loc i
   have ZF:∀id l,(id,l)∈mm->F id=I l:=λid l z=>by simp only[F,hgetM id l z]
   have XD:∀i,i∉ids.filter (λi=> !(stays cl i))++nw.map (·.1)->F i=loc i:=by intro i hi;cases hfi:find mm i with
    |none=>simp only[F,hfi]
    |some l=>
     have z:=mN hfi;rcases hpart _ z with⟨H,_⟩|H
     .have D:i∈ids:=hin1 _ H;have hmv0:cl i=10000:=by
       cases B:stays cl i with
       |true=>exact beq_iff.1 B
       |false=>exact absurd (cM _ (cT.2 ⟨D,by simp[B]⟩)) hi
      have hr2:=(O2 _ H).2.1 hmv0;rw[ZF i l z,hP.fix l (by rw[XH];exact aD.2 ⟨_,H,rfl⟩) hr2.1 hr2.2];exact O i l H
     .exact absurd (gz _ (aD.2 ⟨_,H,rfl⟩)) hi
   have hlb:∀b,NA (gY L.q G (cG.map (·.1))) b->∃id S,id∈ids/\st.ob id=some S/\mE (loc id) b:=by
    rintro b ⟨l,x,B,ZG⟩;simp only[gY] at B;split at B
    .rename_i D;injection B with B;subst B;rw[XH] at D;obtain⟨p,z,rfl⟩:=aD.1 D;rw[O p.1 p.2 z] at ZG;obtain⟨q,hq,e⟩:=aD.1 (show p.2∈cG.map (·.1) by rw[XH];exact aD.2 ⟨_,z,rfl⟩);obtain⟨id,S,k1,k2,_⟩:=VD q.1 q.2 hq;rw[e] at k1;have:=(U p.1 p.2 z).symm.trans (U id p.2 k1);injection this with this;exact⟨p.1,S,by rw[<-hm1];exact aD.2 ⟨_,z,rfl⟩,by rw[this];exact k2,ZG⟩
    .cases B
   have holdob:∀i oi,st.ob i=some oi->i∉ids->nU w0.heap.size L μ' loc w' i oi:=by
    intro i oi hi hni;refine(V.obs i oi hi).keep hP.ext.1 (λb hb=> ?_);obtain⟨_,hlt,I4⟩:=(V.obs i oi hi).block b hb;refine⟨hP.keep b hlt (λhl=> ?_),λj=> ?_⟩
    .obtain⟨id,S,h1,h2,h3⟩:=hlb b hl;exact V.apart id i S oi h2 hi (λe=>hni (by rw[<-e];exact h1)) b h3 hb
    .cases hj:μ' b j with
     |none=>rfl
     |some x=>
      rcases hP.ext.2 b j x hj with B|B|B
      .rw[I4 j] at B;cases B
      .omega
      .obtain⟨id,S,h1,h2,h3⟩:=hlb b B.cG;exact absurd hb (V.apart id i S oi h2 hi (λe=>hni (by rw[<-e];exact h1)) b h3)
   have hgb:∀b,ZE (gY L.q G (cG.map (·.1))) b->∃id S,id∈ids/\cl id=9000/\st.ob id=some S/\mE (loc id) b:=by
    rintro b ⟨l,x,h9,h10,B,ZG⟩;simp only[gY] at B;split at B
    .rename_i D;injection B with B;subst B;rw[XH] at D;obtain⟨p,z,rfl⟩:=aD.1 D;have hc9:cl p.1=9000:=by
      rcases hcl p.1 with e|e|⟨e,_⟩
      .exact e
      .have:=(O2 p z).2.1 e;omega
      .have:=(O2 p z).1 e;omega
     rw[O p.1 p.2 z] at ZG;obtain⟨q,hq,e⟩:=aD.1 (show p.2∈cG.map (·.1) by rw[XH];exact aD.2 ⟨_,z,rfl⟩);obtain⟨id,S,k1,k2,_⟩:=VD q.1 q.2 hq;rw[e] at k1;have:=(U p.1 p.2 z).symm.trans (U id p.2 k1);injection this with this;exact⟨p.1,S,hin1 p z,hc9,by rw[this];exact k2,ZG⟩
    .cases B
   have hgn:∀b,ZE (gY L.q G (cG.map (·.1))) b->w0.heap.size<=b\/ZE L b:=λb hb=>by obtain⟨id,S,h1,h2,h3,h4⟩:=hgb b hb;exact V.D9 (hgv id h1 h2).2 ((V.obs id S h3).block b h4).1
   have hback':∀id o',find back id=some o'->∃l o,(id,l)∈mm/\find R l=some o/\o.closed (mm.map (·.2))=true/\o'=o.oI (iD (swap mm)):=by intro id o' hfb;obtain⟨l,o,h1,h2,h3,h4⟩:=hb3 id o' (mN hfb);exact⟨l,o,h1,jM hbnd h2,h3,h4⟩
   have S5:∀id l S b,(id,l)∈mm->find R l=some S->mE (I l) b->w.heap.size<=b\/ZE (gY L.q G (cG.map (·.1))) b\/((id,l)∈m/\mE (loc id) b):=by
    intro id l S b z hfo hb;rcases((hP.obs l S hfo).block b hb).1 with B|B|⟨x,B,ZG⟩
    .omega
    .exact .inr (.inl B)
    .right;right;simp only[gY] at B;split at B
     .rename_i D;rcases hpart _ z with⟨H,_⟩|H
      .injection B with B;subst B;rw[O id l H] at ZG;exact⟨H,ZG⟩
      .exact absurd D (hnwn _ H)
     .cases B
   have hobin:∀id l,(id,l)∈m->∃S,st.ob id=some S:=by intro id l z;obtain⟨q,hq,e⟩:=aD.1 (show l∈cG.map (·.1) by rw[XH];exact aD.2 ⟨_,z,rfl⟩);obtain⟨id',S,k1,k2,_⟩:=VD q.1 q.2 hq;rw[e] at k1;have:=(U id l z).symm.trans (U id' l k1);injection this with this;exact⟨S,by rw[this];exact k2⟩
   have hidm:∀i,i∉mm.map (·.1)->i∉ids.filter (λi=> !(stays cl i))++nw.map (·.1)->i∉ids:=λi hi hn B=>by
    obtain⟨l,z⟩:=hex i B;by_cases h9:cl i=9000
    .exact hn (cM _ (cT.2 ⟨B,by unfold stays;rw[h9];rfl⟩))
    .exact hi (by rw[<-hmm];exact aD.2 ⟨_,cM _ ((hmb (i,l)).2 ⟨z,h9⟩),rfl⟩)
   have S3:∀i oi,((find back i).orElse λ_=>(fD (ids.filter (λi=> !(stays cl i))++nw.map (·.1)) st).ob i)=some oi->nU w0.heap.size L μ' F w' i oi/\((∃l o,(i,l)∈mm/\find R l=some o)\/(i∉mm.map (·.1)/\i∉ids/\∃o,st.ob i=some o)):=by intro i oi hi;cases hfb:find back i with
    |some o'=>
     rw[hfb] at hi;simp at hi;subst hi;obtain⟨l,S,z,hfo,hcl,rfl⟩:=hback' i o' hfb;refine⟨K5 (names:=mm.map (·.2)) (λj hj=> ?_) hcl (hP.obs l S hfo) (ZF i l z) (λb hb=> ?_), .inl ⟨l,S,z,hfo⟩⟩
     .obtain⟨q,hq,rfl⟩:=aD.1 hj;rw[hrenM q.1 q.2 hq,ZF q.1 q.2 hq]
     .rcases S5 i l S b z hfo hb with B|B|⟨H,B⟩
      .exact .inl (fO V.grown B)
      .exact(hgn b B).imp (λh=>h) .inl
      .obtain⟨ob0,hob0⟩:=hobin i l H;exact((V.obs i ob0 hob0).block b B).1
    |none=>
     rw[hfb] at hi;have hni:i∉mm.map (·.1):=by rw[<-hb2];exact Np hfb
     have hi':(fD (ids.filter (λi=> !(stays cl i))++nw.map (·.1)) st).ob i=some oi:=by simpa using hi
     obtain⟨hnp,S,sV,hk⟩:=H9 _ st loc F XD i oi hi';exact⟨hk _ _ _ _ (holdob i S sV (hidm i hni hnp)), .inr ⟨hni,hidm i hni hnp,S,sV⟩⟩
   have hrel:Rel N w0 μ0 L μ' F { env:=(fD (ids.filter (λi=> !(stays cl i))++nw.map (·.1)) st).env,ob:=λi=>(find back i).orElse λ_=>(fD (ids.filter (λi=> !(stays cl i))++nw.map (·.1)) st).ob i } a w':=by
    refine⟨V.small,V.names,?_,V.size,V.defers,?_,hP.yz,⟨V.base.1.trans hP.ext.1,?_⟩,λi oi hi=>(S3 i oi hi).1,?_,?_,hP.os.trans V.os,hP.tape.trans V.tape,hP.output.trans V.output,fO V.grown hP.grown,λq=>fO (V.drawn q) (hP.drawn q)⟩
    .intro id x B h9 hlt;rw[XD id (λD=> ?_)]
     .exact V.fix id x B h9 hlt
     .rcases bu.1 D with D|D
      .obtain⟨hmi,hms⟩:=cT.1 D;rcases hcl id with e|e|⟨_,hmt⟩
       .have:=(hgv id hmi e).2;omega
       .simp[stays,e] at hms
       .simp only[gC,gx,aU] at hmt;rcases hmt with hh|hh
        .have:id<10000:=by simpa[cK] using hh
         omega
        .have:=fF hh.1;omega
      .obtain⟨p,z,rfl⟩:=aD.1 D;have:=hnwi p z;omega
    .exact FI (tm:=λi=>a.tmps[i]?) _ st loc F XD (λi s hs=>by
      obtain⟨u,hu,hr⟩:=V.env i s hs
      exact⟨u,hu,GR hP.ext.1 hr⟩)
    .intro b j x B;rcases hP.ext.2 b j x B with B|B|B
     .exact V.base.2 b j x B
     .exact .inr (.inl (fO V.grown B))
     .exact .inr (hgn b B)
    .intro i j oi oj hi hj hij q hq;have Ww:∀k ok,k∉mm.map (·.1)->k∉ids->st.ob k=some ok->∀q,mE (F k) q->mE (loc k) q/\q<w.heap.size:=by
      intro k ok hk hki hok q hq
      have:F k=loc k:=XD k (λhm=>by
       rcases bu.1 hm with hm|hm
       .exact hki (cT.1 hm).1
       .exact hk (by rw[<-hmm,cE];exact gz _ hm))
      rw[this] at hq;exact⟨hq,((V.obs k ok hok).block q hq).2.1⟩
     have mixed:∀i l o j oj q,(i,l)∈mm->find R l=some o->j∉mm.map (·.1)->j∉ids->st.ob j=some oj->mE (F i) q->mE (F j) q->False:=by
      intro i l o j oj q z hfo hj hji hoj hqi hqj;obtain⟨hqj',hlt⟩:=Ww j oj hj hji hoj q hqj;rw[ZF i l z] at hqi;rcases S5 i l o q z hfo hqi with B|B|⟨H,B⟩
      .omega
      .obtain⟨id,S,h1,_,h3,h4⟩:=hgb q B;exact V.apart id j S oj h3 hoj (λe=>hji (by grind)) q h4 hqj'
      .obtain⟨ob0,hob0⟩:=hobin i l H;exact V.apart i j ob0 oj hob0 hoj (λe=>hj (by grind)) q B hqj'
     rcases(S3 i oi hi).2 with⟨l,o,z,hfo⟩|⟨hni,hni',S,sV⟩
     .rcases(S3 j oj hj).2 with⟨nm',o',H,hfo'⟩|⟨hnj,hnj',ob',Kw⟩
      .rw[ZF i l z] at hq;rw[ZF j nm' H];refine hP.apart l nm' o o' hfo hfo' (λe=>hij ?_) q hq;grind
      grind
     .rcases(S3 j oj hj).2 with⟨nm',o',H,hfo'⟩|⟨hnj,hnj',ob',Kw⟩
      .grind
      .obtain⟨hqi,_⟩:=Ww i S hni hni' sV q hq;intro hqj;obtain⟨hqj,_⟩:=Ww j ob' hnj hnj' Kw q hqj;exact V.apart i j S ob' sV Kw hij q hqi hqj
    .intro b hb hl;refine(hP.keep b (fG hb V.grown) (λhl'=> ?_)).trans (V.keep b hb hl);obtain⟨id,S,_,h2,h3⟩:=hlb b hl';rcases((V.obs id S h2).block b h3).1 with B|B|⟨x,B,ZG⟩
     .omega
     .exact hl B.cG
     .exact hl ⟨id,x,B,ZG⟩
   have fin:∀sv,fQ μ' F sv v->st1=St.set { env:=(fD (ids.filter (λi=> !(stays cl i))++nw.map (·.1)) st).env,ob:=λi=>(find back i).orElse λ_=>(fD (ids.filter (λi=> !(stays cl i))++nw.map (·.1)) st).ob i } o.dst sv->K (a.put o.dst v) w':=λsv hs e=>by subst e;exact hK _ _ μ' F (hrel.set hd hs)
   split at hv
   .rename_i x;cases hcx:(wk x).closed _ with
    |false=>rw[hcx] at hv;cases hv
    |true=>
    simp only[hcx,au,bg] at hv;refine fin _ ?_ hv.symm;obtain⟨h1,_⟩:fQ _ _ _ v/\True:=by
     rcases hP.res with B|⟨_,_,_,_,e1,_⟩|⟨x',e1,h1,_⟩|⟨_,_,_,_,e1,_⟩
     .simp[rep,cN] at B
     .cases e1
     .simp at e1;subst e1;exact⟨h1,trivial⟩
     .simp at e1
    refine PT (Lm (λj hj=> ?_) hcx h1) (λid t cells hb=> ?_)
    .obtain⟨q,hq,rfl⟩:=aD.1 hj;grind
    .obtain⟨hok,_⟩:=S3 _ _ (by rw[hb];rfl);obtain⟨b,vs,hl,_⟩:=hok;exact⟨b,hl⟩
   .cases hns:r.jG with
    |false=>rw[hns] at hv;cases hv
    |true=>
    simp only[hns,au,bg] at hv;exact fin (.pv r) (hP.pure hns) hv.symm
  simp_all
 simp_all
theorem BO (I:Rel N w0 μ0 L μ loc st a w) (D:ic L.q μ0 P cB) {o:Oper} {c:Call} {f:Operand} {H:St} (hd:∀i,o.dst=some i->i<N) (ho:o.op= .call c) (hc:c.callee= .value f)
  (q:jT P h cB st c f o.dst=some H) (hK:oP N w0 μ0 L H K):o.wU P a w K Q:=by
 unfold jT at q;split at q
 .rename_i g pre z vs hf hvs;obtain⟨sf,hsf,S⟩:=dy.1 hf;obtain⟨ps,cs,hps,O,R⟩:=Kk (aW I hsf) S;refine BM I D hd ho hc (cl:=Fq (gZ (o.dst.any h.stay.contains) st (qy (pre++(vs++z))))) (mc hps (mc (EM I hvs) O)) (λid=> ?_) R ?_ hK
  .simp_all[KO,gZ]
  unfold ki;simp only at q⊢;generalize gB _ _ _ _=ids at q⊢;generalize VE:gZ _ _ _=B at q⊢;rw[NH];have V:ids.all (λi=> !(given (Fq B) i))=true:=cI.2 λi _=>by unfold given Fq;cases B i<;>rfl
  have G:((iP B 0 ids).filter λp=> !(given (Fq B) p.1))=iP _ 0 _:=zw.2 λp _=>by unfold given Fq;cases B _<;>rfl
  have hpg:(ids.filter λi=> !(stays (Fq B) i))=ids.filter B:=lI λi _=>by unfold stays Fq;cases B i<;>rfl
  rw[V,G,hpg,uP,zx];generalize hm:iP _ 0 _=m at q⊢;cases l:(distinct _&&Nat.blt _ _&&(pre++(vs++z)).all _) with
  |false=>grind
  |true=>
  rw[l,au] at q;simp only[au];simp at l;have hlen :=by simpa[cK] using l.1.2
  split at q
  .split at q
   .rename_i r F hr;split at q
    .rename_i back hb;have U :=by
      have:=aP List.length (xW hb).1;simpa using this
     have e:F.drop m.length=[]:=by rw[<-U];exact rH
     have h1:distinct (m.map (·.1))=true:=by rw[<-hm,tR];exact l.1.1
     have h2:distinct (m.map (·.2))=true:=B3 (by grind[yg]);simp only[e,newNames,eo,h1,h2,hb,ey];split
     .simp[AV.jG,AV.XL] at q
     .exact q
    simp_all
   omega
  omega
 simp_all
def BE (O:Rel N w0 μ0 L μ loc st a w) {G:List Nat} {d:Nat}:∀{xs:List Operand} {D:List TypeId} {j:Nat} {F:List SV},(∀x∈mO P G d j xs D,fW (loc x.1)= .slice none 0 0)->Dh P G d st j xs D=some F->gT μ loc F (xs.map a.eval)
 |[],D,j,F,_,z=>by simp[Dh] at z;subst z;rfl
 |x::xs,D,j,F,B,z=>by
  simp only[Dh] at z;split at z
  .rename_i v S l I;injection z with z;subst z;cases q:(D3 x&&G.contains j) with
   |false=>rw[mO,q] at B;refine⟨_,_,rfl,?_,BE O B I⟩;unfold argG at l;grind[aW]
   |true=>
    simp only[aU] at q;unfold argG at l;rw[q.1,q.2] at l;obtain⟨⟨e,U⟩,H,l⟩:=dy.1 l;rw[mO,q.1,q.2,H] at B;refine⟨_,_,rfl,?_,BE O (λy R=>B y (dz _ R)) I⟩;injection l with l;subst l;unfold D3 at q;split at q
    .show Value.slice _ 0 0=fW _;simp_all
    simp_all
  simp_all
mutual
theorem AV.sJ:∀(a b:AV),AV.same a b=true->a=b
 | .bool a,b=>by cases b<;>simp[AV.same]
 | .int k a,b=>by cases b<;>simp[AV.same]
 | .str a,b=>by cases b<;>simp[AV.same]
 | .dD s xs,b=>by cases b<;>simp only[AV.same,aU,er,ny];rintro⟨h1,h2⟩;rw[beq_iff.1 h1,Cq _ _ h2]
 | .agg a,b=>by cases b<;>simp only[AV.same,er,ny];intro h;rw[pI _ _ h]
 | .fn f a,b=>by cases b<;>simp only[AV.same,aU,er,ny];rintro⟨h1,h2⟩;rw[beq_iff.1 h1,pI _ _ h2]
 | .gU a,b=>by cases b<;>simp only[AV.same,er,ny];intro h;rw[pI _ _ h]
 | .ref a,b=>by cases b<;>simp only[AV.same,er,ny];intro h;rw[pI _ _ h]
 | .mp a b,c=>by cases c<;>simp only[AV.same,aU,er,ny];rintro⟨h1,h2⟩;rw[pI _ _ h1,pI _ _ h2]
 | .self n,b=>by cases b<;>simp only[AV.same,er,ny];intro h;rw[beq_iff.1 h]
 | .qh,b=>by cases b<;>simp[AV.same]
 | .tS,b=>by cases b<;>simp[AV.same]
 | .hole,b=>by cases b<;>simp[AV.same]
theorem pI:∀(a b:List AV),sY a b=true->a=b
 |[],[]=>λ_=>rfl
 |[],_::_=>λh=>by simp[sY] at h
 |_::_,[]=>λh=>by simp[sY] at h
 |x::l,y::m=>λh=>by simp only[sY,aU] at h;rw[AV.sJ x y h.1,pI l m h.2]
theorem Cq:∀(a b:List (List AV)),Cp a b=true->a=b
 |[],[]=>λ_=>rfl
 |[],_::_=>λh=>by simp[Cp] at h
 |_::_,[]=>λh=>by simp[Cp] at h
 |x::l,y::m=>λh=>by simp only[Cp,aU] at h;rw[pI x y h.1,Cq l m h.2]
end
mutual
theorem AV.mV:∀a:AV,AV.same a a=true
 | .bool a=>by simp[AV.same]
 | .int k a=>by simp[AV.same]
 | .str a=>by simp[AV.same]
 | .dD s xs=>by simp[AV.same,pN,AA xs]
 | .agg a=>by simp[AV.same,mz a]
 | .fn f a=>by simp[AV.same,pN,mz a]
 | .gU a=>by simp[AV.same,mz a]
 | .ref a=>by simp[AV.same,mz a]
 | .mp a b=>by simp[AV.same,mz a,mz b]
 | .self n=>by simp[AV.same,pN]
 | .qh=>by simp[AV.same]
 | .tS=>by simp[AV.same]
 | .hole=>by simp[AV.same]
theorem mz:∀a:List AV,sY a a=true
 |[]=>rfl
 |x::l=>by simp[sY,AV.mV x,mz l]
theorem AA:∀a:List (List AV),Cp a a=true
 |[]=>rfl
 |x::l=>by simp[Cp,mz x,AA l]
end
theorem oF.sJ {a b:oF} (h:a.same b=true):a=b:=by
 cases a<;>cases b<;>simp[oF.same,er] at h
 .rw[AV.sJ _ _ h]
 .simp_all
 simp_all
def oF.mV (a:oF):a.same a=true:=by cases a<;>simp[oF.same,AV.mV]
theorem Cn:∀{a b:List oF},sH a b=true->a=b
 |[],[]=>λ_=>rfl
 |[],_::_=>λh=>by simp[sH] at h
 |_::_,[]=>λh=>by simp[sH] at h
 |x::l,y::m=>λh=>by simp[sH,aU] at h;rw[oF.sJ h.1,Cn h.2]
def DH:∀a:List oF,sH a a=true
 |[]=>rfl
 |x::l=>by simp[sH,oF.mV x,DH l]
theorem Ak.sJ {a b:Ak} (h:a.same b=true):a=b:=by
 cases a<;>cases b<;>simp[Ak.same,er] at h
 .rfl
 .simp_all
 simp_all
def Ak.mV (a:Ak):a.same a=true:=by cases a<;>simp[Ak.same]
theorem SV.sJ {a b:SV} (h:a.same b=true):a=b:=by induction a generalizing b with
 |two s x q l=>cases b<;>simp only[SV.same,aU,er] at h;grind
 |three s x y q l B=>cases b<;>simp only[SV.same,aU,er] at h;grind
 |undef=>grind[SV.same,Bool.false_eq_true]
 |any=>grind[SV.same,Bool.false_eq_true]
 |pv x=>cases b<;>simp_all[SV.same,er];rw[AV.sJ _ _ h]
 |ptr x y=>cases b<;>simp[SV.same,er] at h;simp_all
 |row x=>cases b<;>simp[SV.same,er] at h;simp_all
 |rp x y z u=>cases b<;>simp[SV.same,er] at h;simp_all
 |sub x y z u=>cases b<;>simp[SV.same,er] at h;simp_all
 |cp x=>cases b<;>simp_all[SV.same];rw[pI _ _ h]
 |cl f x=>cases b<;>simp[SV.same,er] at h;grind[beq_iff,Cn]
 |ag x=>cases b<;>simp_all[SV.same];rw[Cn h]
 |aq x y=>cases b<;>simp[SV.same,er] at h;grind[beq_iff,Ak.sJ]
def SV.mV (a:SV):a.same a=true:=by induction a<;>simp[SV.same,AV.mV,mz,DH,Ak.mV, *]
theorem Lz:∀{a b:List SV},xK a b=true->a=b
 |[],[]=>λ_=>rfl
 |[],_::_=>λh=>by simp[xK] at h
 |_::_,[]=>λh=>by simp[xK] at h
 |x::l,y::m=>λh=>by simp[xK,aU] at h;rw[SV.sJ h.1,Lz h.2]
def FU:∀a:List SV,xK a a=true
 |[]=>rfl
 |x::l=>by simp[xK,SV.mV x,FU l]
theorem G1:∀{a b:List (Option (List (List AV)))},sI a b=true->a=b
 |[],[]=>λ_=>rfl
 |[],_::_=>λh=>by simp[sI] at h
 |none::_,[]=>λh=>by simp[sI] at h
 |some _::_,[]=>λh=>by simp[sI] at h
 |some x::l,some y::m=>λh=>by simp[sI,aU] at h;rw[Cq _ _ h.1,G1 h.2]
 |none::l,none::m=>λh=>by simp[sI] at h;rw[G1 h]
 |some _::_,none::_=>λh=>by simp[sI] at h
 |none::_,some _::_=>λh=>by simp[sI] at h
def Co:∀a:List (Option (List (List AV))),sI a a=true
 |[]=>rfl
 |some x::l=>by simp[sI,AA x,Co l]
 |none::l=>by simp[sI,Co l]
theorem Ob.sJ {a b:Ob} (h:a.same b=true):a=b:=by
 cases a<;>cases b<;>simp[Ob.same,er] at h
 .grind[beq_iff,Lz]
 .grind[beq_iff,Cq]
 .grind[beq_iff,pI]
 .rw[pI _ _ h]
 grind[beq_iff,Cq,G1]
def Ob.mV (a:Ob):a.same a=true:=by cases a<;>simp[Ob.same,AA,mz,FU,Co]
def Lx:∀{a b:List (Nat×Ob)},vD a b=true->a=b
 |[],[]=>λ_=>rfl
 |[],_::_=>λh=>by simp[vD] at h
 |_::_,[]=>λh=>by simp[vD] at h
 |(i,x)::l,(j,y)::m=>λh=>by simp only[vD,aU] at h;rw[beq_iff.1 h.1.1,Ob.sJ h.1.2,Lx h.2]
def FT:∀a:List (Nat×Ob),vD a a=true
 |[]=>rfl
 |(i,x)::l=>by simp[vD,Ob.mV x,FT l]
theorem oF.wI {B l:Nat->Nat} {ids:List Nat} (h:∀j∈ids,l (B j)=j):∀{q:List oF},SV.closed ids (.cl 0 q)=true->(q.map (oF.oI B)).map (oF.oI l)=q
 |[],_=>rfl
 |c::q,z=>by simp[SV.closed,lW,aU] at z;simp only[bH];rw[oF.wI h (by simpa[SV.closed] using z.2)];grind[oF.oI]
theorem SV.wI {D q:Nat->Nat} {ids:List Nat} (h:∀j∈ids,q (D j)=j) {s:SV} (I:s.closed ids=true):(s.oI D).oI q=s:=by induction s with
 |two s b F z=>simp_all[SV.oI,SV.closed]
 |three s b c F z G=>simp_all[SV.oI,SV.closed]
 |ptr j B=>simp_all[SV.oI,SV.closed]
 |row j=>simp_all[SV.oI,SV.closed]
 |rp j H i B=>simp_all[SV.oI,SV.closed]
 |sub j H R O=>simp_all[SV.oI,SV.closed]
 |cl f l=>simp only[SV.oI];rw[oF.wI h (by assumption)]
 |ag l=>simp only[SV.oI];rw[oF.wI h (by assumption)]
 |_=>rfl
def A2 {q:Nat->Nat} {ids names:List Nat} (h:∀j∈ids,q j∈names):∀{l:List oF},SV.closed ids (.cl 0 l)=true->SV.closed names (.cl 0 (l.map (oF.oI q)))=true
 |[],_=>rfl
 |c::l,z=>by simp[SV.closed] at z;simp[SV.closed];grind[oF.oI]
theorem SV.DT {D:Nat->Nat} {ids names:List Nat} (h:∀j∈ids,D j∈names) {s:SV} (I:s.closed ids=true):(s.oI D).closed names=true:=by induction s with
 |two s b F z=>simp_all[SV.oI,SV.closed]
 |three s b c F z G=>simp_all[SV.oI,SV.closed]
 |ptr j B=>simp_all[SV.oI,SV.closed]
 |row j=>simp_all[SV.oI,SV.closed]
 |rp j H i B=>simp_all[SV.oI,SV.closed]
 |sub j H R O=>simp_all[SV.oI,SV.closed]
 |cl f l=>have:=A2 h (by assumption);assumption
 |ag l=>have:=A2 h (by assumption);assumption
 |aq j q=>assumption
 |_=>rfl
theorem Ob.wI {z l:Nat->Nat} {ids:List Nat} (h:∀j∈ids,l (z j)=j) {o:Ob} (q:o.closed ids=true):(o.oI z).oI l=o:=by cases o with
 |box t cells=>simp[Ob.oI,eG];congr 1;simp[Ob.closed,cI] at q;exact(gP λs B=>SV.wI h (q s B)).trans (lJ _)
 |_=>rfl
theorem Ob.DT {l:Nat->Nat} {ids names:List Nat} (h:∀j∈ids,l j∈names) {o:Ob} (q:o.closed ids=true):(o.oI l).closed names=true:=by cases o with
 |box t cells=>simp[Ob.closed] at q;simp[Ob.oI,Ob.closed];grind[SV.DT]
 |_=>rfl
def M6 {ids names:List Nat} {B ρ':Nat->Nat} (G:∀j∈ids,ρ' (B j)=j) (F:∀j∈ids,B j∈names):∀{l:List (Nat×Nat)} {cG:List (Nat×Ob)},jO st ids B l=some cG->∃q,mH names ρ' l cG=some q/\∀i o,find q i=some o->st.ob i=some o
 |[],cG,z=>by simp[jO,bg] at z;subst z;exact⟨[],rfl,λi o h=>by simp[find] at h⟩
 |(id,S)::l,cG,z=>by
  simp[jO] at z;split at z
  .rename_i o U ho D;obtain⟨O,z⟩:=(show o.closed ids=true/\some ((S,o.oI B)::U)=some cG from by grind)
   injection z with z;subst z;obtain⟨q,H,V⟩:=M6 G F D;refine⟨(id,(o.oI B).oI ρ')::q,?_,λi o' R=> ?_⟩
   .simp[mH,pN,Ob.DT F O,rI,au,H,e9]
   .simp[find] at R;cases I:Nat.beq id i with
    |true=>grind[beq_iff,Ob.wI]
    |false=>simp_all
  simp_all
def Sa {c:Call} {f:Operand} {r:AV} {d:Option Nat} (hst:d.any h.stay.contains=true) (F:s9 P h cB st c f=some r):jT P h cB st c f d=some (st.set d (.pv r)):=by
 unfold s9 at F;split at F
 .rename_i g args l;unfold uC at l;split at l
  .rename_i g' pre z U hf hvs;simp only[bg,cD] at l;obtain⟨rfl,rfl⟩:=l;have V:gZ (d.any h.stay.contains) st (qy (pre++(U++z)))=λ_=>false:=by
    funext id;simp only[gZ,hst,dM,Bool.and_false]
   have G:gB st 200 ((pre++(U++z)).flatMap SV.ids) []=jA st (pre++(U++z)):=rfl;generalize jA st _=ids at F G;have hm:iP _ 0 ids=me _:=rfl;cases q:(distinct ids&&Nat.blt ids.length 10000&&(pre++(U++z)).all (SV.closed ids)) with
   |false=>grind
   |true=>
   simp only[q] at F;have B:=q;simp at B;obtain⟨⟨O,H⟩,abQ⟩:=B;have H :=by simpa[cK] using H
   have hnd:=mL O;have hm1:(me _).map _=ids:=tR _ _ _;have hnn:((me ids).map _).Nodup:=yg _ 0 _ af;have hget:∀id R,(id,R)∈me ids->find _ _=some _:=λid R hp=>jM (by simp_all) hp
   have hswap:∀id R,(id,R)∈me _->find _ _=some _:=λid R hp=>jM (by rw[zh];omega) (B2 hp)
   split at F
   .rename_i cG D;split at F
    .rename_i r' I hr;cases S:(vD I cG&&r'.jG) with
     |false=>simp_all
     |true=>
      rw[S] at F;simp at F;subst F;simp at S;have e:=Lx S.1;subst e
      obtain⟨back,hb,hg⟩:=M6 (names:=(me ids).map (·.2)) (ρ':=iD (swap (me ids))) (λj hj=>by
       grind[iD]) (λj hj=>by
       simp[iD]
       grind) D
      unfold jT;simp only[hf,hvs,V,G,hm,q,au,D,hr,hb,S.2];have e1:fD (ids.filter λ_=>false) st=st:=by have e0:(ids.filter λ_=>false)=[]:=zy.2 (λ_ _=>by decide);rw[e0];rfl
      rw[e1];congr 2;congr 1;funext i;cases hfi:find _ i with
      |none=>rfl
      |some o=>simp_all
    simp_all
   simp_all
  simp_all
 simp_all
def Lf (H:Rel N w0 μ0 L μ loc st a w) {b:Bool}:∀{xs:List Operand} {G:List TypeId} {D:List AV},sA P b st xs G=some D->cN μ D (xs.map a.eval):=by intro xs;induction xs with
 |nil=>simp_all[sA,dR]
 |cons x xs O=>
  intro G D q;simp[sA] at q;split at q
  .rename_i v R l B;injection q with q;subst q;refine cQ ?_ (O B);unfold PY at l;cases z:(b&&D3 x) with
   |true=>
    rw[z] at l;simp at l;subst l;have:=(lH.1 z).2;unfold D3 at this;split at this
    .rfl
    simp_all
   |false=>rw[z] at l;obtain⟨s,I,F⟩:=dy.1 l;have:=aW H I;cases s<;>simp[kM] at F;subst F;exact this
  simp_all
def yj:∀{D:List AV} {l:List (Nat×TypeId×Nat)} {z:List oF} {B:List Value},tC D l=some z->(∀x∈l,fW (loc x.1)= .slice none 0 0)->cN μ D B->kH μ loc z B
 |[],l,z,B,q,_,O=>by simp_all[tC,cN,kH]
 |a::D,l,z,B,q,I,O=>by
  obtain⟨u,R,rfl,G,H⟩:=O;have other:∀{k':List _},tC _ l=some _->kH _ _ (.v a::k') _:=λF=>⟨u,R,rfl,G,yj F I H⟩
  cases a with
  |tS=>cases l with
   |nil=>simp[tC] at q
   |cons x l=>simp[tC,cL] at q;obtain⟨k',F,rfl⟩:=q;rw[rep] at G;refine⟨u,R,rfl,?_,yj F (λy S=>I y (by simp[S])) H⟩;show u=fW _;simp_all
  |_=>simp[tC,cL] at q;grind
def R8 (V:Rel N w0 μ0 L μ loc st a w) (l:ic L.q μ0 P cB) {o:Oper} {c:Call} {f:Operand} {B:St} {d:Nat} {U:List Nat} (q:o.dst=some d) (hd:∀i,o.dst=some i->i<N) (ho:o.op= .call c) (hc:c.callee= .value f)
  (z:Dk P h cB st c f d U=some B) (hK:oP N w0 μ0 L B K):o.wU P a w K Q:=by
 unfold Dk at z;simp at z;split at z
 .rename_i g pre S vs hf R;cases hb:(mO P U d 0 c.args.toList c.argTypes.toList).all (λx=>Nat.blt x.1 10000) with
  |false=>simp_all
  |true=>
  rw[hb] at z;obtain⟨loc2,D,h3,_⟩:=qB V _ _ _ V (λx hx=>cK.mp (cI.1 hb x hx));obtain⟨sf,O,H⟩:=dy.1 hf;obtain⟨ps,cs,I,F,G⟩:=Kk (aW D O) H;exact BM D l hd ho hc (mc I (mc (BE D h3 R) F)) (λid=>Vz λhm=>by simp_all[gZ]) G (q▸z) hK
 simp_all
theorem Mr (R:Rel N w0 μ0 L μ loc st a w) (G:ic L.q μ0 P cB) {o:Oper} {c:Call} {f:Operand} {st1:St} (hd:∀i,o.dst=some i->i<N) (ho:o.op= .call c) (hc:c.callee= .value f)
  (D:iA P h cB st c f o.dst=some st1) (hK:oP N w0 μ0 L st1 K):o.wU P a w K Q:=by
 unfold iA at D;split at D
 .rename_i d z;split at D
  .rename_i gv _;exact R8 R G z hd ho hc D hK
  split at D
  .rename_i g caps vs hf hvs;obtain⟨cs,ZH,hcs⟩:=Kl R hf;have main:∀{r:AV},cB g ((vs++caps).map .pv) []=some (r,[])->(∀v O B q,fJ L.q μ loc [] r [] w v B q O->Rel N w0 μ0 L B loc st a O->K (a.put o.dst v) O)->o.wU P a w K Q:=λ{r} hr hk=>by
    obtain⟨he,hC⟩:=ic.noY (G g _ [] _ [] hr w μ loc (c.args.toList.map a.eval++cs) R.base.1 R.yz (by simp[find]) (by intro i j oi oj V;simp[find] at V) (sD (oz (Lf R hvs) hcs))) λxs=>by simp[find]
    refine JC (R:=λv O=>∃B q,fJ L.q μ loc [] r [] w v B q O) (r:=r) (sW:=[]) ho hc ZH rfl he (hC.mono ?_) ?_
    .simp
    .rintro v O ⟨B,q,F⟩;exact hk v O B q F (R.grow (SA F.ext) F.yz (EO F) F.drawn)
   split at D
   .rename_i e sz xs hr;cases hn:(xF h d).isSome with
    |true=>simp_all
    |false=>
    rw[hn] at D;simp only[aA,bg] at D;subst D;refine main hr λv O B q F h1=> ?_
    obtain⟨us,U,hrc,S⟩:∃us,O.ownsRow 0 e sz v xs.length us/\cV B sz xs us/\∀g,cu v=some g->w.heap.size<=g/\∀j,B g j=none:=by
     rcases F.res with hx|⟨_,_,_,_,e1,_⟩|⟨_,e1,_⟩|⟨e2,sz2,xs2,us,e1,k1,k2,k3⟩
     .simp_all[rep,cN]
     .cases e1
     .simp at e1
     .simp only[AV.gU.injEq,cR,AV.self.injEq,AV.dD.injEq,eH] at e1;obtain⟨rfl,rfl,rfl⟩:=e1;exact⟨us,k1,k2,λg H=>⟨(k3 g H).1.resolve_right λ⟨_,_,_,_,hx,_⟩=>by simp[gY] at hx,(k3 g H).2.1⟩⟩
    have hdN:=hd d z;have hin:∀g,mE v g->cu v=some g:=λg H=>by
     rcases H with H|⟨us',e1,_⟩
     .exact H
     .subst e1;rcases U.2 with⟨e2,_⟩|⟨_,_,_,e2,_⟩<;>cases e2
    have h2:=h1.new (id:=d) (o:= .row e _ _) (.inl (fG hdN R.small)) ⟨us,by rw[dc];omega,hrc,λg H=>by
      rw[dc] at H;obtain⟨k1,k2⟩:=S g (hin g H)
      exact⟨.inl (fO R.grown k1),k2⟩⟩ (λj oj hj _ g H hb=>by
     have k1:=(S g (hin g H)).1;have:=((R.obs j _ hj).block g hb).2.1
     omega)
    rw[z];refine hK _ _ _ _ (h2.set (λi V=>(fe V)▸hdN) ?_);show v=fW _;rw[dc];rcases U.2 with⟨e2,_⟩|⟨_,_,_,e2,_⟩<;>rw[e2]<;>rfl
   .rename_i cs' hr;split at D
    .injection D with D;subst D;refine main hr λv O B q F h1=> ?_
     have I:=F.pure rfl;rw[z];exact hK _ _ _ _ (h1.set (λi V=>hd i (z.trans V)) I)
    .rename_i l _ hl;split at D
     .rename_i ks hks;cases hb:l.all (λx=>Nat.blt x.1 10000) with
      |false=>simp_all
      |true=>
      rw[hb] at D;simp at D;subst D;refine main hr λv O B q F h1=> ?_
      have I:=F.pure rfl;obtain⟨vs',rfl,hra,hone⟩:=I;obtain⟨loc2,h2,h3,_⟩:=qB h1 l _ _ h1 (λx hx=>cK.mp (cI.1 hb x hx));rw[z];exact hK _ _ _ _ (h2.set (λi V=>hd i (z.trans V)) ⟨_,rfl,yj hks h3 hra,hone⟩)
     simp_all
    simp_all
   simp_all
  simp_all
 simp_all
theorem Oy (B:Rel N w0 μ0 L μ loc st a w) (l:ic L.q μ0 P cB) {o:Oper} {c:Call} {f:Operand} {r:AV} (F:∀i,o.dst=some i->i<N) (G:o.op= .call c) (D:c.callee= .value f) (q:o.dst.any h.stay.contains=true)
  (H:s9 P h cB st c f=some r) (z:oP N w0 μ0 L (st.set o.dst (.pv r)) K):o.wU P a w K Q:=
 BO B l F G D (Sa q H) z
theorem Vw (B:Rel N w0 μ0 L μ loc st a w) (xA:ic L.q μ0 P cB) {o:Oper} {v:SV} (H:∀i,o.dst=some i->i<N) (l:dW P h cB o st=some v) (G:oP N w0 μ0 L (st.set o.dst v) K):o.wU P a w K Q:=by
 unfold dW at l;split at l
 .rename_i t len D I;cases V:(o.dst.any h.rows.contains||o.dst.any h.fq.contains) with
  |true=>simp_all
  |false=>simp only[V,aA] at l;cases hl:kT P t len D.toList st with
   |none=>simp_all
   |some x=>grind[Vu]
 .rename_i c I;split at l
  .rename_i f hc;replace l:=K6 l;cases R:(o.dst.any h.stay.contains&&wide st c f) with
   |true=>rw[R] at l;simp only[au,cL] at l;obtain⟨r,hr,rfl⟩:=l;rw[aU] at R;grind[Oy]
   |false=>
   rw[R] at l;replace l:=K6 l;split at l
   .rename_i g q vs hf hvs;split at l
    .rename_i r hr;cases hp:((!(c.args.toList.any (kV st))||r.plain)&&r.jG) with
     |true=>simp only[hp,au,bg] at l;subst l;rw[aU] at hp;grind[J6,Bool.or_comm]
     |false=>grind
    simp_all
   simp_all
  .exact qC B H (HO B I l) G
 .rename_i t D I;exact qC B H (SQ B I (K6 l)) G
 .rename_i t x I;exact qC B H (As B (K6 l)) G
 .rename_i g first q I
  cases O:first.isEmpty with
  |false=>
   simp[O] at l;cases F:(q.isEmpty&&o.dst.any h.fq.contains&&Nat.blt g 1000000) with
   |false=>simp_all
   |true=>
   rw[F] at l;simp only[aU] at F;have hc0 :=by simpa using F.1.1
   have hg :=cK.mp F.2;have run:(execOp a.eval o).run P w= .ok (.value (.func (.func g) (first.toList.map a.eval).toArray #[])) w:=by
    unfold execOp;rw[I,hc0];have e:first.map a.eval=(first.toList.map a.eval).toArray:=by grind
    simp[Instr.makeFunc,e]
   cases z:qL st first.toList with
   |none=>simp_all
   |some vs=>
    simp[z] at l;subst l;refine qC B H ⟨_,run,(show fQ _ _ (.cl _ _) _ from⟨_,?_,ET B z⟩)⟩ G;have h1:Nat.blt (g+1000000) 1000000=false:=by cases V:Nat.blt _ _ with
     |false=>rfl
     |true=>have:=cK.mp V;omega
    have h2:Nat.blt (g+1000000) _=true:=cK.mpr (Nat.add_lt_add_right hg _);simp[clV,h1,h2,aA,au,lK]
  |true=>
   simp[O] at l;have hf0 :=by simpa using O
   have run:(execOp a.eval o).run P w= .ok (.value (.func (.func g) #[] (q.toList.map a.eval).toArray)) w:=by
    unfold execOp;rw[I,hf0];have e:q.map a.eval=(q.toList.map a.eval).toArray:=by grind
    simp[Instr.makeFunc,e]
   cases S:o.dst.any h.fq.contains with
   |true=>
    simp[S] at l;cases U:Nat.blt g 1000000 with
    |false=>simp_all
    |true=>
    rw[U] at l;cases z:qL st q.toList with
    |none=>simp_all
    |some vs=>simp[z] at l;subst l;exact qC B H ⟨_,run,(show fQ _ _ (.cl g _) _ from⟨_,by simp[clV,U,au],ET B z⟩)⟩ G
   |false=>
   simp[S] at l;cases z:uw st q.toList with
   |none=>simp_all
   |some vs=>simp[z] at l;subst l;have hall:=EU B z;refine qC B H ⟨_,run,?_⟩ G;show rep _ _ _;rw[rep];simp_all
 .have key:fB P o st=some v:=by
   split at l
   .grind
   .grind
   .exact l
  exact qC B H (As B key) G
 .exact qC B H (As B l) G
theorem Zt (H:Rel N w0 μ0 L μ loc st a w) (xA:ic L.q μ0 P cB) {o:Oper} (V:∀i,o.dst=some i->i<N) (B:ni P h cB o st=some st') (I:oP N w0 μ0 L st' K):o.wU P a w K Q:=by
 unfold ni at B;split at B
 .rename_i d q F;split at B
  .rename_i e s hs;split at B
   .injection B with B;subst B;exact eff_nil H (V d q) q F I
   .cases B
  .cases B
 .rename_i d x hnc q F;split at B
  .rename_i id U;cases R:h.mvs.contains d with
   |true=>rw[R] at B;exact Pz H (V d q) q F U B I
   |false=>
   rw[R] at B;simp only[aA] at B;split at B
   .rename_i st1 hp;split at B
    .rename_i v hv1;injection B with B;subst B;obtain⟨μ1,_,h1⟩:=H.dr hp;exact qC h1 V (D1 h1 (.inr F) hv1) (by rw[q];exact I)
    .cases B
   .cases B
  .cases B
 .rename_i d t x q F;split at B
  .rename_i cs U hagg;injection B with B;subst B;have S:=aW H U;simp only[fQ,rep] at S;obtain⟨vs,S,hall,hone⟩:=S;refine E0 (v:= .agg vs.toArray) H (V d q) q ?_ (by simpa[Value.cells] using sD hall) (by assumption) I;unfold execOp;rw[F];simp[Instr.box,newVar,newRow,S,Value.cells]
  .rename_i cs U hagg;cases hm:(SV.ag cs).mentions d with
   |true=>rw[hm] at B;cases B
   |false=>
   rw[hm] at B;simp only[aA,bg] at B;subst B;have S:=Ub (x:= .pointer (some ⟨w.heap.size,0,none⟩)) hm (aW H U);obtain⟨vs,S,hall,hone⟩:=S;refine E0 (v:= .agg vs.toArray) H (V d q) q ?_ (by simp_all[Value.cells,tc]) (by assumption) I;unfold execOp;rw[F];simp[Instr.box,newVar,newRow,S,Value.cells]
  .rename_i v hnot U hagg;split at B
   .rename_i hone;injection B with B;subst B;have S:=aW H U;obtain⟨h1,hc1⟩:=Wt H hone S;refine E0 (v:=a.eval x) H (V d q) q ?_ (by rw[hc1];exact⟨_,[],rfl,Aw S,rfl⟩) (by rw[hc1];simpa using h1) I;unfold execOp;rw[F];simp[Instr.box,newVar,newRow]
   .cases B
  .cases B
 .rename_i d t q F;cases hrw:h.rows.contains d with
  |true=>
   rw[hrw] at B;simp only[au] at B;split at B
   .rename_i svs l hz;injection B with B;subst B;exact Mw H (V d q) q F hz I
   .cases B
  |false=>
  rw[hrw] at B;simp only[aA] at B;split at B
  .rename_i z hz;injection B with B;subst B;obtain⟨i,v,hi,hzv,hc⟩:=Of (μ:=μ) hz;refine E0 (v:=v) H (V d q) q ?_ (sD hc.1) hc.2 I;unfold execOp;rw[F];simp[Instr.alloc,zeroValue,typeInfo,hi,hzv,newVar,newRow]
  .cases B
 .rename_i d t l c q F;split at B
  .rename_i e s kl nl kc nc hs hl hc;split at B
   .rename_i z i hz hi;split at B
    .rename_i D;injection B with B;subst B;exact abt H (V d q) q F hs hl hc hz hi D I
    .cases B
   .cases B
  .cases B
 .rename_i d t len parts q F;cases hby:h.fq.contains d&& !h.rows.contains d with
  |true=>rw[hby] at B;exact Sr H (V d q) q F B I
  |false=>
  rw[hby] at B;simp only[aA] at B;split at B
  .rename_i e s xs hl;split at B
   .injection B with B;subst B;exact OI H (V d q) q F hl I
   .rename_i k e' s' hn;cases hb:(Nat.blt k s&&xs.all (qF k)) with
    |false=>rw[hb] at B;cases B
    |true=>rw[hb] at B;simp only[au,bg] at B;subst B;obtain⟨b1,b2⟩:=lH.1 hb;exact Mx H (V d q) q F hl (cK.mp b1) b2 I
  .cases B
 .rename_i t x y q F;split at B
  .rename_i id sz i off j U hy;exact T3 H q F U hy B I
  .rename_i id off j sz n U hy;exact Sj H q F U hy B I
  .rename_i sa sv _ hnr U hy;exact Zu H q F U hy B I
  .cases B
 .rename_i d t r q F;split at B
  .rename_i k e hu;cases hb:y6 P st r with
   |false=>simp_all
   |true=>rw[hb] at B;simp only[au] at B;simp only[bg] at B;subst B;exact Ss H (V d q) q F hu hb I
  simp_all
 .rename_i t m k x q F;exact E1 H q (.inl F) B I
 .rename_i t m k x q F;exact E1 H q (.inr F) B I
 .rename_i d t parts q F;cases hrw:h.rows.contains d with
  |false=>rw[hrw] at B;cases B
  |true=>rw[hrw] at B;exact My H (V d q) q F B I
 .rename_i d t x q F;cases VF:h.take.contains d with
  |false=>rw[VF] at B;cases B
  |true=>rw[VF] at B;exact MX H (V d q) q F B I
 .rename_i d g first caps q F
  cases hfi:first.isEmpty with
  |false=>rw[hfi] at B;cases B
  |true=>
   rw[hfi] at B;simp only[au] at B;split at B
   .rename_i st1 hp;simp only[cL] at B;obtain⟨vs,hcs,rfl⟩:=B;exact OJ H (V d q) q F hfi hp hcs I
   .cases B
 .rename_i d c F;split at B
  .rename_i hc;split at B
   .rename_i d' x y t t' q G O;split at B
    .rename_i e s id sy hs U hy;split at B
     .rename_i e' sz xs sz' ys i sV hel hi;split at B
      .rename_i D;obtain⟨rfl,rfl,rfl,rfl,hpos,hby,hlen,hz,R⟩:=D;injection B with B;subst B;have ho':o.op= .call { callee:= .builtin .append,args:= #[x,y],argTypes:= #[t,t] }:=by
        rw[F];obtain⟨cal,⟨as⟩,⟨ts⟩⟩:=c;simp only at hc G O;subst hc;subst G;subst O;rfl
       refine Vm H (V d' q) q ho' hs U hy sV hel hi hpos hby hlen hz ?_ I;simp only[gC,gx] at R;rcases R with hm|hm
       .left;simpa[cK] using hm
       simp_all
      simp_all
     .rename_i e' sz k e2 s2 xs zs sz' ys i sV hel hi;split at B
      .rename_i D;obtain⟨rfl,rfl,rfl,rfl,hpos,hby,hlen,hz,R,hall⟩:=D;injection B with B;subst B;have ho':o.op= .call { callee:= .builtin .append,args:= #[x,y],argTypes:= #[t,t] }:=by
        rw[F];obtain⟨cal,⟨as⟩,⟨ts⟩⟩:=c;simp only at hc G O;subst hc;subst G;subst O;rfl
       refine Sq H (V d' q) q ho' hs U hy sV hel hi hpos hby hlen hz ?_ hall I;simp only[gC,gx] at R;rcases R with hm|hm
       .simp_all
       simp_all
      simp_all
     simp_all
    .rename_i e s id sy hs U hy;split at B
     .rename_i e' sz xs sz' ys i sV hel hi;split at B
      .rename_i D;obtain⟨rfl,rfl,rfl,rfl,hpos,hby,hlen,hz,R,hne⟩:=D;injection B with B;subst B;have ho':o.op= .call { callee:= .builtin .append,args:= #[x,y],argTypes:= #[t,t] }:=by
        rw[F];obtain⟨cal,⟨as⟩,⟨ts⟩⟩:=c;subst hc;subst G;subst O;rfl
       refine Sn H (V _ q) q ho' hs U hy sV hel hi hpos hby hlen hz ?_ hne I;simp[gC,gx] at R;rcases R with hm|hm
       .simp_all
       simp_all
      simp_all
     simp_all
    simp_all
   simp_all
  .rename_i hc;split at B
   .rename_i x t q G O;split at B
    .rename_i e s id sz lo hi hs U;split at B
     .rename_i e' sz' xs z sV hz;split at B
      .rename_i D;injection B with B;subst B;exact Zr H q F hc G O hs U sV hz D I
      .cases B
     .cases B
    .exact OL H q F hc G O B I
    .cases B
   .cases B
  .rename_i f hc;cases how:o.dst.any h.owns.contains with
   |true=>grind[Mr]
   |false=>
   rw[how] at B;replace B:=K6 B;cases hw:wide st c f with
   |true=>simp only[hw,au] at B;grind[BO]
   |false=>
   cases href:c.args.toList.any (λx=>(pE h st x).isSome) with
   |true=>simp only[href,au] at B;grind[Ms]
   |false=>
   simp only[href] at B;split at B
   .rename_i st1 hp;split at B
    .split at B
     .rename_i r hr;cases VA:(c.args.toList.any (kV st1)|| !r.jG) with
      |true=>grind
      |false=>obtain⟨μ1,h1⟩:=GQ H hp;rw[fT] at VA;grind[J6]
     simp_all
    simp_all
   simp_all
  simp_all
 simp_all
def su:∀{l:List SV} {μ:Mu} {loc:Nat->Value} {st st':St} {a:Act} {w:World},Rel N w0 μ0 L μ loc st a w->pq l st=some st'->∃B,μ.le B/\Rel N w0 μ0 L B loc st' a w
 |[],μ,loc,st,st',a,w,D,q=>by simp only[pq,bg] at q;subst q;exact⟨μ,Mu.le.refl _,D⟩
 |s::l,μ,loc,st,st',a,w,D,q=>by
  unfold pq at q;split at q
  .rename_i e;cases e
  .rename_i id V e;injection e with e1 F;subst e1;subst F;obtain⟨st1,R,S⟩:=dy.1 q;obtain⟨μ1,I,G⟩:=D.dr R;obtain⟨O,z,H⟩:=su G S;exact⟨O,I.trans z,H⟩
  .rename_i s' V U e;injection e with e1 F;subst e1;subst F;exact su D q
def Ul (z:Rel N w0 μ0 L μ loc st a w) (l:ic L.q μ0 P cB) {o:Oper} (B:∀i,o.dst=some i->i<N) (D:step0 P h cB o st=some st') (q:oP N w0 μ0 L st' K):o.wU P a w K Q:=by grind[step0,Vw,Zt]
def B8:∀{l:List Nat} {st st':St} {μ:Mu} {loc:Nat->Value} {a:Act} {w:World},Rel N w0 μ0 L μ loc st a w->mT l st=some st'->∃q,μ.le q/\Rel N w0 μ0 L q loc st' a w
 |[],st,st',μ,loc,a,w,B,F=>by simp only[mT,bg] at F;subst F;exact⟨μ,Mu.le.refl _,B⟩
 |t::l,st,st',μ,loc,a,w,B,F=>by
  simp only[mT] at F;obtain⟨O,z,S⟩:=dy.1 F;obtain⟨U,I,G⟩:∃q,μ.le q/\Rel N w0 μ0 L q loc O a w:=by
   unfold qw at z;split at z
   .exact B.dr z
   .exact B.dr z
   .split at z
    .exact su B z
    .cases z
   .injection z with z;subst z;exact⟨μ,Mu.le.refl _,B⟩
  obtain⟨R,D,H⟩:=B8 G S;exact⟨R,I.trans D,H⟩
def LC (G:Rel N w0 μ0 L μ loc st a w) (l:ic L.q μ0 P cB) {o:Oper} (H:∀i,o.dst=some i->i<N) (z:step P h cB o st=some st') (F:oP N w0 μ0 L st' K):o.wU P a w K Q:=by unfold step at z;obtain⟨I,B,D⟩:=dy.1 z;obtain⟨O,_,q⟩:=B8 G B;exact Ul q l H D F
theorem AU (D:Rel N w0 μ0 L μ loc st a w) {l:Array Oper} {o:Oper} {b:Bool} (q:qp l o st=some b):Region.wanted o (yielded l a.tmps)=b:=by
 unfold qp at q;unfold Region.wanted;split at q
 .simp_all
 .split at q
  .rename_i d F;split at q
   .rename_i t B;obtain⟨v,G,z⟩:=D.env d _ B;simp_all[fQ,rep,yielded]
   .rename_i B;obtain⟨v,G,z⟩:=D.env d _ B;have z:v=undef:=z;simp_all[yielded,undef]
   simp_all
  simp_all
def Qb (B:ic L.q μ0 P cB) {I:Array Oper}:∀{l:List Oper} {st:St} {μ:Mu} {loc:Nat->Value} {a:Act} {w:World},Rel N w0 μ0 L μ loc st a w->(∀o∈l,∀i,o.dst=some i->i<N)->qS P h cB I l st=some st'->
  (∀U w' O z,Rel N w0 μ0 L O z st' U w'->Q .normal U w')->∀F,Wd F->wpListIn F 0 P I Q l a w:=by
 intro l;induction l with
 |nil=>intro st μ loc a w H _ q R F G;simp only[qS,bg] at q;subst q;exact R _ _ _ _ H
 |cons o l ih=>
  intro st μ loc a w H S q R F G;simp only[qS] at q;split at q
  .rename_i b hw;have D:=AU H hw;unfold wpListIn;rw[D];cases b with
   |true=>simp only[au] at q;simp only[gV];cases hs:step P h cB o st with
    |none=>simp[hs] at q
    |some st1=>simp[hs] at q;exact LC H B (S o ai) hs (λU w' O z h1=>ih h1 (λp V=>S p (by simp[V])) q R F G) F G
   |false=>simp only[aA] at q;simp only[er,gG];exact⟨λf _=>G.fn f,ih (H.set (S o ai) (show fQ μ loc .undef undef from rfl)) (λp V=>S p (by simp[V])) q R F G⟩
  .cases q
end
