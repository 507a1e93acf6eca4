/- THE ABSTRACT MACHINE. -/
import Derived.Test.YthphfjcnkinkpaaGreatDoorAmEff
set_option linter.all false
namespace Go.AM
open Go.RowKit
def L0 (μ:Mu) (w:World):Prop:=∀b j v,μ b j=some v->HF w b j=some v
def iq (q:Qp) (loc:Nat->Value) (names:List Nat):s8:=⟨λid=>if id∈names then some (loc id) else none,q⟩
def W5 (loc:Nat->Value) (cG:List (Nat×Ob)):Prop:=∀i j l q,find cG i=some l->find cG j=some q->i≠j->∀g,mG (loc i) g->¬mG (loc j) g
structure fL (q:Qp) (μ:Mu) (loc:Nat->Value) (names:List Nat) (r:AV) (sZ:List (Nat×Ob)) (w:World) (v:Value) (μ':Mu) (loc':Nat->Value) (w':World):Prop where
 ext:μ.extL w.heap.size (iq q loc names) μ'
 yc:L0 μ' w'
 res:rep μ' r v\/(∃n A m c,r= .self n/\10000∈names/\loc' 10000= .slice A m c/\n<=m/\v= .slice A n c)\/
  (∃x,r= .gX [.gX [.self 0, .pG,x]]/\fW μ' loc' (vV x) v/\(vV x).closed (sZ.map (·.1))=true)\/
  ∃e sz xs vs,r= .gX [.gX [.self e, .dG sz xs]]/\w'.ownsRow 0 e sz v xs.length vs/\dc μ' sz xs vs/\∀g,cu v=some g->(w.heap.size<=g\/Zt (iq q loc names) g)/\(∀j,μ' g j=none)/\∀id o,find sZ id=some o->¬mG (loc' id) g
 obs:∀id o,find sZ id=some o->nY w.heap.size (iq q loc names) μ' loc' w' id o
 apart:W5 loc' sZ
 keep:∀b,b<w.heap.size->¬Nb (iq q loc names) b->w'.heap[b]? =w.heap[b]?
 fix:∀id,id∈names->10000<=id->id<20000->loc' id=loc id
 os:w'.os=w.os
 tape:w'.tape=w.tape
 output:w'.output=w.output
 grown:w.heap.size<=w'.heap.size
 drawn:q->w.drawn<=w'.drawn
def Sk {n:Nat} {q:Qp} {loc:Nat->Value} {μ l:Mu} (h:μ.extL n (iq q loc []) l):μ.ext n l:=⟨h.1,λb j v z=>by
 rcases h.2 b j v z with h|h|⟨_,_,_,_,B,_⟩
 .simp_all
 .omega
 .simp[iq] at B⟩
def fL.pure {q:Qp} {μ:Mu} {loc:Nat->Value} {names:List Nat} {r:AV} {l:List (Nat×Ob)} {w:World} {v:Value} {B:Mu} {z:Nat->Value} {F:World} (h:fL q μ loc names r l w v B z F) (D:r.jJ=true):rep B r v:=by
 rcases h.res with h|⟨n,A,m,c,rfl,_⟩|⟨x,rfl,_⟩|⟨e,G,xs,H,rfl,_⟩<;>try cases D
 .exact h
def Pv {r:AV} (h:r.plain=true):r.jJ=true:=by cases r with
 |self n=>cases h
 |gX z=>
  have:z.any AV.XF=false:=by rw[yZ];intro x q l;have:=cI.1 (h) x q;cases x<;>simp[AV.XF,AV.scalar] at l this
  simp[AV.jJ,this]
 |_=>rfl
def Jg (P:Program) (u:Value) (args:Array Value) (w:World) (R:Ending->World->Prop):Prop:=
 ∃(l:Nat) (f:FuncId) (z:Array Value) (q body:Code),u= .func (.yield l) #[] #[]/\(Instr.yield l args).run P w= .ok (.round l f z q body) w/\∀F,Wd F->RoundIn F (0-1) P l f z q body w R
def iz (q:Qp) (B:Mu) (P:Program) (cB:eN):Prop:=∀g args cG r l,cB g args cG=some (r,l)->∀(w:World) (μ:Mu) (loc:Nat->Value) (F:List Value),B.le μ->L0 μ w->
 (∀id o,find cG id=some o->nY w.heap.size (iq q loc (cG.map (·.1))) μ loc w id o)->W5 loc cG->gY μ loc args F->
 (g<2000000/\(∀H,(callFunc g F.toArray).run P H= .ok (.enter g F.toArray) H)/\
  Calls P g F.toArray w λe G=>∃v D z,e= .returned v/\fL q μ loc (cG.map (·.1)) r l w v D z G)\/
 (2000000<=g/\(∃xs,find cG 10000=some (.lp xs))/\∃as v,F=as++[v]/\
  Jg P (clV g [v]) as.toArray w λe G=>∃v D z,e= .returned v/\fL q μ loc (cG.map (·.1)) r l w v D z G)
def iz.noY {A B C R:Prop} {cG:List (Nat×Ob)} {D:Prop} (h:(A/\B/\C)\/(D/\(∃xs,find cG 10000=some (.lp xs))/\R)) (l:∀xs,find cG 10000≠some (.lp xs)):B/\C:=by simp_all
def iz.mono {q:Qp} {B D:Mu} {P:Program} {cB:eN} (h:iz q B P cB) (F:B.le D):iz q D P cB:=
 λg args cG r z G w μ loc H l=>h g _ _ r _ G w _ _ _ (F.trans l)
section
variable {P:Program} {N:Nat} {w0:World} {μ0:Mu} {L:s8} {μ:Mu} {loc:Nat->Value} {st st':St} {a:Act} {w:World} {Q:Exit->Act->World->Prop} {K:Act->World->Prop} {h:Hint} {cB:eN}
def KE {l:Type} {c:Bool} {x:Option l} {v:l} (h:(bif c then none else x)=some v):x=some v:=by grind
theorem vS {l:Type} {j i:Nat} {x v:l} (q:find [(j,x)] i=some v):i=j:=by grind[find,beq_iff]
def vZ (O:Rel N w0 μ0 L μ loc st a w) {q:Mu} (l:μ.le q):∀{z:List oJ} {D:List AV} {B:List Value},kq st z=some D->kK μ loc z B->
  (∀id,oJ.r id∈z->∀b j x,mG (loc id) b->HF w b j=some x->q b j=some x)->cS q D B
 |[],D,B,h,k,_=>by simp[kq,bq] at h;subst h;assumption
 | .v a::z,D,B,h,⟨u,_,e,H,I⟩,G=>by subst e;simp[kq,cH] at h;obtain⟨vs',U,rfl⟩:=h;exact cT (yG l _ _ H) (vZ O l U I λid R=>G _ (by simp[R]))
 | .r _::z,D,B,h,⟨u,_,e,H,I⟩,G=>by
  subst e;simp[kq] at h;split at h
  .rename_i v vs' U V;injection h with h;subst h;obtain⟨ob,S,F⟩:=dA.1 U;refine cT ?_ (vZ O l V I λid R=>G _ (by simp[R]));have e :=H;rw[e];exact Ro (O.obs _ _ S) F l (λb j x hb hc=>G _ ai b j x hb hc)
  grind
 | .p _::z,D,B,h,_,_=>by simp[kq] at h
theorem V2 (O:Rel N w0 μ0 L μ loc st a w) {s:SV} {v:AV} {u:Value} (l:nX st s=some v) (I:fW μ loc s u) {F:Mu} (B:μ.le F)
  (z:∀id∈s.PR,∀b j x,mG (loc id) b->HF w b j=some x->F b j=some x):rep F v u:=by
 cases s with
 |pv x=>simp[nX,bq] at l;subst l;exact yG B _ _ I
 |row id=>obtain⟨ob,D,H⟩:=dA.1 l;have e :=I;rw[e];exact Ro (O.obs _ _ D) H B (λb j x hb R=>z _ (by simp[SV.PR,SV.ids]) b j x hb R)
 |ag cs=>simp[nX,cH] at l;obtain⟨vs,hv,rfl⟩:=l;obtain⟨us,rfl,R,h1⟩:=I;exact⟨us,rfl,vZ O B hv R (λid hi=>z _ (fe.2 ⟨_,hi,rfl⟩)),h1⟩
 |aq id q=>cases q with
  |full=>simp[nX] at l
  |bs n=>simp[nX] at l
  |nr i=>
   simp[nX] at l;split at l
   .rename_i e sz k U s' xs ys D;split at l
    .rename_i zs hy;obtain⟨m,us,vs,S,hm,V,hrc,hk,h2,h3,h4,h5,h6,h7⟩:=O.obs _ _ D;obtain⟨u',cells,k1,k2,k3,k4,k5⟩:=h4 i _ hy;obtain⟨m',us',e1,_,G⟩:=I;rw[S] at e1;have U:=aU Array.toList (Value.tuple.inj e1);obtain⟨rfl,rfl⟩:=U;have hu:u'=u:=by
      rcases G _ k1 with G|G
      .subst G;rcases k3.2 with⟨e1,_⟩|⟨g,cap,cur,e1,_⟩<;>simp[undef] at e1
      .exact G
     grind[Fg,SV.PR,kg]
    simp_all
   simp_all
 |_=>simp[nX] at l
def BH {id:Nat}:∀{l:List oJ} {z:List AV},kq st l=some z->id∈(SV.ag l).ids->∃G,st.ob id=some G
 |[],_,_,h=>by simp[SV.ids] at h
 | .v a::l,z,h,q=>by simp[kq,cH] at h;obtain⟨D,F,rfl⟩:=h;exact BH F (by assumption)
 | .r j::l,z,h,q=>by
  simp[kq] at h;split at h
  .rename_i v D F B;simp only[SV.ids,List.filterMap_cons,aS] at q;rcases q with rfl|q
   .grind[Option.bind_eq_some_iff]
   .exact BH B (by assumption)
  grind
 | .p j::l,z,h,_=>by simp[kq] at h
def lend_ob {s:SV} {v:AV} (h:nX st s=some v) {id:Nat} (l:id∈s.PR):∃z,st.ob id=some z:=by cases s with
 |pv x=>simp[SV.PR,SV.ids] at l
 |row j=>simp[SV.PR,SV.ids] at l;obtain⟨z,B,_⟩:=dA.1 (h);simp_all
 |ag F=>simp[nX,cH] at h;obtain⟨G,D,_⟩:=h;exact BH D l
 |aq j q=>simp[SV.PR] at l;cases q with
  |full=>simp[nX] at h
  |bs n=>simp[nX] at h
  |nr i=>grind[nX]
 |_=>simp[nX] at h
def CX (F:Rel N w0 μ0 L μ loc st a w) {l:Mu} (D:μ.le l) {xs:List Operand} {q:List TypeId} {z:List AV} (h:jO P st xs q=some z)
  (B:∀x∈xs,∀t s v,bP P t st x=some s->nX st s=some v->∀id∈s.PR,∀b j x,mG (loc id) b->HF w b j=some x->l b j=some x):cS l z (xs.map a.eval):=by
 induction xs generalizing q z with
 |nil=>simp_all[jO,dY]
 |cons x xs H=>
  simp[jO] at h;split at h
  .cases G:bP P (q.headD 0) st x with
   |none=>simp_all
   |some I=>grind[cT,V2,bp]
  grind
def ZX {μ q:Mu} {r:AV} {v:Value} (h:r.plain=true) (k:rep μ r v):rep q r v:=by
 have sc:∀(r) (v),r.scalar=true->rep μ r v->rep q r v:=λr v h k=>by cases r<;>simp[AV.scalar] at h<;>simpa[rep] using k
 cases r with
 |gX G=>obtain⟨B,e,l⟩:=k;refine⟨B,e,?_⟩;simp[AV.plain] at h;clear e;induction G generalizing B with
  |nil=>assumption
  |cons x xs R=>obtain⟨u,F,rfl,I,O⟩:=l;simp_all[cT]
 |bool b=>assumption
 |int b n=>assumption
 |str s=>assumption
 |dG U xs=>grind[AV.plain]
 |agg D=>grind[AV.plain]
 |fn f z=>grind[AV.plain]
 |ref D=>grind[AV.plain]
 |mp S H=>grind[AV.plain]
 |self n=>assumption
 |pG=>assumption
 |tU=>assumption
 |hole=>assumption
def Eh {D:Mu} {B:Nat->Value} {r:AV} {l:List (Nat×Ob)} {u:Value} {F:World} {q:Qp} (z:fL q μ loc [] r l w u D B F):Below w.heap.size w F:=
 ⟨z.os,z.tape,z.output,z.grown,λb G=>z.keep b G (by rintro⟨id,v,h,_⟩;simp[iq] at h)⟩
theorem Jb {o:Oper} {c:Call} {f:Operand} {g:Nat} {z l:List Value} {r:AV} {sZ:List (Nat×Ob)} (ho:o.op= .call c) (hc:c.callee= .value f) (hf:a.eval f= .func (.func g) #[] l.toArray)
  (U:c.args.toList.map a.eval=z) (he:∀I,(callFunc g (z++l).toArray).run P I= .ok (.enter g (z++l).toArray) I)
  {R:Value->World->Prop} (q:Calls P g (z++l).toArray w λe B=>∃v,e= .returned v/\R v B) (V:∀v B,R v B->K (a.put o.dst v) B):o.wJ P a w K Q:=by
 have D:c.args.map a.eval=z.toArray:=by grind
 refine LU (λc' S=>by simp_all) (x:= .enter g (z++l).toArray) (w':=w) ?_ λF H=> ?_
 .simp_all[execOp,resolve,Deferred.ofValue,invoke]
 .refine⟨H.one,?_⟩;have G:CallsIn _ (0-1) P g _ w _:=uI.2 q;have O :=by
   have:=H;rw[<-this] at G;exact G
  refine O.mono ?_;simp_all
def aey {o:Oper} {c:Call} {f:Operand} {g:Nat} {B z l:List Value} (ho:o.op= .call c) (hc:c.callee= .value f) (hf:a.eval f= .func (.func g) B.toArray l.toArray)
  (V:c.args.toList.map a.eval=z) (he:∀O,(callFunc g (B++(z++l)).toArray).run P O= .ok (.enter g (B++(z++l)).toArray) O)
  {R:Value->World->Prop} (q:Calls P g (B++(z++l)).toArray w λe D=>∃v,e= .returned v/\R v D) (hK:∀v D,R v D->K (a.put o.dst v) D):o.wJ P a w K Q:=by
 have G:c.args.map a.eval=z.toArray:=by grind
 refine LU (λc' U=>by simp_all) (x:= .enter g (B++(z++l)).toArray) (w':=w) ?_ λF I=> ?_
 .simp_all[execOp,resolve,Deferred.ofValue,invoke]
 .refine⟨I.one,?_⟩;have H:CallsIn _ (0-1) P g _ w _:=uI.2 q;have S :=by
   have:=I;rw[<-this] at H;exact H
  refine S.mono ?_;simp_all
def Jg.mono {u:Value} {args:Array Value} {R z:Ending->World->Prop} (h:Jg P u args w R) (S:∀e D,R e D->z e D):Jg P u args w z:=by obtain⟨l,f,B,q,body,G,H,I⟩:=h;exact⟨l,f,_,_,_,G,H,λF O=>(I F O).mono S⟩
theorem aez {o:Oper} {c:Call} {f:Operand} (ho:o.op= .call c) (V:c.callee= .value f) {R:Value->World->Prop}
  (O:Jg P (a.eval f) (c.args.toList.map a.eval).toArray w λe D=>∃v,e= .returned v/\R v D) (U:∀v D,R v D->K (a.put o.dst v) D):o.wJ P a w K Q:=by
 obtain⟨l,g,B,q,body,hf,I,z⟩:=O;have G:c.args.map a.eval=(c.args.toList.map a.eval).toArray:=by grind
 refine LU (λc' S=>by simp_all) (x:= .round l g B q body) (w':=w) ?_ λF H=> ?_
 .simp_all[execOp,resolve,Deferred.ofValue,invoke]
 .refine⟨H.one,(z F H).mono ?_⟩;simp_all
def JR (z:Rel N w0 μ0 L μ loc st a w) {f:Operand} {g:Nat} {l:List AV} (h:bP P 0 st f=some (.pv (.fn g l))):∃q:List Value,a.eval f= .func (.func g) #[] q.toArray/\cS μ l q:=by have:=bp z h;assumption
theorem T1 {x:Operand} (h:lu st x=false) {t:TypeId} {s:SV} {v:AV} (e:bP P t st x=some s) (l:nX st s=some v):s.PR=[]:=by cases x with
 |tmp i=>simp[bP] at e;cases s with
  |pv x=>rfl
  |row j=>simp[lu,e] at h
  |ag z=>simp[lu,e] at h
  |aq j q=>simp[lu,e] at h
  |_=>simp[nX] at l
 |const v=>simp[bP] at e;cases B:ofConst P t v<;>simp_all;subst e;rfl
 |func f=>simp[bP] at e;subst e;rfl
 |global g=>simp[bP] at e
theorem JB (G:Rel N w0 μ0 L μ loc st a w) (B:iz L.q μ0 P cB) {o:Oper} {c:Call} {f:Operand} {g:Nat} {O vs:List AV} {r:AV} (hd:∀i,o.dst=some i->i<N) (ho:o.op= .call c) (hc:c.callee= .value f)
  (hf:bP P 0 st f=some (.pv (.fn g O))) (hvs:jO P st c.args.toList c.argTypes.toList=some vs) (hr:cB g ((vs++O).map .pv) []=some (r,[]))
  (hp:(r.plain|| !(c.args.toList.any (lu st)))=true) (hns:r.jJ=true) (hK:oS N w0 μ0 L (st.set o.dst (.pv r)) K):o.wJ P a w K Q:=by
 obtain⟨cs,Zw,hcs⟩:=JR G hf;cases Vq:c.args.toList.any (lu st) with
 |false=>
  have z:=CX G (Mu.le.refl _) hvs (λx hx t s v e hl id hi=>by grind[T1]);obtain⟨he,hC⟩:=iz.noY (B g _ _ r _ hr w _ loc _ G.base.1 G.yc (by simp[find]) (by intro i j oi oj hi;simp[find] at hi) (sG (oC z hcs))) λxs=>by simp[find]
  refine Jb (R:=λv w'=>∃D q,fL L.q μ loc [] r [] w v D q w') (r:=r) (sZ:=[]) ho hc Zw rfl he (hC.mono ?_) ?_
  .simp
  .rintro v w' ⟨D,q,H⟩;exact hK _ _ _ _ ((G.grow (Sk H.ext) H.yc (Eh H) H.drawn).set hd (H.pure hns))
 |true=>
  have I :=by simpa[Vq] using hp
  let l :=λb=>∃id ob,st.ob id=some ob/\mG (loc id) b
  have:∀b,Decidable (l b):=λb=>Classical.propDecidable _
  let F :=λb j=>if l b then HF w b j else μ b j
  have S:μ.le F:=λb j v hv=>by
   by_cases hb:l b
   .obtain⟨id,ob,U,Xx⟩:=hb;have:=((G.obs _ _ U).block b Xx).2.2 j;simp_all
   grind
  have V:L0 F w:=λb j v hv=>by
   by_cases hb:l b
   .simpa[F,hb] using hv
   .exact G.yc b j v (by grind)
  have z:=CX G S hvs (λx hx t s v e hl id hi b j u hb R=>by
   obtain⟨ob,U⟩:=lend_ob hl hi;have hrow:l b:=⟨id,ob,U,hb⟩
   simpa[F,hrow] using R)
  obtain⟨he,hC⟩:=iz.noY (B g _ _ r _ hr w _ loc _ (G.base.1.trans S) V (by simp[find]) (by intro i j oi oj hi;simp[find] at hi) (sG (oC z (gF S _ _ hcs)))) λxs=>by simp[find]
  refine Jb (R:=λv w'=>∃D q,fL L.q F loc [] r [] w v D q w') (r:=r) (sZ:=[]) ho hc Zw rfl he (hC.mono ?_) ?_
  .simp
  .rintro v w' ⟨D,q,H⟩;exact hK _ _ _ _ ((G.abz (Eh H) H.drawn).set hd (ZX I (H.pure hns)))
def El (G:Rel N w0 μ0 L μ loc st a w) {xs:List Operand} {D:List AV} (h:uu st xs=some D):cS μ D (xs.map a.eval):=by induction xs generalizing D with
 |nil=>simp_all[uu,dY]
 |cons x xs I=>cases x with
  |tmp i=>
   simp[uu] at h;split at h
   .rename_i v F B l;injection h with h;subst h;obtain⟨u,z,q⟩:=G.env i _ B
    have:a.eval (.tmp i)=u:=by simp[Act.eval,z]
    exact cT (by rw[this];exact q) (I l)
   .rename_i U F B l;injection h with h;subst h;obtain⟨u,z,q⟩:=G.env i _ B
    have:a.eval (.tmp i)=u:=by simp[Act.eval,z]
    obtain⟨b,R,S,e,H,O⟩:=q;exact cT (by rw[this];exact⟨b,_,S,e,H.1,H.2,O⟩) (I l)
   grind
  |_=>simp[uu] at h
def Ek (G:Rel N w0 μ0 L μ loc st a w) {xs:List Operand} {F:List oJ} (h:qP st xs=some F):kK μ loc F (xs.map a.eval):=by induction xs generalizing F with
 |nil=>simp[qP] at h;subst h;rfl
 |cons x xs H=>cases x with
  |tmp i=>
   simp[qP] at h;split at h
   .rename_i v D B l;injection h with h;subst h;obtain⟨u,z,q⟩:=G.env i _ B
    have:a.eval (.tmp i)=u:=by simp[Act.eval,z]
    exact⟨_,_,rfl,by rw[this];exact q,H l⟩
   .rename_i O D B l;injection h with h;subst h;obtain⟨u,z,q⟩:=G.env i _ B
    have:a.eval (.tmp i)=u:=by simp[Act.eval,z]
    obtain⟨b,U,V,e,I,S⟩:=q;refine⟨_,_,rfl,?_,H l⟩;rw[this];exact⟨b,_,V,e,I.1,I.2,S⟩
   .rename_i id D B l;injection h with h;subst h;obtain⟨u,z,q⟩:=G.env i _ B
    have:a.eval (.tmp i)=u:=by simp[Act.eval,z]
    obtain⟨b,R,h2⟩:=q;exact⟨_,_,rfl,⟨b,R,by simp_all⟩,H l⟩
   grind
  |_=>simp[qP] at h
def Oo (G:Rel N w0 μ0 L μ loc st a w) {o:Oper} {g:Nat} {first l:Array Operand} {d:Nat} {I:List AV} (hd:d<N) (z:o.dst=some d) (R:o.op= .makeFunc (.func g) first l) (F:first.isEmpty=true)
  (S:xq st l.toList=some st') (B:uu st' l.toList=some I) (V:oS N w0 μ0 L (st'.set (some d) (.pv (.fn g I))) K):o.wJ P a w K Q:=by
 obtain⟨U,O,q⟩:=Mm G G S;have H:=El q B;have D :=by simpa using F
 refine qF q (λi hi=>by simp_all) ⟨.func (.func g) #[] (l.toList.map a.eval).toArray,?_,?_⟩ (by rw[z];omega)
 .unfold execOp;rw[R,D];have e:l.map a.eval=(l.toList.map a.eval).toArray:=by grind
  simp[Instr.makeFunc,e]
 .show rep _ _ _;rw[rep];simp_all
theorem Fa (q:Rel N w0 μ0 L μ loc st a w) {xs:List Operand} (h:nC.iy st xs=some st'):∃l,Rel N w0 μ0 L l loc st' a w:=by induction xs generalizing st μ with
 |nil=>grind[nC.iy]
 |cons x xs H=>cases x with
  |tmp i=>
   simp[nC.iy] at h;split at h
   .rename_i id G;cases z:st.dy id with
    |none=>simp_all
    |some B=>obtain⟨D,_,F⟩:=q.dy z;grind
   grind
  |_=>grind[nC.iy]
def Gl (q:Rel N w0 μ0 L μ loc st a w) {xs:List Operand} (h:nC.jK st xs=some st'):∃l,Rel N w0 μ0 L l loc st' a w:=by grind[nC.jK,Fa]
def Rel.addOb (l:Rel N w0 μ0 L μ loc st a w) {id:Nat} {o:Ob} (B:st.ob id=none) (R:nY w0.heap.size L μ loc w id o)
  (I:∀j F,st.ob j=some F->∀g,mG (loc id) g->¬mG (loc j) g):Rel N w0 μ0 L μ loc { st with ob:=put st.ob id (some o) } a w:=by
 refine⟨l.small,l.names,l.fix,l.size,l.defers,l.env,l.yc,l.base,?_,?_,l.keep,l.os,l.tape,l.output,l.grown,l.drawn⟩
 .intro i S q;by_cases e:id=i
  .simp_all[de]
  .exact l.obs i _ (by simp_all[bZ])
 .intro i j S F q D z g O;by_cases G:id=i
  .simp_all[bZ]
  .simp[bZ _ _ G] at q;by_cases H:id=j
   .grind
   .simp[bZ _ _ H] at D;exact l.apart i j _ _ q D z g O
def Mk (O:Rel N w0 μ0 L μ loc st a w) {locC:Nat->Value}:∀{xs:List Operand} {H:List TypeId} {F:List SV} {ids:List Nat},ES P h st xs H=some (F,ids)->(∀id∈ids,locC 10000=loc id)->gY μ locC F (xs.map a.eval):=by intro xs;induction xs with
 |nil=>intro H F ids B _;obtain⟨rfl,rfl⟩:=B;rfl
 |cons x xs R=>
  intro H F ids B z;simp[ES] at B;split at B
  .rename_i id I D l q;obtain⟨rfl,rfl⟩:=B;refine⟨_,_,rfl,?_,R q (λi V=>z i (by simp[V]))⟩;show a.eval x=gp _;rw[z id ai];cases x with
   |tmp t=>simp only[pK] at l;cases S:h.fu.contains t with
    |false=>simp_all
    |true=>
     simp only[S] at l;split at l
     .rename_i id' U;injection l with l;subst l;obtain⟨v,B,hr⟩:=O.env t _ U
      have:a.eval (.tmp t)=v:=by simp[Act.eval,B]
      rw[this];exact hr
     simp_all
   |_=>simp[pK] at l
  .rename_i I D l q;split at B
   .rename_i v G;obtain⟨rfl,rfl⟩:=B;exact⟨_,_,rfl,gO O G,R q z⟩
   simp_all
  simp_all
theorem L7 (R:Rel N w0 μ0 L μ loc st a w) (w6:iz L.q μ0 P cB) {o:Oper} {c:Call} {f:Operand} {st1:St} (hd:∀i,o.dst=some i->i<N) (ho:o.op= .call c) (hc:c.callee= .value f)
  (U:qg P h cB st c f o.dst=some st1) (hK:oS N w0 μ0 L st1 K):o.wJ P a w K Q:=by
 unfold qg at U;split at U
 .rename_i g caps vs id hf hvs;split at U
  .rename_i e sz xs sY;split at U
   .rename_i r' nm D F B hr;cases hb:(Nat.beq e D&&Nat.beq sz F&&Nat.beq nm 10000) with
    |false=>simp_all
    |true=>
     simp only[hb,ak] at U;simp only[aV] at hb;obtain⟨cs,Zw,hcs⟩:=JR R hf;let z:Nat->Value:=λ_=>loc id
     have hok:=R.obs id _ sY;have hargs:=Mk R (locC:=z) hvs (λi hi=>by grind);have SH:∀i oi,find [(10000,Ob.row e sz xs)] i=some oi->nY w.heap.size (iq L.q z ([(10000,Ob.row e sz xs)].map (·.1))) μ z w i oi:=by intro i oi hi;simp only[find] at hi;cases V:Nat.beq 10000 i with
      |false=>simp_all
      |true=>simp only[V,ak,bq] at hi;subst hi;have:=beq_iff.1 V;subst this;obtain⟨us,G,hrc,hm⟩:=hok;refine⟨us,G,hrc,λq O=>⟨.inr (.inr ⟨loc id,by rfl,O⟩),(hm q O).2⟩⟩
     obtain⟨he,hC⟩:=iz.noY (w6 g _ _ r' _ hr w μ z (c.args.toList.map a.eval++cs) R.base.1 R.yc SH (by
      intro i j oi oj hi hj hij
      grind[vS]) (mu hargs (sG hcs))) λxs h=>by simp[find] at h
     refine Jb (R:=λv w'=>∃μ' I,fL L.q μ z ([(10000,Ob.row e sz xs)].map (·.1)) r' [(nm,Ob.row D F B)] w v μ' I w') (r:=r') (sZ:=[]) ho hc Zw rfl he (hC.mono ?_) ?_
     .simp
     .rintro v w' ⟨μ',I,H⟩;have hlb:∀b,Nb (iq L.q z ([(10000,Ob.row e sz xs)].map (·.1))) b->mG (loc id) b:=by
       rintro b ⟨i,x,l,Zv⟩;simp only[iq] at l;split at l
       .grind
       .cases l
      have hng:∀b,¬Zt (iq L.q z ([(10000,Ob.row e sz xs)].map (·.1))) b:=by
       rintro b ⟨i,x,h9,h10,l,_⟩;simp only[iq] at l;split at l
       .simp_all
       .cases l
      have h1:=(R.drop id).world (w':=w') (μ':=μ') H.ext.1 (λb j x l=>by
        rcases H.ext.2 b j x l with l|l|l
        .simp_all
        .exact .inr (.inl (fU R.grown l))
        simp_all) H.yc (λk ok hk b hbk=>by
        by_cases D:id=k
        .simp_all[de]
        .simp only[bZ _ _ D] at hk;obtain⟨_,hlt,IA⟩:=(R.obs k ok hk).block b hbk;refine⟨H.keep b hlt (λhl=>R.apart id k _ ok sY hk D b (hlb b hl) hbk),λj=> ?_⟩;cases hj:μ' b j with
         |none=>rfl
         |some x=>
          rcases H.ext.2 b j x hj with l|l|l
          .simp_all
          .omega
          simp_all) (λb V hl=>H.keep b (fH V R.grown) (λhl'=>by
        have hbb:=hlb b hl';rcases(hok.block b hbb).1 with l|l|⟨x,l,Zv⟩
        .omega
        .exact hl l.cG
        .exact hl ⟨id,x,l,Zv⟩)) H.os H.tape H.output H.grown H.drawn
      have hnm:I nm=loc id:=by have:=beq_iff.1 hb.2;exact H.fix nm (by simp[this]) af af
      obtain⟨us,G,hrc,hm⟩:=H.obs nm (.row D F B) (by simp[find,pV]);rw[hnm] at G hm;split at U
      .rename_i n;cases Vr:(Nat.ble n B.length&&gJ id) with
       |false=>simp_all
       |true=>
       simp only[Vr,ak,bq] at U;subst U;simp only[aV] at Vr;have hnl:n<=B.length:=fF Vr.1;obtain⟨A,m,cp,S,hnm',hvv⟩:∃A m cp,I 10000= .slice A m cp/\n<=m/\v= .slice A n cp:=by
        rcases H.res with l|⟨n',A,m,cp,e1,_,h1,h2,h3⟩|⟨_,e1,_⟩|⟨_,_,_,_,e1,_⟩
        .rw[rep] at l;simp_all
        .grind
        .cases e1
        simp_all
       have e10:=beq_iff.1 hb.2;rw[e10] at hnm;rw[hnm] at S;have hid:id<10000\/20000<=id:=by have Vu:=Vr.2;simp only[gJ,gE] at Vu;rcases Vu with hm|hm<;>simp_all
       have hblk:∀q,mG v q↔mG (loc id) q:=λq=>by rw[hvv,S,iS,iS];cases A<;>rfl
       have h2:=h1.new (id:=id) (val:=v) (o:= .row D F (B.take n)) hid ?_ (λj oj hj hne q O=>by
        simp only[bZ _ _ (eL hne)] at hj
        exact R.apart id j _ oj sY hj (eL hne) q ((hblk q).1 O))
       .have heq:(St.new { env:=st.env,ob:=put st.ob id none } id (.row D F (B.take n)))=st.new id (.row D F (B.take n)):=by
         simp only[St.new,St.dH];congr 1;funext k;by_cases D:id=k
         .subst D;simp[de]
         .simp only[bZ _ _ D]
        rw[heq] at h2;exact hK _ _ _ _ (h2.set hd (sv:= .row id) (PT (by rw[hvv];rfl)))
       .have hlen:(B.take n).length=n:=aI;have Zz:=kS hrc n;refine⟨us.take (n *F),⟨by rw[dg Zz],?_⟩,Zz,λq O=> ?_⟩
        .rw[di,hlen,hvv];rcases G.2 with⟨e1,e2⟩|⟨q,cap,cur,e1,k1,k2,k3,k4,k5,k6⟩
         .grind
         .rw[S] at e1;simp only[Value.slice.injEq] at e1;obtain⟨rfl,rfl,rfl⟩:=e1;refine .inr ⟨q,cp,cur,rfl,k1,k2,by omega,k4,k5,?_⟩;rw[<-k6,List.take_take,wQ (jS _ hnl)]
        .rw[di,hblk q] at O;exact⟨(hok.block q O).1,(hm q O).2⟩
      .cases M6:r'.plain with
       |false=>simp_all
       |true=>
       simp[M6,ak,bq] at U;subst U;have JZ:nY _ L _ _ _ _ (.row _ _ _):=⟨us,G,hrc,λq O=>⟨(hok.block q O).1,(hm q O).2⟩⟩
       have h2:=h1.addOb (by simp[de]) JZ (λj oj hj q O=>by
        by_cases D:id=j
        .simp_all[de]
        .simp[bZ _ _ D] at hj
         exact R.apart _ j _ _ sY hj D q O)
       have heq:({ env:=st.env,ob:=put (put st.ob id none) id (some (.row D F B)) }:St)={ env:=st.env,ob:=put st.ob id (some (.row D F B)) }:=by
        congr 1;funext k;by_cases D:id=k
        .subst D;simp[de]
        .simp[bZ _ _ D]
       rw[heq] at h2;exact hK _ _ _ _ (h2.set hd (H.pure (Pv M6)))
   simp_all
  simp_all
 simp_all
def SA {B:Nat} {z:List (Nat×Nat×TypeId×Nat)} {id:Nat} {e:TypeId} {D:Nat} {loc:Nat->Value}:∃val,gp val= .slice none 0 0/\(∀g,¬mG val g)/\nY B L μ (qN loc id val) w id (JS z id e D):=by
 have r:∃val,gp val= .slice _ 0 0/\(∀g,¬mG val g)/\nY B L μ (qN loc id val) w _ (.row e D []):=
  ⟨_,rfl,λg l=>by simp[mG,cu] at l,[],⟨ai, .inl ⟨di _ _ _,rfl⟩⟩,rfl,λg l=>by simp_all[di,mG,cu]⟩
 unfold JS;split
 .rename_i k H I _;cases F:Nat.blt k _ with
  |false=>exact r
  |true=>refine⟨_,rfl,λg l=> ?_,_,[],[],di _ _ _,λq G=>(by simp[cu] at G),⟨ai, .inl ⟨rfl,rfl⟩⟩,rfl,⟨cK.mp F,ai⟩,rfl,rfl,by simp,by simp,by simp,ai⟩;simp_all[kg,cu]
 omega
theorem qD (R:Rel N w0 μ0 L μ loc st a w) {F:List (Nat×Nat×TypeId×Nat)}:∀(l:List (Nat×TypeId×Nat)) (st:St) (loc:Nat->Value),Rel N w0 μ0 L μ loc st a w->(∀x∈l,x.1<10000)->
  ∃q,Rel N w0 μ0 L μ q (iJ F l st) a w/\(∀x∈l,gp (q x.1)= .slice none 0 0)/\∀i,gp (loc i)= .slice none 0 0->gp (q i)= .slice none 0 0
 |[],st,loc,h,_=>⟨_,h,by simp,λ_ h=>h⟩
 |(id,e,s)::l,st,loc,h,G=>by
  obtain⟨val,V,B,D⟩:=SA;have H:=h.new (.inl (G (id,e,s) ai)) D (λj oj hj _ g S=>absurd S (B g));obtain⟨q,I,U,O⟩:=qD R l _ _ H (λx z=>G x (by simp[z]));refine⟨_,I,λx z=> ?_,λi hi=>O i ?_⟩
  .rcases aS.1 z with rfl|z
   .simp_all[di]
   grind
  grind[di,dh]
def xM {d:Nat} {pz:List Nat}:∀(j:Nat) (R:List TypeId) (G:List Value) (z:List SV) (l:List (Nat×TypeId×Nat)),nV P pz d j R G=some (z,l)->
  (∀x∈l,x.1<10000)/\(∀u∈G,u.oneCell'=true)/\∀(loc:Nat->Value),(∀x∈l,gp (loc x.1)= .slice none 0 0)->gY μ loc z G
 |j,[],[],z,l,q=>by simp only[nV,bq,cD] at q;obtain⟨rfl,rfl⟩:=q;exact⟨ai,by simp,λ_ _=>rfl⟩
 |j,[],_::_,z,l,q=>by simp[nV] at q
 |j,_::_,[],z,l,q=>by simp[nV] at q
 |j,t::R,v::G,z,l,q=>by
  simp only[nV] at q;split at q
  .rename_i F l' B;obtain⟨i1,i2,U⟩:=xM (j+1) R G F _ B;split at q
   .rename_i e s hs;cases I:(Nat.blt 0 s&&Nat.blt (5000+16 *d+j) 10000) with
    |false=>simp_all
    |true=>
     simp[I] at q;obtain⟨rfl,rfl⟩:=q;simp at I;have V :=by have:=I.2;simpa[cK] using this
     refine⟨λx S=> ?_,λu D=> ?_,λloc O=> ?_⟩
     .grind
     .rcases aS.1 D with rfl|D
      .rfl
      simp_all
     .exact⟨_,_,rfl,(by show _=gp _;simp_all),U _ (λx S=>O x (by simp[S]))⟩
   .simp at q;obtain⟨av,H,rfl,rfl⟩:=q;have hr:=xo (μ:=μ) H;refine⟨i1,λu D=> ?_,λloc O=>⟨_,_,rfl,hr,U _ O⟩⟩;rcases aS.1 D with rfl|D
    .unfold ofConst at H;split at H<;>first|rfl|cases H
    simp_all
  simp_all
def Ma (G:Rel N w0 μ0 L μ loc st a w) {o:Oper} {d:Nat} {t:TypeId} {B:List SV} {l:List (Nat×TypeId×Nat)} (hd:d<N) (z:o.dst=some d) (ho:o.op= .alloc t)
  (hz:((yR P t).bind λI=>nV P ((find h.Pn d).getD []) d 0 (tD P 8 t) I)=some (B,l)) (V:oS N w0 μ0 L (((iJ h.nest l st).new d (.box t (B.map (SV.dH d)))).set (some d) (.ptr d 0)) K):o.wJ P a w K Q:=by
 obtain⟨I,q,F⟩:=dA.1 hz;unfold yR at q;split at q
 .simp at q;obtain⟨v,hzv,rfl⟩:=q;obtain⟨O,R,S⟩:=xM 0 _ _ _ _ F;obtain⟨H,D,U,_⟩:=qD G l _ _ G O;refine Et D hd z ?_ (xu _ _ (S _ U)) R V;simp_all[execOp,Instr.alloc,zeroValue,typeInfo,newVar,newRow]
 simp_all
def Pr (D:Rel N w0 μ0 L μ loc st a w) {s:SV} {l:List SV} {u:Value} (h:Gj st s=some l) (k:fW μ loc s u):gY μ loc l u.cells.toList/\∀x∈u.cells.toList,x.oneCell'=true:=by
 unfold Gj at h;split at h
 .injection h with h;subst h;obtain⟨F,rfl,B,q⟩:=k;simp_all[Value.cells,sG]
 .cases z:ow st s with
  |false=>simp_all
  |true=>rw[z] at h;simp at h;subst h;obtain⟨B,q⟩:=Wp D z k;rw[q];exact⟨⟨_,[],rfl,k,rfl⟩,by simp_all⟩
def He (U:Rel N w0 μ0 L μ loc st a w) {place:Nat->Option (Nat×Nat)} {ty:Nat->TypeId}:∀{q:List (Nat×Operand)} {S:List (Nat×List SV)} {cells O:List SV} {I:List Value},qK P ty st q=some S->G9 place cells S=some O->gY μ loc cells I->(∀u∈I,u.oneCell'=true)->
  ∃ws:List Value,Instr.fill place I.toArray (q.map λp=>(p.1,a.eval p.2))=some ws.toArray/\gY μ loc O ws/\∀u∈ws,u.oneCell'=true
 |[],S,cells,O,I=>λG H R h4=>by simp_all[qK,G9,Instr.fill]
 |(i,x)::q,S,cells,O,I=>λG H R h4=>by
  simp[qK] at G;split at G
  .rename_i l rest hx D;injection G with G;subst G;obtain⟨sx,V,hl⟩:=dA.1 hx;obtain⟨hc,hone⟩:=Pr U hl (bp U V);simp only[G9] at H;split at H
   .cases H
   .rename_i F size M6;split at H
    .rename_i z;have hlen :=by
      have:=qm hc;simpa[z.1] using this
     have hvl:=qm R;have B:=mu (mu (DP R F) hc) (DO R (F+size));obtain⟨ws,hw,hr,ho⟩:=He U D H B (λu hu=>by grind);simp[bS,Instr.fill];have hsp:=HK I (a.eval x).cells.toList F 0 aI;grind[Array.toList_zipIdx]
    simp_all
  simp_all
theorem CR:∀{D:List SV} {l:List oJ} {B:List Value},wY st D=some l->gY μ loc D B->kK μ loc l B
 |[],l,B=>λh k=>by simp[wY,bq] at h;subst h;exact k
 |s::D,l,B=>λh ⟨u,O,e,F,I⟩=>by
  simp[wY] at h;split at h
  .rename_i c G q z;injection h with h;subst h;refine⟨u,O,e,?_,CR z I⟩;unfold aaV at q;cases H:ow st s with
   |false=>simp_all
   |true=>
    rw[H] at q;split at q
    .injection q with q;subst q;exact F
    .injection q with q;subst q;exact F
    simp_all
  grind
def Mc (V:Rel N w0 μ0 L μ loc st a w) {hh:Hint} {o:Oper} {d:Nat} {t:TypeId} {q:Array (Nat×Operand)} (hd:d<N) (F:o.dst=some d) (ho:o.op= .build t q) (h:vC P hh st d t q.toList=some st') (hK:oS N w0 μ0 L st' K):o.wJ P a w K Q:=by
 unfold vC at h;split at h
 .rename_i U svs l hu hz;cases G:U.toList.all (λf=>(lB P f.type).isSome) with
  |false=>simp_all
  |true=>
   rw[G] at h;simp only[ak] at h;split at h
   .rename_i ps R;split at h
    .rename_i cs O;injection h with h;subst h;obtain⟨sv2,hf,I⟩:=dA.1 O;obtain⟨vs,z,B⟩:=dA.1 hz;unfold yR at z;split at z
     .rename_i i hi;simp only[cH] at z;obtain⟨v,hzv,rfl⟩:=z;obtain⟨h1,h2,h3⟩:=xM 0 _ _ _ _ B;obtain⟨loc',D,h4,_⟩:=qD V l _ _ V h1;obtain⟨ws,hw,hr,H⟩:=He D R hf (h3 _ h4) h2;refine jj (v:= .agg ws.toArray) (w':=w) ?_ ?_
      .obtain⟨S⟩:=U;have M6:=run_places (w:=w) _ G;have hpe:(λx=>Option.map (λf:Field=>(f.offset,(lB P f.type).getD 0)) S[x]?)=pR P t:=by
        funext x;simp[pR,w5,hu,GX];cases hx:S[x]? with
        |none=>rfl
        |some fd=>grind[Option.isSome_iff_exists]
       simp_all[execOp,Instr.build,zeroValue,typeInfo,bW]
      .rw[F];exact hK _ _ _ _ (D.set (λi hi=>by simp_all) ⟨ws,rfl,CR I hr,H⟩)
     simp_all
    grind
   grind
 grind
def mP:∀{l:List Nat},distinct l=true->l.Nodup
 |[],_=>y3
 |x::l,h=>by simp[distinct,aV] at h;refine gy.2 ⟨λq=> ?_,mP h.2⟩;simp_all
def mR {q:Type}:∀{l:List (Nat×q)} {i:Nat} {v:q},find l i=some v->(i,v)∈l
 |[],_,_,h=>by simp[find] at h
 |(j,u)::l,i,v,h=>by simp[find] at h;cases z:Nat.beq j i with
  |true=>simp_all
  |false=>simp[z] at h;exact dB _ (mR h)
def MZ {z:Type}:∀{l:List (Nat×z)} {i:Nat},find l i=none->i∉l.map (·.1)
 |[],_,_=>by simp
 |(j,u)::l,i,h=>by simp[find] at h;cases q:Nat.beq j i with
  |true=>simp_all
  |false=>simp[q] at h;simp only[bS,aS,not_or];exact⟨λe=>by simp_all,MZ h⟩
def jN {z:Type}:∀{l:List (Nat×z)} {i:Nat} {v:z},(l.map (·.1)).Nodup->(i,v)∈l->find l i=some v
 |[],_,_,_,h=>by simp at h
 |(j,u)::l,i,v,q,h=>by
  simp at q;simp[find];rcases aS.1 h with h|h
  .simp_all
  .have:j≠i:=λe=>by simp_all
   rw[aaI this];exact jN q.2 h
theorem tT (q:Nat->Bool):∀(k:Nat) (l:List Nat),(iV q k l).map (·.1)=l
 |_,[]=>rfl
 |k,id::l=>by simp[iV,tT _ _ l]
def C0 (q:Nat->Bool):∀(k:Nat) (l:List Nat),k+l.length<=10000->∀p∈iV q k l,(q p.1=true->20000+k<=p.2)/\(q p.1=false->10000+k<=p.2/\p.2<20000)
 |_,[],_,p,h=>by simp[iV] at h
 |k,id::l,z,p,h=>by
  simp at z;simp[iV,aS] at h;rcases h with rfl|h
  .grind
  .have:=C0 _ _ l af p h;grind
def Nj (q:Nat->Nat):∀(k:Nat) (l:List Nat),(qu q k l).map (·.1)=l
 |_,[]=>rfl
 |k,id::l=>by simp[qu,Nj _ _ l]
theorem rB (q:Nat->Nat):∀(k:Nat) (l:List Nat),∀p∈qu q k l,p.1∈l/\q p.1+k<=p.2/\p.2<q p.1+k+l.length
 |_,[],p,h=>by simp[qu] at h
 |k,id::l,p,h=>by
  simp[qu,aS] at h;rcases h with rfl|h
  .simp
  .obtain⟨z,B,D⟩:=rB _ _ l p h;grind
def ClOK (q:Nat->Nat) (n:Nat) (l:List Nat):Prop:=n<=10000/\∀id∈l,q id=9000/\n<=1000\/q id=10000\/q id=20000
def Hr (z:Nat->Nat):∀(k:Nat) (l:List Nat),ClOK z (k+l.length) l->((qu z k l).map (·.2)).Nodup
 |_,[],_=>by simp[qu]
 |k,id::l,q=>by
  simp only[qu,bS,gy];have B:ClOK z (k+1+l.length) l:=⟨by have:=q.1;grind,λi F=>by have:=q.2 i (by simp[F]);grind⟩
  refine⟨λG=> ?_,Hr _ _ l B⟩;obtain⟨p,H,e⟩:=aG.1 G;obtain⟨D,S,U⟩:=rB _ _ l p H;have I:=q.2 id ai;have O:=q.2 p.1 (by simp[D]);have R:=q.1;grind
def Ni (q:Nat->Bool):∀(k:Nat) (l:List Nat),qu (EV q) k l=iV q k l
 |_,[]=>rfl
 |k,id::l=>by simp[qu,iV,Ni _ _ l,EV];grind
theorem xV (D:Nat->Bool):∀(k:Nat) (l:List Nat),k+l.length<=10000->((iV D k l).map (·.2)).Nodup
 |_,[],_=>by simp[iV]
 |k,id::l,q=>by simp at q;simp only[iV,bS,gy];refine⟨λz=> ?_,xV _ _ l af⟩;obtain⟨p,B,e⟩:=aG.1 z;have:=C0 _ _ l af p B;grind
def yQ:∀(m:List (Nat×Nat)),(swap m).map (·.1)=m.map (·.2)
 |[]=>rfl
 |(a,b)::l=>by simp[swap,yQ l]
def BJ:∀{m:List (Nat×Nat)} {a b:Nat},(a,b)∈m->(b,a)∈swap m
 |(x,y)::l,a,b,h=>by
  rcases aS.1 h with h|h
  .simp_all[swap]
  .exact dB _ (BJ h)
theorem BW {loc l:Nat->Value} {G:Nat->Nat} {names:List Nat} (q:∀j∈names,l (G j)=loc j):∀{z:List oJ} {B:List Value},SV.closed names (.cl 0 z)=true->kK μ loc z B->kK μ l (z.map (oJ.oN G)) B
 |[],B,_,h=>h
 |c::z,B,F,⟨u,O,e,D,H⟩=>by simp[SV.closed,lZ,aV] at F;refine⟨u,O,e,?_,BW q (by simpa[SV.closed] using F.2) H⟩;cases c with
  |v a=>exact D
  |p id=>obtain⟨b,R,I⟩:=D;exact⟨b,by simp_all,I⟩
  |r id=>show u=gp _;rw[q _ (by simp_all)];exact D
def KR {loc B:Nat->Value} {ρ:Nat->Nat} {names:List Nat} (D:∀j∈names,B (ρ j)=loc j) {s:SV} {v:Value} (O:s.closed names=true) (h:fW μ loc s v):fW μ B (s.oN ρ) v:=by induction s generalizing v with
 |two s t R F=>obtain⟨x,y,e,h,l⟩:=h;obtain⟨H,c2⟩:=lK.1 O;exact⟨x,y,e,R H h,F c2 l⟩
 |three s t r R F S=>obtain⟨x,y,z,e,h,l,h3⟩:=h;obtain⟨H,c3⟩:=lK.1 O;obtain⟨H,c2⟩:=lK.1 H;exact⟨x,y,z,e,R H h,F c2 l,S c3 h3⟩
 |undef=>exact h
 |any=>exact h
 |pv x=>exact h
 |cp cs=>exact h
 |ptr j U=>obtain⟨b,G,l⟩:=h;exact⟨b,by simp_all[SV.closed],l⟩
 |row j=>show v=gp _;rw[D j (by simpa[SV.closed] using O)];exact h
 |rp j sz i U=>obtain⟨g,n,c,G,l⟩:=h;exact⟨g,n,c,by simp_all[SV.closed],l⟩
 |sub j sz lo hi=>obtain⟨A,n,c,A',c',G,l⟩:=h;exact⟨A,n,c,A',c',by simp_all[SV.closed],l⟩
 |cl f I=>obtain⟨V,e,G⟩:=h;exact⟨V,e,BW D (by assumption) G⟩
 |ag I=>obtain⟨V,e,G,l⟩:=h;exact⟨V,e,BW D (by assumption) G,l⟩
 |aq j q=>simp[SV.closed] at O
def Gp {loc l:Nat->Value} {F:Nat->Nat} {names:List Nat} (q:∀j∈names,l (F j)=loc j):∀{z:List SV} {B:List Value},z.all (SV.closed names)=true->gY μ loc z B->gY μ l (z.map (SV.oN F)) B
 |[],B,_,h=>h
 |c::z,B,D,⟨u,I,e,G,H⟩=>by simp only[lZ,aV] at D;exact⟨u,I,e,KR q D.1 G,Gp q D.2 H⟩
def KD {n0 I:Nat} {L V:s8} {loc z:Nat->Value} {ρ:Nat->Nat} {names:List Nat} (hρ:∀j∈names,z (ρ j)=loc j) {id G:Nat} {o:Ob} (hc:o.closed names=true) (h:nY n0 L μ loc w id o) (hid:z G=loc id)
  (l:∀b,mG (loc id) b->Ib I V G b) (hq:V.q=L.q:=by rfl):nY I V μ z w G (o.oN ρ):=by
 cases o with
 |box t cells=>obtain⟨b,O,B,ho,hh,H,hs,R⟩:=h;exact⟨b,O,by simp_all,l b (by rw[B];exact EJ.2 rfl),hh,H,Gp hρ hc hs,R⟩
 |row e sz xs=>obtain⟨O,hw,F,H⟩:=h;exact⟨O,by simp_all,F,λg U=>by simp_all⟩
 |mp k e ks es=>obtain⟨b,eS,clock,B,ho,hh,H,R,S,hB⟩:=h;exact⟨b,_,_,by simp_all,l b (by rw[B];exact zN.2 rfl),hh,H,R,S,hB⟩
 |rn e s k e' s' xs ys=>obtain⟨m,us,O,B,H,D,F,hk,S,h3,h4,h5,h6,h7⟩:=h;refine⟨m,us,O,by simp_all,λq hq=>⟨l q (by rw[B];exact kg.2 (.inl hq)),(H q hq).2⟩,D,F,hk,S,h3,λi zs hi=> ?_,h5,h6,h7⟩;obtain⟨u,cells,k1,k2,k3,k4,k5⟩:=h4 i zs hi;exact⟨u,cells,k1,k2,k3,k4,λg U=>⟨l g (by rw[B];exact kg.2 (.inr ⟨u,aR k1,U⟩)),(k5 g U).2⟩⟩
 |lp xs=>obtain⟨us,B,R,S⟩:=h;exact⟨us,by simp_all,λg U=>by simp_all,by simp_all⟩
def Fb {tm:Nat->Option Value}:∀(l:List Nat) (st:St) (loc q:Nat->Value),(∀i,i∉l->q i=loc i)->(∀i s,st.env i=some s->∃v,tm i=some v/\fW μ loc s v)->∀i s,(fD l st).env i=some s->∃v,tm i=some v/\fW μ q s v
 |[],st,loc,q,B,h,i,s,z=>by
  have :=funext λi=>B i ai
  rw[this];exact h i s z
 |id::l,st,loc,q,B,h,i,s,z=>by
  refine Fb l _ (qN loc id (q id)) _ (λi D=> ?_) (λi s z=> ?_) i s z
  .grind[di,dh]
  .simp[St.dH,cH] at z;grind[zZ]
def Hz:∀(l:List Nat) (st:St) (loc q:Nat->Value),(∀i,i∉l->q i=loc i)->∀i B,(fD l st).ob i=some B->i∉l/\∃o,st.ob i=some o/\∀D L μ w,nY D L μ loc w i o->nY D L μ q w i B
 |[],st,loc,q,G,i,B,z=>by
  have :=funext λi=>G i ai
  rw[this];exact⟨ai,B,z,λ_ _ _ _ h=>h⟩
 |id::l,st,loc,q,G,i,B,z=>by
  obtain⟨I,R,F,H⟩:=Hz l _ (qN loc id (q id)) q (λi O=>by grind[di,dh]) i _ z;by_cases e:id=i
  .simp_all[St.dH,de]
  .simp[St.dH,bZ _ _ e,cH] at F;obtain⟨o,z,rfl⟩:=F;exact⟨by grind,o,z,λD L μ w h=>H _ L _ w (DJ h (eL e))⟩
def Ef (F:Rel N w0 μ0 L μ loc st a w):∀{xs:List Operand} {z:List TypeId} {q:List SV},ur P h st xs z=some q->gY μ loc q (xs.map a.eval)
 |[],z,q,l=>by simp[ur,bq] at l;subst l;rfl
 |x::xs,z,q,l=>by
  simp[ur] at l;split at l
  .rename_i v G B D;injection l with l;subst l;refine⟨_,_,rfl,?_,Ef F D⟩;unfold aaG at B
   all_goals first
    |grind[bp]
    |cases B
    |(cases H:isRef h x with
      |false=>simp_all
      |true=>grind[bp])
  simp_all
def xS {ids:List Nat} {F:Nat->Nat}:∀{l:List (Nat×Nat)} {cG:List (Nat×Ob)},jP st ids F l=some cG->cG.map (·.1)=l.map (·.2)/\∀B D,(B,D)∈cG->∃id o,(id,B)∈l/\st.ob id=some o/\o.closed ids=true/\D=o.oN F
 |[],cG,z=>by simp_all[jP]
 |(id,B)::l,cG,z=>by
  simp[jP] at z;split at z
  .rename_i o R O q;cases I:o.closed ids with
   |false=>simp_all
   |true=>obtain⟨G,H⟩:=xS q;grind
  simp_all
theorem xJ {names:List Nat} {H:Nat->Nat}:∀{l:List (Nat×Nat)} {cG q:List (Nat×Ob)},mN names H l cG=some q->cG.map (·.1)=l.map (·.2)/\q.map (·.1)=l.map (·.1)/\∀id G,(id,G)∈q->∃B o,(id,B)∈l/\(B,o)∈cG/\o.closed names=true/\G=o.oN H
 |[],[],q,z=>by simp_all[mN]
 |[],_::_,q,z=>by simp[mN] at z
 |_::_,[],q,z=>by simp[mN] at z
 |(id,B)::l,(F,o)::U,q,z=>by simp[mN] at z;cases D:(Nat.beq B F&&o.closed names) with
  |false=>simp_all
  |true=>simp[D,ak,cH] at z;obtain⟨r,I,rfl⟩:=z;simp only[aV] at D;have:=beq_iff.1 D.1;obtain⟨O,R,S⟩:=xJ I;grind
def Km {l:Nat->Bool} {id:Nat} (h:l id=true->gJ id=true):EV l id=10000\/EV l id=20000/\gJ id=true:=by unfold EV;grind
def Vp {st:St} {l:Nat->Bool} {id:Nat} (h:l id=true->gJ id=true):JW st l id=9000\/JW st l id=10000\/JW st l id=20000/\gJ id=true:=by unfold JW;cases VC _ _ with
 |true=>simp
 |false=>exact .inr (Km h)
def Pz {z:Nat->Option Ob} {B:SV} {v:Value} (h:fW μ loc B v) (l:∀id t cells,z id=some (.box t cells)->∃b,loc id= .pointer (some ⟨b,0,none⟩)):fW μ loc (KL z B) v:=by
 unfold KL;split
 .split
  .rename_i D;obtain⟨b,q⟩:=l _ _ _ D;exact⟨b,q,by rw[h,q];rfl⟩
  omega
 omega
def BK:∀{l:List Nat},l.Nodup->distinct l=true
 |[],_=>rfl
 |x::l,h=>by have:=gy.1 h;simp[distinct,this.1,BK this.2]
def JQ {R:SV} {v:Value} {g:Nat} {pre z:List SV} (D:fW μ loc R v) (l:Sw R=some (g,pre,z)):∃O I:List Value,gY μ loc pre O/\gY μ loc z I/\((g<2000000/\v= .func (.func g) O.toArray I.toArray)\/(2000000<=g/\O=[]/\∃u,I=[u]/\v=clV g [u])):=by
 unfold Sw at l;split at l
 .rename_i U H;cases B:Nat.blt U 1000000 with
  |false=>simp_all
  |true=>
  rw[B] at l;obtain⟨rfl,rfl,rfl⟩:=l;obtain⟨G,e,F⟩:=D;exact⟨[],G,rfl,sG F, .inl ⟨fH (cK.mp B) (by decide),e⟩⟩
 .obtain⟨G,e,F⟩:=D;cases B:Nat.blt _ _ with
  |true=>rw[B] at l;obtain⟨rfl,rfl,rfl⟩:=l;exact⟨[],G,rfl,tj F, .inl ⟨fH (cK.mp B) (by decide),by simp_all[clV]⟩⟩
  |false=>rw[B] at l;cases q:Nat.blt _ _ with
   |true=>rw[q] at l;simp at l;obtain⟨rfl,rfl,rfl⟩:=l;exact⟨G,[],tj F,rfl, .inl ⟨nE (Nat.sub_le _ _) (cK.mp q),by simp_all[clV]⟩⟩
   |false=>
    rw[q] at l;split at l
    .rename_i S;obtain⟨rfl,rfl,rfl⟩:=l;obtain⟨u,us',e1,V,h2⟩:=F;have :=h2;subst this e1;refine⟨[],_,rfl,tj (caps:=[S]) ⟨u,[],rfl,V,rfl⟩, .inr ⟨?_,rfl,u,rfl,e⟩⟩;cases Nat.lt_or_ge _ _ with
     |inl h=>rw[cK.mpr h] at q;grind
     |inr h=>exact h
    simp_all
 simp_all
def Bp (V:Rel N w0 μ0 L μ loc st a w) (w6:iz L.q μ0 P cB) {o:Oper} {c:Call} {f:Operand} {st1:St} (hd:∀i,o.dst=some i->i<N) (ho:o.op= .call c) (hc:c.callee= .value f)
  {g:Nat} {args:List SV} {cl:Nat->Nat} {ps cs:List Value} (hall0:gY μ loc args (ps++(c.args.toList.map a.eval++cs))) (hcl:∀id,cl id=9000\/cl id=10000\/cl id=20000/\gJ id=true)
  (Zw:(g<2000000/\a.eval f= .func (.func g) ps.toArray cs.toArray)\/(2000000<=g/\ps=[]/\∃v,cs=[v]/\a.eval f=clV g [v]))
  (hv:kj cB st g args cl o.dst=some st1) (hK:oS N w0 μ0 L st1 K):o.wJ P a w K Q:=by
 unfold kj at hv;simp only[] at hv;generalize hids:gI st 200 (args.flatMap SV.ids) []=ids at hv;generalize hm:qu cl 0 ids=m at hv;generalize hmB:(m.filter λp=> !(given cl p.1))=mB at hv;cases Az:(distinct ids&&Nat.blt ids.length 10000&&args.all (SV.closed ids)&&(ids.all (λi=> !(given cl i))||(Nat.blt ids.length 1000&&ids.all λi=> !(given cl i)||iK i))) with
 |false=>rw[Az] at hv;cases hv
 |true=>
 simp only[Az,ak] at hv;simp only[aV] at Az;obtain⟨⟨⟨hdis,hlen⟩,abB⟩,hgiv⟩:=Az;have hlen:ids.length<10000:=by simpa[cK] using hlen
 have hgv:∀i∈ids,cl i=9000->ids.length<1000/\i<10000:=λi hi e=>by
  have hgi:given cl i=true:=by simp[given,e]
  rcases Bool.or_eq_true_iff.1 hgiv with h|h
  .have:=cI.1 h i hi;simp[hgi] at this
  .obtain⟨h1,h2⟩:=lK.1 h;have h2:=cI.1 h2 i hi;simp only[hgi,dS,pX,iK,cK] at h2;exact⟨cK.mp h1,h2⟩
 have hnd:=mP hdis;have hm1:m.map (·.1)=ids:=by rw[<-hm];exact Nj _ _ _
 have hin1:∀p∈m,p.1∈ids:=λp z=>by rw[<-hm1];exact aG.2 ⟨p,z,rfl⟩
 have OH:∀p∈m,(cl p.1=20000->20000<=p.2)/\(cl p.1=10000->10000<=p.2/\p.2<20000)/\(cl p.1=9000->9000<=p.2/\p.2<10000):=by intro p z;have h0:=hin1 p z;rw[<-hm] at z;obtain⟨_,h1,h2⟩:=rB cl 0 ids p z;refine⟨λe=>by omega,λe=>by omega,λe=> ?_⟩;have:=(hgv _ h0 e).1;omega
 have hmb:∀p,p∈mB↔p∈m/\cl p.1≠9000:=λp=>by
  rw[<-hmB,c7];refine and_congr_right λ_=>⟨λh e=> ?_,λh=> ?_⟩
  .unfold given at h;rw[e] at h;cases h
  .cases hg:given cl p.1 with
   |false=>rfl
   |true=>exact absurd (beq_iff.1 hg) h
 have hnn:(m.map (·.2)).Nodup:=by
  rw[<-hm];refine Hr cl 0 ids ⟨af,λid hid=> ?_⟩;rcases hcl id with e|e|⟨e,_⟩
  .exact .inl ⟨e,by have:=(hgv id hid e).1;omega⟩
  .exact .inr (.inl e)
  .omega
 have hget:∀id l,(id,l)∈m->find m id=some l:=λid l z=>jN (by rw[hm1];exact hnd) z
 have U:∀id l,(id,l)∈m->find (swap m) l=some id:=λid l z=>jN (by rw[yQ];omega) (BJ z)
 have hex:∀id∈ids,∃l,(id,l)∈m:=λid hid=>by rw[<-hm1] at hid;obtain⟨p,z,rfl⟩:=aG.1 hid;exact⟨p.2,z⟩
 let G:Nat->Value:=λl=>match find (swap m) l with
  |some id=>loc id
  |none=>loc l
 have O:∀id l,(id,l)∈m->G l=loc id:=λid l z=>by simp only[G,U id l z]
 have hren:∀id l,(id,l)∈m->iN m id=l:=λid l z=>by simp[iN,hget id l z]
 have hren2:∀id l,(id,l)∈m->iN (swap m) l=id:=λid l z=>by simp[iN,U id l z]
 have hρ:∀j∈ids,G (iN m j)=loc j:=λj hj=>by obtain⟨l,z⟩:=hex j hj;rw[hren j l z,O j l z]
 split at hv
 .rename_i cG SH;obtain⟨XA,Vt⟩:=xS SH;have hlnd:(cG.map (·.1)).Nodup:=by rw[XA];exact hnn
  cases hr:cB g (args.map (SV.oN (iN m))) cG with
  |none=>rw[hr] at hv;cases hv
  |some rl=>
  obtain⟨r,R⟩:=rl;rw[hr] at hv;simp only[] at hv;generalize hnw:newNames (o.dst.getD 0) 0 (R.drop mB.length)=nw at hv;generalize hmm:mB++nw=mm at hv;cases OF:(Nat.ble nw.length 8&&distinct (mm.map (·.1))&&distinct (mm.map (·.2))&&nw.all (λx=>Nat.blt x.1 10000)&&nw.all (λx=>Nat.ble 25000 x.2)) with
  |false=>rw[OF] at hv;cases hv
  |true=>
  simp only[OF,ak] at hv;simp only[aV,cI] at OF;obtain⟨⟨⟨⟨_,hd1⟩,hd2⟩,hd3⟩,hd4⟩:=OF;have hn1:=mP hd1;have hn2:=mP hd2;have hgetM:∀id l,(id,l)∈mm->find mm id=some l:=λid l z=>jN hn1 z
  have hswapM:∀id l,(id,l)∈mm->find (swap mm) l=some id:=λid l z=>jN (by rw[yQ];omega) (BJ z)
  have hrenM:∀id l,(id,l)∈mm->iN (swap mm) l=id:=λid l z=>by simp[iN,hswapM id l z]
  have hpart:∀p∈mm,(p∈m/\cl p.1≠9000)\/p∈nw:=λp z=>by rw[<-hmm] at z;exact(bu.1 z).imp (hmb p).1 λh=>h
  have hnw25:∀p∈nw,25000<=p.2:=λp z=>by simpa using hd4 p z
  have hnwn:∀p∈nw,p.2∉cG.map (·.1):=λp z B=>by
   rw[XA] at B;obtain⟨q,hq,e⟩:=aG.1 B;by_cases hg9:cl q.1=9000
   .have:=((OH q hq).2.2 hg9).2;have:=hnw25 p z;omega
   .have:(mB.map (·.2)++nw.map (·.2)).Nodup:=by rw[<-cL,hmm];exact hn2
    exact(ig.1 this).2.2 _ (aG.2 ⟨q,(hmb q).2 ⟨hq,hg9⟩,e⟩) _ (aG.2 ⟨p,z,rfl⟩) rfl
  have hnwi:∀p∈nw,p.1<10000:=λp z=>by simpa[cK] using hd3 p z
  split at hv
  .rename_i back CV;obtain⟨hb1,hb2,hb3⟩:=xJ CV;have hbnd:(R.map (·.1)).Nodup:=by rw[hb1];exact hn2
   have hall:=Gp hρ abB hall0;have hobs:∀i oi,find cG i=some oi->nY w.heap.size (iq L.q G (cG.map (·.1))) μ G w i oi:=by
    intro i oi hi;obtain⟨id,S,z,sY,hoc,rfl⟩:=Vt i oi (mR hi);refine KD hρ hoc (V.obs id _ sY) (O id i z) (λb hb=> .inr (.inr ⟨loc id,?_,hb⟩))
    have:i∈cG.map (·.1):=by rw[XA];exact aG.2 ⟨_,z,rfl⟩
    simp only[iq,aB this,O id i z]
   have hapC:W5 G cG:=by intro i j oi oj hi hj hij q hq;obtain⟨id,S,z,sY,_⟩:=Vt i oi (mR hi);obtain⟨id',ob',H,JZ,_⟩:=Vt j oj (mR hj);rw[O id i z] at hq;rw[O id' j H];refine V.apart id id' S ob' sY JZ (λe=>hij ?_) q hq;subst e;have:=(hget id i z).symm.trans (hget id j H);injection this
   have hgo:(∀v w',(∃μ' I,fL L.q μ G (cG.map (·.1)) r R w v μ' I w')->K (a.put o.dst v) w')->o.wJ P a w K Q:=λhK'=>by
    rcases w6 g _ _ r _ hr w μ G (ps++(c.args.toList.map a.eval++cs)) V.base.1 V.yc hobs hapC hall with⟨hg,he,hC⟩|⟨hg,_,as,v0,BE,hY⟩
    .rcases Zw with⟨_,Zw⟩|⟨hg2,_⟩
     .refine aey (R:=λv w'=>∃μ' I,fL L.q μ G (cG.map (·.1)) r R w v μ' I w') ho hc Zw rfl he (hC.mono ?_) hK';rintro e w' ⟨v,μ',I,rfl,hP⟩;exact⟨v,rfl,μ',I,hP⟩
     omega
    .rcases Zw with⟨hg2,_⟩|⟨_,rfl,v1,rfl,Zw⟩
     .omega
     .rw[dQ] at BE;obtain⟨e1,e2⟩:=List.append_inj' BE rfl;simp only[cV,eP] at e2;subst e1 e2;rw[<-Zw] at hY;refine aez (R:=λv w'=>∃μ' I,fL L.q μ G (cG.map (·.1)) r R w v μ' I w') ho hc (hY.mono ?_) hK';rintro e w' ⟨v,μ',I,rfl,hP⟩;exact⟨v,rfl,μ',I,hP⟩
   refine hgo ?_;rintro v w' ⟨μ',I,hP⟩;let F:Nat->Value:=λi=>match find mm i with
    |some l=>I l
    |none=>loc i
   have Zu:∀id l,(id,l)∈mm->F id=I l:=λid l z=>by simp only[F,hgetM id l z]
   have Xu:∀i,i∉ids.filter (λi=> !(stays cl i))++nw.map (·.1)->F i=loc i:=by intro i hi;cases hfi:find mm i with
    |none=>simp only[F,hfi]
    |some l=>
     have z:=mR hfi;rcases hpart _ z with⟨H,_⟩|H
     .have D:i∈ids:=hin1 _ H;have hmv0:cl i=10000:=by
       cases B:stays cl i with
       |true=>exact beq_iff.1 B
       |false=>exact absurd (cO _ (c7.2 ⟨D,by simp[B]⟩)) hi
      have hr2:=(OH _ H).2.1 hmv0;rw[Zu i l z,hP.fix l (by rw[XA];exact aG.2 ⟨_,H,rfl⟩) hr2.1 hr2.2];exact O i l H
     .exact absurd (gG _ (aG.2 ⟨_,H,rfl⟩)) hi
   have hlb:∀b,Nb (iq L.q G (cG.map (·.1))) b->∃id S,id∈ids/\st.ob id=some S/\mG (loc id) b:=by
    rintro b ⟨l,x,B,Zv⟩;simp only[iq] at B;split at B
    .rename_i D;injection B with B;subst B;rw[XA] at D;obtain⟨p,z,rfl⟩:=aG.1 D;rw[O p.1 p.2 z] at Zv;obtain⟨q,hq,e⟩:=aG.1 (show p.2∈cG.map (·.1) by rw[XA];exact aG.2 ⟨_,z,rfl⟩);obtain⟨id,S,k1,k2,_⟩:=Vt q.1 q.2 hq;rw[e] at k1;have:=(U p.1 p.2 z).symm.trans (U id p.2 k1);injection this with this;exact⟨p.1,S,by rw[<-hm1];exact aG.2 ⟨_,z,rfl⟩,by rw[this];exact k2,Zv⟩
    .cases B
   have holdob:∀i oi,st.ob i=some oi->i∉ids->nY w0.heap.size L μ' loc w' i oi:=by
    intro i oi hi hni;refine(V.obs i oi hi).keep hP.ext.1 (λb hb=> ?_);obtain⟨_,hlt,IA⟩:=(V.obs i oi hi).block b hb;refine⟨hP.keep b hlt (λhl=> ?_),λj=> ?_⟩
    .obtain⟨id,S,h1,h2,h3⟩:=hlb b hl;exact V.apart id i S oi h2 hi (λe=>hni (by rw[<-e];exact h1)) b h3 hb
    .cases hj:μ' b j with
     |none=>rfl
     |some x=>
      rcases hP.ext.2 b j x hj with B|B|B
      .rw[IA j] at B;cases B
      .omega
      .obtain⟨id,S,h1,h2,h3⟩:=hlb b B.cG;exact absurd hb (V.apart id i S oi h2 hi (λe=>hni (by rw[<-e];exact h1)) b h3)
   have hgb:∀b,Zt (iq L.q G (cG.map (·.1))) b->∃id S,id∈ids/\cl id=9000/\st.ob id=some S/\mG (loc id) b:=by
    rintro b ⟨l,x,h9,h10,B,Zv⟩;simp only[iq] at B;split at B
    .rename_i D;injection B with B;subst B;rw[XA] at D;obtain⟨p,z,rfl⟩:=aG.1 D;have hc9:cl p.1=9000:=by
      rcases hcl p.1 with e|e|⟨e,_⟩
      .exact e
      .have:=(OH p z).2.1 e;omega
      .have:=(OH p z).1 e;omega
     rw[O p.1 p.2 z] at Zv;obtain⟨q,hq,e⟩:=aG.1 (show p.2∈cG.map (·.1) by rw[XA];exact aG.2 ⟨_,z,rfl⟩);obtain⟨id,S,k1,k2,_⟩:=Vt q.1 q.2 hq;rw[e] at k1;have:=(U p.1 p.2 z).symm.trans (U id p.2 k1);injection this with this;exact⟨p.1,S,hin1 p z,hc9,by rw[this];exact k2,Zv⟩
    .cases B
   have hgn:∀b,Zt (iq L.q G (cG.map (·.1))) b->w0.heap.size<=b\/Zt L b:=λb hb=>by obtain⟨id,S,h1,h2,h3,h4⟩:=hgb b hb;exact V.DH (hgv id h1 h2).2 ((V.obs id S h3).block b h4).1
   have hback':∀id o',find back id=some o'->∃l o,(id,l)∈mm/\find R l=some o/\o.closed (mm.map (·.2))=true/\o'=o.oN (iN (swap mm)):=by intro id o' hfb;obtain⟨l,o,h1,h2,h3,h4⟩:=hb3 id o' (mR hfb);exact⟨l,o,h1,jN hbnd h2,h3,h4⟩
   have SM:∀id l S b,(id,l)∈mm->find R l=some S->mG (I l) b->w.heap.size<=b\/Zt (iq L.q G (cG.map (·.1))) b\/((id,l)∈m/\mG (loc id) b):=by
    intro id l S b z hfo hb;rcases((hP.obs l S hfo).block b hb).1 with B|B|⟨x,B,Zv⟩
    .omega
    .exact .inr (.inl B)
    .right;right;simp only[iq] at B;split at B
     .rename_i D;rcases hpart _ z with⟨H,_⟩|H
      .injection B with B;subst B;rw[O id l H] at Zv;exact⟨H,Zv⟩
      .exact absurd D (hnwn _ H)
     .cases B
   have hobin:∀id l,(id,l)∈m->∃S,st.ob id=some S:=by intro id l z;obtain⟨q,hq,e⟩:=aG.1 (show l∈cG.map (·.1) by rw[XA];exact aG.2 ⟨_,z,rfl⟩);obtain⟨id',S,k1,k2,_⟩:=Vt q.1 q.2 hq;rw[e] at k1;have:=(U id l z).symm.trans (U id' l k1);injection this with this;exact⟨S,by rw[this];exact k2⟩
   have hidm:∀i,i∉mm.map (·.1)->i∉ids.filter (λi=> !(stays cl i))++nw.map (·.1)->i∉ids:=λi hi hn B=>by
    obtain⟨l,z⟩:=hex i B;by_cases h9:cl i=9000
    .exact hn (cO _ (c7.2 ⟨B,by unfold stays;rw[h9];rfl⟩))
    .exact hi (by rw[<-hmm];exact aG.2 ⟨_,cO _ ((hmb (i,l)).2 ⟨z,h9⟩),rfl⟩)
   have SL:∀i oi,((find back i).orElse λ_=>(fD (ids.filter (λi=> !(stays cl i))++nw.map (·.1)) st).ob i)=some oi->nY w0.heap.size L μ' F w' i oi/\((∃l o,(i,l)∈mm/\find R l=some o)\/(i∉mm.map (·.1)/\i∉ids/\∃o,st.ob i=some o)):=by intro i oi hi;cases hfb:find back i with
    |some o'=>
     rw[hfb] at hi;simp at hi;subst hi;obtain⟨l,S,z,hfo,hcl,rfl⟩:=hback' i o' hfb;refine⟨KD (names:=mm.map (·.2)) (λj hj=> ?_) hcl (hP.obs l S hfo) (Zu i l z) (λb hb=> ?_), .inl ⟨l,S,z,hfo⟩⟩
     .obtain⟨q,hq,rfl⟩:=aG.1 hj;rw[hrenM q.1 q.2 hq,Zu q.1 q.2 hq]
     .rcases SM i l S b z hfo hb with B|B|⟨H,B⟩
      .exact .inl (fU V.grown B)
      .exact(hgn b B).imp (λh=>h) .inl
      .obtain⟨ob0,hob0⟩:=hobin i l H;exact((V.obs i ob0 hob0).block b B).1
    |none=>
     rw[hfb] at hi;have hni:i∉mm.map (·.1):=by rw[<-hb2];exact MZ hfb
     have hi':(fD (ids.filter (λi=> !(stays cl i))++nw.map (·.1)) st).ob i=some oi:=by simpa using hi
     obtain⟨hnp,S,sY,hk⟩:=Hz _ st loc F Xu i oi hi';exact⟨hk _ _ _ _ (holdob i S sY (hidm i hni hnp)), .inr ⟨hni,hidm i hni hnp,S,sY⟩⟩
   have hrel:Rel N w0 μ0 L μ' F { env:=(fD (ids.filter (λi=> !(stays cl i))++nw.map (·.1)) st).env,ob:=λi=>(find back i).orElse λ_=>(fD (ids.filter (λi=> !(stays cl i))++nw.map (·.1)) st).ob i } a w':=by
    refine⟨V.small,V.names,?_,V.size,V.defers,?_,hP.yc,⟨V.base.1.trans hP.ext.1,?_⟩,λi oi hi=>(SL i oi hi).1,?_,?_,hP.os.trans V.os,hP.tape.trans V.tape,hP.output.trans V.output,fU V.grown hP.grown,λq=>fU (V.drawn q) (hP.drawn q)⟩
    .intro id x B h9 hlt;rw[Xu id (λD=> ?_)]
     .exact V.fix id x B h9 hlt
     .rcases bu.1 D with D|D
      .obtain⟨hmi,hms⟩:=c7.1 D;rcases hcl id with e|e|⟨_,hmt⟩
       .have:=(hgv id hmi e).2;omega
       .simp[stays,e] at hms
       .simp only[gJ,gE,aV] at hmt;rcases hmt with hh|hh
        .have:id<10000:=by simpa[cK] using hh
         omega
        .have:=fF hh.1;omega
      .obtain⟨p,z,rfl⟩:=aG.1 D;have:=hnwi p z;omega
    .exact Fb (tm:=λi=>a.tmps[i]?) _ st loc F Xu (λi s hs=>by
      obtain⟨u,hu,hr⟩:=V.env i s hs
      exact⟨u,hu,Gm hP.ext.1 hr⟩)
    .intro b j x B;rcases hP.ext.2 b j x B with B|B|B
     .exact V.base.2 b j x B
     .exact .inr (.inl (fU V.grown B))
     .exact .inr (hgn b B)
    .intro i j oi oj hi hj hij q hq;have Wr:∀k ok,k∉mm.map (·.1)->k∉ids->st.ob k=some ok->∀q,mG (F k) q->mG (loc k) q/\q<w.heap.size:=by
      intro k ok hk hki hok q hq
      have:F k=loc k:=Xu k (λhm=>by
       rcases bu.1 hm with hm|hm
       .exact hki (c7.1 hm).1
       .exact hk (by rw[<-hmm,cL];exact gG _ hm))
      rw[this] at hq;exact⟨hq,((V.obs k ok hok).block q hq).2.1⟩
     have mixed:∀i l o j oj q,(i,l)∈mm->find R l=some o->j∉mm.map (·.1)->j∉ids->st.ob j=some oj->mG (F i) q->mG (F j) q->False:=by
      intro i l o j oj q z hfo hj hji hoj hqi hqj;obtain⟨hqj',hlt⟩:=Wr j oj hj hji hoj q hqj;rw[Zu i l z] at hqi;rcases SM i l o q z hfo hqi with B|B|⟨H,B⟩
      .omega
      .obtain⟨id,S,h1,_,h3,h4⟩:=hgb q B;exact V.apart id j S oj h3 hoj (λe=>hji (by grind)) q h4 hqj'
      .obtain⟨ob0,hob0⟩:=hobin i l H;exact V.apart i j ob0 oj hob0 hoj (λe=>hj (by grind)) q B hqj'
     rcases(SL i oi hi).2 with⟨l,o,z,hfo⟩|⟨hni,hni',S,sY⟩
     .rcases(SL j oj hj).2 with⟨nm',o',H,hfo'⟩|⟨hnj,hnj',ob',JZ⟩
      .rw[Zu i l z] at hq;rw[Zu j nm' H];refine hP.apart l nm' o o' hfo hfo' (λe=>hij ?_) q hq;grind
      grind
     .rcases(SL j oj hj).2 with⟨nm',o',H,hfo'⟩|⟨hnj,hnj',ob',JZ⟩
      .grind
      .obtain⟨hqi,_⟩:=Wr i S hni hni' sY q hq;intro hqj;obtain⟨hqj,_⟩:=Wr j ob' hnj hnj' JZ q hqj;exact V.apart i j S ob' sY JZ hij q hqi hqj
    .intro b hb hl;refine(hP.keep b (fH hb V.grown) (λhl'=> ?_)).trans (V.keep b hb hl);obtain⟨id,S,_,h2,h3⟩:=hlb b hl';rcases((V.obs id S h2).block b h3).1 with B|B|⟨x,B,Zv⟩
     .omega
     .exact hl B.cG
     .exact hl ⟨id,x,B,Zv⟩
   have fin:∀sv,fW μ' F sv v->st1=St.set { env:=(fD (ids.filter (λi=> !(stays cl i))++nw.map (·.1)) st).env,ob:=λi=>(find back i).orElse λ_=>(fD (ids.filter (λi=> !(stays cl i))++nw.map (·.1)) st).ob i } o.dst sv->K (a.put o.dst v) w':=λsv hs e=>by subst e;exact hK _ _ μ' F (hrel.set hd hs)
   split at hv
   .rename_i x;cases hcx:(vV x).closed _ with
    |false=>rw[hcx] at hv;cases hv
    |true=>
    simp only[hcx,ak,bq] at hv;refine fin _ ?_ hv.symm;obtain⟨h1,_⟩:fW _ _ _ v/\True:=by
     rcases hP.res with B|⟨_,_,_,_,e1,_⟩|⟨x',e1,h1,_⟩|⟨_,_,_,_,e1,_⟩
     .simp[rep,cS] at B
     .cases e1
     .simp at e1;subst e1;exact⟨h1,trivial⟩
     .simp at e1
    refine Pz (KR (λj hj=> ?_) hcx h1) (λid t cells hb=> ?_)
    .obtain⟨q,hq,rfl⟩:=aG.1 hj;grind
    .obtain⟨hok,_⟩:=SL _ _ (by rw[hb];rfl);obtain⟨b,vs,hl,_⟩:=hok;exact⟨b,hl⟩
   .cases hns:r.jJ with
    |false=>rw[hns] at hv;cases hv
    |true=>
    simp only[hns,ak,bq] at hv;exact fin (.pv r) (hP.pure hns) hv.symm
  simp_all
 simp_all
theorem Br (I:Rel N w0 μ0 L μ loc st a w) (D:iz L.q μ0 P cB) {o:Oper} {c:Call} {f:Operand} {H:St} (hd:∀i,o.dst=some i->i<N) (ho:o.op= .call c) (hc:c.callee= .value f)
  (q:jT P h cB st c f o.dst=some H) (hK:oS N w0 μ0 L H K):o.wJ P a w K Q:=by
 unfold jT at q;split at q
 .rename_i g pre z vs hf hvs;obtain⟨sf,hsf,S⟩:=dA.1 hf;obtain⟨ps,cs,hps,O,R⟩:=JQ (bp I hsf) S;refine Bp I D hd ho hc (cl:=EV (iw (o.dst.any h.stay.contains) st (qz (pre++(vs++z))))) (mu hps (mu (Ef I hvs) O)) (λid=> ?_) R ?_ hK
  .simp_all[Km,iw]
  unfold kj;simp only at q⊢;generalize gI _ _ _ _=ids at q⊢;generalize Vu:iw _ _ _=B at q⊢;rw[Ni];have V:ids.all (λi=> !(given (EV B) i))=true:=cI.2 λi _=>by unfold given EV;cases B i<;>rfl
  have G:((iV B 0 ids).filter λp=> !(given (EV B) p.1))=iV _ 0 _:=y4.2 λp _=>by unfold given EV;cases B _<;>rfl
  have hpg:(ids.filter λi=> !(stays (EV B) i))=ids.filter B:=lM λi _=>by unfold stays EV;cases B i<;>rfl
  rw[V,G,hpg,uJ,y5];generalize hm:iV _ 0 _=m at q⊢;cases l:(distinct _&&Nat.blt _ _&&(pre++(vs++z)).all _) with
  |false=>grind
  |true=>
  rw[l,ak] at q;simp only[ak];simp at l;have hlen :=by simpa[cK] using l.1.2
  split at q
  .split at q
   .rename_i r F hr;split at q
    .rename_i back hb;have U :=by
      have:=aU List.length (xJ hb).1;simpa using this
     have e:F.drop m.length=[]:=by rw[<-U];exact rL
     have h1:distinct (m.map (·.1))=true:=by rw[<-hm,tT];exact l.1.1
     have h2:distinct (m.map (·.2))=true:=BK (by grind[xV]);simp only[e,newNames,dF,h1,h2,hb,fI];split
     .simp[AV.jJ,AV.XF] at q
     .exact q
    simp_all
   omega
  omega
 simp_all
def Bi (O:Rel N w0 μ0 L μ loc st a w) {G:List Nat} {d:Nat}:∀{xs:List Operand} {D:List TypeId} {j:Nat} {F:List SV},(∀x∈mS P G d j xs D,gp (loc x.1)= .slice none 0 0)->CN P G d st j xs D=some F->gY μ loc F (xs.map a.eval)
 |[],D,j,F,_,z=>by simp[CN] at z;subst z;rfl
 |x::xs,D,j,F,B,z=>by
  simp only[CN] at z;split at z
  .rename_i v S l I;injection z with z;subst z;cases q:(DA x&&G.contains j) with
   |false=>rw[mS,q] at B;refine⟨_,_,rfl,?_,Bi O B I⟩;unfold argG at l;grind[bp]
   |true=>
    simp only[aV] at q;unfold argG at l;rw[q.1,q.2] at l;obtain⟨⟨e,U⟩,H,l⟩:=dA.1 l;rw[mS,q.1,q.2,H] at B;refine⟨_,_,rfl,?_,Bi O (λy R=>B y (dB _ R)) I⟩;injection l with l;subst l;unfold DA at q;split at q
    .show Value.slice _ 0 0=gp _;simp_all
    simp_all
  simp_all
mutual
theorem AV.sM:∀(a b:AV),AV.same a b=true->a=b
 | .bool a,b=>by cases b<;>simp[AV.same]
 | .int k a,b=>by cases b<;>simp[AV.same]
 | .str a,b=>by cases b<;>simp[AV.same]
 | .dG s xs,b=>by cases b<;>simp only[AV.same,aV,eG,nF];rintro⟨h1,h2⟩;rw[beq_iff.1 h1,B5 _ _ h2]
 | .agg a,b=>by cases b<;>simp only[AV.same,eG,nF];intro h;rw[pQ _ _ h]
 | .fn f a,b=>by cases b<;>simp only[AV.same,aV,eG,nF];rintro⟨h1,h2⟩;rw[beq_iff.1 h1,pQ _ _ h2]
 | .gX a,b=>by cases b<;>simp only[AV.same,eG,nF];intro h;rw[pQ _ _ h]
 | .ref a,b=>by cases b<;>simp only[AV.same,eG,nF];intro h;rw[pQ _ _ h]
 | .mp a b,c=>by cases c<;>simp only[AV.same,aV,eG,nF];rintro⟨h1,h2⟩;rw[pQ _ _ h1,pQ _ _ h2]
 | .self n,b=>by cases b<;>simp only[AV.same,eG,nF];intro h;rw[beq_iff.1 h]
 | .pG,b=>by cases b<;>simp[AV.same]
 | .tU,b=>by cases b<;>simp[AV.same]
 | .hole,b=>by cases b<;>simp[AV.same]
theorem pQ:∀(a b:List AV),s7 a b=true->a=b
 |[],[]=>λ_=>rfl
 |[],_::_=>λh=>by simp[s7] at h
 |_::_,[]=>λh=>by simp[s7] at h
 |x::l,y::m=>λh=>by simp only[s7,aV] at h;rw[AV.sM x y h.1,pQ l m h.2]
theorem B5:∀(a b:List (List AV)),B4 a b=true->a=b
 |[],[]=>λ_=>rfl
 |[],_::_=>λh=>by simp[B4] at h
 |_::_,[]=>λh=>by simp[B4] at h
 |x::l,y::m=>λh=>by simp only[B4,aV] at h;rw[pQ x y h.1,B5 l m h.2]
end
mutual
theorem AV.mZ:∀a:AV,AV.same a a=true
 | .bool a=>by simp[AV.same]
 | .int k a=>by simp[AV.same]
 | .str a=>by simp[AV.same]
 | .dG s xs=>by simp[AV.same,pV,z7 xs]
 | .agg a=>by simp[AV.same,mH a]
 | .fn f a=>by simp[AV.same,pV,mH a]
 | .gX a=>by simp[AV.same,mH a]
 | .ref a=>by simp[AV.same,mH a]
 | .mp a b=>by simp[AV.same,mH a,mH b]
 | .self n=>by simp[AV.same,pV]
 | .pG=>by simp[AV.same]
 | .tU=>by simp[AV.same]
 | .hole=>by simp[AV.same]
theorem mH:∀a:List AV,s7 a a=true
 |[]=>rfl
 |x::l=>by simp[s7,AV.mZ x,mH l]
theorem z7:∀a:List (List AV),B4 a a=true
 |[]=>rfl
 |x::l=>by simp[B4,mH x,z7 l]
end
theorem oJ.sM {a b:oJ} (h:a.same b=true):a=b:=by
 cases a<;>cases b<;>simp[oJ.same,eG] at h
 .rw[AV.sM _ _ h]
 .simp_all
 simp_all
def oJ.mZ (a:oJ):a.same a=true:=by cases a<;>simp[oJ.same,AV.mZ]
theorem B2:∀{a b:List oJ},sK a b=true->a=b
 |[],[]=>λ_=>rfl
 |[],_::_=>λh=>by simp[sK] at h
 |_::_,[]=>λh=>by simp[sK] at h
 |x::l,y::m=>λh=>by simp[sK,aV] at h;rw[oJ.sM h.1,B2 h.2]
def Df:∀a:List oJ,sK a a=true
 |[]=>rfl
 |x::l=>by simp[sK,oJ.mZ x,Df l]
theorem Ak.sM {a b:Ak} (h:a.same b=true):a=b:=by
 cases a<;>cases b<;>simp[Ak.same,eG] at h
 .rfl
 .simp_all
 simp_all
def Ak.mZ (a:Ak):a.same a=true:=by cases a<;>simp[Ak.same]
theorem SV.sM {a b:SV} (h:a.same b=true):a=b:=by induction a generalizing b with
 |two s x q l=>cases b<;>simp only[SV.same,aV,eG] at h;grind
 |three s x y q l B=>cases b<;>simp only[SV.same,aV,eG] at h;grind
 |undef=>grind[SV.same,Bool.false_eq_true]
 |any=>grind[SV.same,Bool.false_eq_true]
 |pv x=>cases b<;>simp_all[SV.same,eG];rw[AV.sM _ _ h]
 |ptr x y=>cases b<;>simp[SV.same,eG] at h;simp_all
 |row x=>cases b<;>simp[SV.same,eG] at h;simp_all
 |rp x y z u=>cases b<;>simp[SV.same,eG] at h;simp_all
 |sub x y z u=>cases b<;>simp[SV.same,eG] at h;simp_all
 |cp x=>cases b<;>simp_all[SV.same];rw[pQ _ _ h]
 |cl f x=>cases b<;>simp[SV.same,eG] at h;grind[beq_iff,B2]
 |ag x=>cases b<;>simp_all[SV.same];rw[B2 h]
 |aq x y=>cases b<;>simp[SV.same,eG] at h;grind[beq_iff,Ak.sM]
def SV.mZ (a:SV):a.same a=true:=by induction a<;>simp[SV.same,AV.mZ,mH,Df,Ak.mZ, *]
theorem K3:∀{a b:List SV},xy a b=true->a=b
 |[],[]=>λ_=>rfl
 |[],_::_=>λh=>by simp[xy] at h
 |_::_,[]=>λh=>by simp[xy] at h
 |x::l,y::m=>λh=>by simp[xy,aV] at h;rw[SV.sM h.1,K3 h.2]
def Fk:∀a:List SV,xy a a=true
 |[]=>rfl
 |x::l=>by simp[xy,SV.mZ x,Fk l]
theorem Gw:∀{a b:List (Option (List (List AV)))},sL a b=true->a=b
 |[],[]=>λ_=>rfl
 |[],_::_=>λh=>by simp[sL] at h
 |none::_,[]=>λh=>by simp[sL] at h
 |some _::_,[]=>λh=>by simp[sL] at h
 |some x::l,some y::m=>λh=>by simp[sL,aV] at h;rw[B5 _ _ h.1,Gw h.2]
 |none::l,none::m=>λh=>by simp[sL] at h;rw[Gw h]
 |some _::_,none::_=>λh=>by simp[sL] at h
 |none::_,some _::_=>λh=>by simp[sL] at h
def B3:∀a:List (Option (List (List AV))),sL a a=true
 |[]=>rfl
 |some x::l=>by simp[sL,z7 x,B3 l]
 |none::l=>by simp[sL,B3 l]
theorem Ob.sM {a b:Ob} (h:a.same b=true):a=b:=by
 cases a<;>cases b<;>simp[Ob.same,eG] at h
 .grind[beq_iff,K3]
 .grind[beq_iff,B5]
 .grind[beq_iff,pQ]
 .rw[pQ _ _ h]
 grind[beq_iff,B5,Gw]
def Ob.mZ (a:Ob):a.same a=true:=by cases a<;>simp[Ob.same,z7,mH,Fk,B3]
def K2:∀{a b:List (Nat×Ob)},vq a b=true->a=b
 |[],[]=>λ_=>rfl
 |[],_::_=>λh=>by simp[vq] at h
 |_::_,[]=>λh=>by simp[vq] at h
 |(i,x)::l,(j,y)::m=>λh=>by simp only[vq,aV] at h;rw[beq_iff.1 h.1.1,Ob.sM h.1.2,K2 h.2]
def Fj:∀a:List (Nat×Ob),vq a a=true
 |[]=>rfl
 |(i,x)::l=>by simp[vq,Ob.mZ x,Fj l]
theorem oJ.wA {B l:Nat->Nat} {ids:List Nat} (h:∀j∈ids,l (B j)=j):∀{q:List oJ},SV.closed ids (.cl 0 q)=true->(q.map (oJ.oN B)).map (oJ.oN l)=q
 |[],_=>rfl
 |c::q,z=>by simp[SV.closed,lZ,aV] at z;simp only[bS];rw[oJ.wA h (by simpa[SV.closed] using z.2)];grind[oJ.oN]
theorem SV.wA {D q:Nat->Nat} {ids:List Nat} (h:∀j∈ids,q (D j)=j) {s:SV} (I:s.closed ids=true):(s.oN D).oN q=s:=by induction s with
 |two s b F z=>simp_all[SV.oN,SV.closed]
 |three s b c F z G=>simp_all[SV.oN,SV.closed]
 |ptr j B=>simp_all[SV.oN,SV.closed]
 |row j=>simp_all[SV.oN,SV.closed]
 |rp j H i B=>simp_all[SV.oN,SV.closed]
 |sub j H R O=>simp_all[SV.oN,SV.closed]
 |cl f l=>simp only[SV.oN];rw[oJ.wA h (by assumption)]
 |ag l=>simp only[SV.oN];rw[oJ.wA h (by assumption)]
 |_=>rfl
def Aw {q:Nat->Nat} {ids names:List Nat} (h:∀j∈ids,q j∈names):∀{l:List oJ},SV.closed ids (.cl 0 l)=true->SV.closed names (.cl 0 (l.map (oJ.oN q)))=true
 |[],_=>rfl
 |c::l,z=>by simp[SV.closed] at z;simp[SV.closed];grind[oJ.oN]
theorem SV.Dr {D:Nat->Nat} {ids names:List Nat} (h:∀j∈ids,D j∈names) {s:SV} (I:s.closed ids=true):(s.oN D).closed names=true:=by induction s with
 |two s b F z=>simp_all[SV.oN,SV.closed]
 |three s b c F z G=>simp_all[SV.oN,SV.closed]
 |ptr j B=>simp_all[SV.oN,SV.closed]
 |row j=>simp_all[SV.oN,SV.closed]
 |rp j H i B=>simp_all[SV.oN,SV.closed]
 |sub j H R O=>simp_all[SV.oN,SV.closed]
 |cl f l=>have:=Aw h (by assumption);assumption
 |ag l=>have:=Aw h (by assumption);assumption
 |aq j q=>assumption
 |_=>rfl
theorem Ob.wA {z l:Nat->Nat} {ids:List Nat} (h:∀j∈ids,l (z j)=j) {o:Ob} (q:o.closed ids=true):(o.oN z).oN l=o:=by cases o with
 |box t cells=>simp[Ob.oN,e8];congr 1;simp[Ob.closed,cI] at q;exact(iE λs B=>SV.wA h (q s B)).trans (pY _)
 |_=>rfl
theorem Ob.Dr {l:Nat->Nat} {ids names:List Nat} (h:∀j∈ids,l j∈names) {o:Ob} (q:o.closed ids=true):(o.oN l).closed names=true:=by cases o with
 |box t cells=>simp[Ob.closed] at q;simp[Ob.oN,Ob.closed];grind[SV.Dr]
 |_=>rfl
def MK {ids names:List Nat} {B ρ':Nat->Nat} (G:∀j∈ids,ρ' (B j)=j) (F:∀j∈ids,B j∈names):∀{l:List (Nat×Nat)} {cG:List (Nat×Ob)},jP st ids B l=some cG->∃q,mN names ρ' l cG=some q/\∀i o,find q i=some o->st.ob i=some o
 |[],cG,z=>by simp[jP,bq] at z;subst z;exact⟨[],rfl,λi o h=>by simp[find] at h⟩
 |(id,S)::l,cG,z=>by
  simp[jP] at z;split at z
  .rename_i o U ho D;obtain⟨O,z⟩:=(show o.closed ids=true/\some ((S,o.oN B)::U)=some cG from by grind)
   injection z with z;subst z;obtain⟨q,H,V⟩:=MK G F D;refine⟨(id,(o.oN B).oN ρ')::q,?_,λi o' R=> ?_⟩
   .simp[mN,pV,Ob.Dr F O,rM,ak,H,ff]
   .simp[find] at R;cases I:Nat.beq id i with
    |true=>grind[beq_iff,Ob.wA]
    |false=>simp_all
  simp_all
def R1 {c:Call} {f:Operand} {r:AV} {d:Option Nat} (hst:d.any h.stay.contains=true) (F:tf P h cB st c f=some r):jT P h cB st c f d=some (st.set d (.pv r)):=by
 unfold tf at F;split at F
 .rename_i g args l;unfold uA at l;split at l
  .rename_i g' pre z U hf hvs;simp only[bq,cD] at l;obtain⟨rfl,rfl⟩:=l;have V:iw (d.any h.stay.contains) st (qz (pre++(U++z)))=λ_=>false:=by
    funext id;simp only[iw,hst,dS,Bool.and_false]
   have G:gI st 200 ((pre++(U++z)).flatMap SV.ids) []=jB st (pre++(U++z)):=rfl;generalize jB st _=ids at F G;have hm:iV _ 0 ids=mw _:=rfl;cases q:(distinct ids&&Nat.blt ids.length 10000&&(pre++(U++z)).all (SV.closed ids)) with
   |false=>grind
   |true=>
   simp only[q] at F;have B:=q;simp at B;obtain⟨⟨O,H⟩,abB⟩:=B;have H :=by simpa[cK] using H
   have hnd:=mP O;have hm1:(mw _).map _=ids:=tT _ _ _;have hnn:((mw ids).map _).Nodup:=xV _ 0 _ af;have hget:∀id R,(id,R)∈mw ids->find _ _=some _:=λid R hp=>jN (by simp_all) hp
   have hswap:∀id R,(id,R)∈mw _->find _ _=some _:=λid R hp=>jN (by rw[yQ];omega) (BJ hp)
   split at F
   .rename_i cG D;split at F
    .rename_i r' I hr;cases S:(vq I cG&&r'.jJ) with
     |false=>simp_all
     |true=>
      rw[S] at F;simp at F;subst F;simp at S;have e:=K2 S.1;subst e
      obtain⟨back,hb,hg⟩:=MK (names:=(mw ids).map (·.2)) (ρ':=iN (swap (mw ids))) (λj hj=>by
       grind[iN]) (λj hj=>by
       simp[iN]
       grind) D
      unfold jT;simp only[hf,hvs,V,G,hm,q,ak,D,hr,hb,S.2];have e1:fD (ids.filter λ_=>false) st=st:=by have e0:(ids.filter λ_=>false)=[]:=y6.2 (λ_ _=>by decide);rw[e0];rfl
      rw[e1];congr 2;congr 1;funext i;cases hfi:find _ i with
      |none=>rfl
      |some o=>simp_all
    simp_all
   simp_all
  simp_all
 simp_all
def KM (H:Rel N w0 μ0 L μ loc st a w) {b:Bool}:∀{xs:List Operand} {G:List TypeId} {D:List AV},sD P b st xs G=some D->cS μ D (xs.map a.eval):=by intro xs;induction xs with
 |nil=>simp_all[sD,dY]
 |cons x xs O=>
  intro G D q;simp[sD] at q;split at q
  .rename_i v R l B;injection q with q;subst q;refine cT ?_ (O B);unfold PE at l;cases z:(b&&DA x) with
   |true=>
    rw[z] at l;simp at l;subst l;have:=(lK.1 z).2;unfold DA at this;split at this
    .rfl
    simp_all
   |false=>rw[z] at l;obtain⟨s,I,F⟩:=dA.1 l;have:=bp H I;cases s<;>simp[kR] at F;subst F;exact this
  simp_all
def xX:∀{D:List AV} {l:List (Nat×TypeId×Nat)} {z:List oJ} {B:List Value},tF D l=some z->(∀x∈l,gp (loc x.1)= .slice none 0 0)->cS μ D B->kK μ loc z B
 |[],l,z,B,q,_,O=>by simp_all[tF,cS,kK]
 |a::D,l,z,B,q,I,O=>by
  obtain⟨u,R,rfl,G,H⟩:=O;have other:∀{k':List _},tF _ l=some _->kK _ _ (.v a::k') _:=λF=>⟨u,R,rfl,G,xX F I H⟩
  cases a with
  |tU=>cases l with
   |nil=>simp[tF] at q
   |cons x l=>simp[tF,cH] at q;obtain⟨k',F,rfl⟩:=q;rw[rep] at G;refine⟨u,R,rfl,?_,xX F (λy S=>I y (by simp[S])) H⟩;show u=gp _;simp_all
  |_=>simp[tF,cH] at q;grind
def RY (V:Rel N w0 μ0 L μ loc st a w) (l:iz L.q μ0 P cB) {o:Oper} {c:Call} {f:Operand} {B:St} {d:Nat} {U:List Nat} (q:o.dst=some d) (hd:∀i,o.dst=some i->i<N) (ho:o.op= .call c) (hc:c.callee= .value f)
  (z:CP P h cB st c f d U=some B) (hK:oS N w0 μ0 L B K):o.wJ P a w K Q:=by
 unfold CP at z;simp at z;split at z
 .rename_i g pre S vs hf R;cases hb:(mS P U d 0 c.args.toList c.argTypes.toList).all (λx=>Nat.blt x.1 10000) with
  |false=>simp_all
  |true=>
  rw[hb] at z;obtain⟨loc2,D,h3,_⟩:=qD V _ _ _ V (λx hx=>cK.mp (cI.1 hb x hx));obtain⟨sf,O,H⟩:=dA.1 hf;obtain⟨ps,cs,I,F,G⟩:=JQ (bp D O) H;exact Bp D l hd ho hc (mu I (mu (Bi D h3 R) F)) (λid=>Vp λhm=>by simp_all[iw]) G (q▸z) hK
 simp_all
theorem L6 (R:Rel N w0 μ0 L μ loc st a w) (G:iz L.q μ0 P cB) {o:Oper} {c:Call} {f:Operand} {st1:St} (hd:∀i,o.dst=some i->i<N) (ho:o.op= .call c) (hc:c.callee= .value f)
  (D:iI P h cB st c f o.dst=some st1) (hK:oS N w0 μ0 L st1 K):o.wJ P a w K Q:=by
 unfold iI at D;split at D
 .rename_i d z;split at D
  .rename_i gv _;exact RY R G z hd ho hc D hK
  split at D
  .rename_i g caps vs hf hvs;obtain⟨cs,Zw,hcs⟩:=JR R hf;have main:∀{r:AV},cB g ((vs++caps).map .pv) []=some (r,[])->(∀v O B q,fL L.q μ loc [] r [] w v B q O->Rel N w0 μ0 L B loc st a O->K (a.put o.dst v) O)->o.wJ P a w K Q:=λ{r} hr hk=>by
    obtain⟨he,hC⟩:=iz.noY (G g _ [] _ [] hr w μ loc (c.args.toList.map a.eval++cs) R.base.1 R.yc (by simp[find]) (by intro i j oi oj V;simp[find] at V) (sG (oC (KM R hvs) hcs))) λxs=>by simp[find]
    refine Jb (R:=λv O=>∃B q,fL L.q μ loc [] r [] w v B q O) (r:=r) (sZ:=[]) ho hc Zw rfl he (hC.mono ?_) ?_
    .simp
    .rintro v O ⟨B,q,F⟩;exact hk v O B q F (R.grow (Sk F.ext) F.yc (Eh F) F.drawn)
   split at D
   .rename_i e sz xs hr;cases hn:(xk h d).isSome with
    |true=>simp_all
    |false=>
    rw[hn] at D;simp only[aA,bq] at D;subst D;refine main hr λv O B q F h1=> ?_
    obtain⟨us,U,hrc,S⟩:∃us,O.ownsRow 0 e sz v xs.length us/\dc B sz xs us/\∀g,cu v=some g->w.heap.size<=g/\∀j,B g j=none:=by
     rcases F.res with hx|⟨_,_,_,_,e1,_⟩|⟨_,e1,_⟩|⟨e2,sz2,xs2,us,e1,k1,k2,k3⟩
     .simp_all[rep,cS]
     .cases e1
     .simp at e1
     .simp only[AV.gX.injEq,cV,AV.self.injEq,AV.dG.injEq,eP] at e1;obtain⟨rfl,rfl,rfl⟩:=e1;exact⟨us,k1,k2,λg H=>⟨(k3 g H).1.resolve_right λ⟨_,_,_,_,hx,_⟩=>by simp[iq] at hx,(k3 g H).2.1⟩⟩
    have hdN:=hd d z;have hin:∀g,mG v g->cu v=some g:=λg H=>by
     rcases H with H|⟨us',e1,_⟩
     .exact H
     .subst e1;rcases U.2 with⟨e2,_⟩|⟨_,_,_,e2,_⟩<;>cases e2
    have h2:=h1.new (id:=d) (o:= .row e _ _) (.inl (fH hdN R.small)) ⟨us,by rw[di];omega,hrc,λg H=>by
      rw[di] at H;obtain⟨k1,k2⟩:=S g (hin g H)
      exact⟨.inl (fU R.grown k1),k2⟩⟩ (λj oj hj _ g H hb=>by
     have k1:=(S g (hin g H)).1;have:=((R.obs j _ hj).block g hb).2.1
     omega)
    rw[z];refine hK _ _ _ _ (h2.set (λi V=>(fR V)▸hdN) ?_);show v=gp _;rw[di];rcases U.2 with⟨e2,_⟩|⟨_,_,_,e2,_⟩<;>rw[e2]<;>rfl
   .rename_i cs' hr;split at D
    .injection D with D;subst D;refine main hr λv O B q F h1=> ?_
     have I:=F.pure rfl;rw[z];exact hK _ _ _ _ (h1.set (λi V=>hd i (z.trans V)) I)
    .rename_i l _ hl;split at D
     .rename_i ks hks;cases hb:l.all (λx=>Nat.blt x.1 10000) with
      |false=>simp_all
      |true=>
      rw[hb] at D;simp at D;subst D;refine main hr λv O B q F h1=> ?_
      have I:=F.pure rfl;obtain⟨vs',rfl,hra,hone⟩:=I;obtain⟨loc2,h2,h3,_⟩:=qD h1 l _ _ h1 (λx hx=>cK.mp (cI.1 hb x hx));rw[z];exact hK _ _ _ _ (h2.set (λi V=>hd i (z.trans V)) ⟨_,rfl,xX hks h3 hra,hone⟩)
     simp_all
    simp_all
   simp_all
  simp_all
 simp_all
theorem Oc (B:Rel N w0 μ0 L μ loc st a w) (l:iz L.q μ0 P cB) {o:Oper} {c:Call} {f:Operand} {r:AV} (F:∀i,o.dst=some i->i<N) (G:o.op= .call c) (D:c.callee= .value f) (q:o.dst.any h.stay.contains=true)
  (H:tf P h cB st c f=some r) (z:oS N w0 μ0 L (st.set o.dst (.pv r)) K):o.wJ P a w K Q:=
 Br B l F G D (R1 q H) z
theorem Vm (B:Rel N w0 μ0 L μ loc st a w) (w6:iz L.q μ0 P cB) {o:Oper} {v:SV} (H:∀i,o.dst=some i->i<N) (l:ey P h cB o st=some v) (G:oS N w0 μ0 L (st.set o.dst v) K):o.wJ P a w K Q:=by
 unfold ey at l;split at l
 .rename_i t len D I;cases V:(o.dst.any h.rows.contains||o.dst.any h.fu.contains) with
  |true=>simp_all
  |false=>simp only[V,aA] at l;cases hl:kY P t len D.toList st with
   |none=>simp_all
   |some x=>grind[Vk]
 .rename_i c I;split at l
  .rename_i f hc;replace l:=KE l;cases R:(o.dst.any h.stay.contains&&wide st c f) with
   |true=>rw[R] at l;simp only[ak,cH] at l;obtain⟨r,hr,rfl⟩:=l;rw[aV] at R;grind[Oc]
   |false=>
   rw[R] at l;replace l:=KE l;split at l
   .rename_i g q vs hf hvs;split at l
    .rename_i r hr;cases hp:((!(c.args.toList.any (lu st))||r.plain)&&r.jJ) with
     |true=>simp only[hp,ak,bq] at l;subst l;rw[aV] at hp;grind[JB,Bool.or_comm]
     |false=>grind
    simp_all
   simp_all
  .exact qF B H (Hj B I l) G
 .rename_i t D I;exact qF B H (SD B I (KE l)) G
 .rename_i t x I;exact qF B H (zW B (KE l)) G
 .rename_i g first q I
  cases O:first.isEmpty with
  |false=>
   simp[O] at l;cases F:(q.isEmpty&&o.dst.any h.fu.contains&&Nat.blt g 1000000) with
   |false=>simp_all
   |true=>
   rw[F] at l;simp only[aV] at F;have hc0 :=by simpa using F.1.1
   have hg :=cK.mp F.2;have run:(execOp a.eval o).run P w= .ok (.value (.func (.func g) (first.toList.map a.eval).toArray #[])) w:=by
    unfold execOp;rw[I,hc0];have e:first.map a.eval=(first.toList.map a.eval).toArray:=by grind
    simp[Instr.makeFunc,e]
   cases z:qP st first.toList with
   |none=>simp_all
   |some vs=>
    simp[z] at l;subst l;refine qF B H ⟨_,run,(show fW _ _ (.cl _ _) _ from⟨_,?_,Ek B z⟩)⟩ G;have h1:Nat.blt (g+1000000) 1000000=false:=by cases V:Nat.blt _ _ with
     |false=>rfl
     |true=>have:=cK.mp V;omega
    have h2:Nat.blt (g+1000000) _=true:=cK.mpr (Nat.add_lt_add_right hg _);simp[clV,h1,h2,aA,ak,lN]
  |true=>
   simp[O] at l;have hf0 :=by simpa using O
   have run:(execOp a.eval o).run P w= .ok (.value (.func (.func g) #[] (q.toList.map a.eval).toArray)) w:=by
    unfold execOp;rw[I,hf0];have e:q.map a.eval=(q.toList.map a.eval).toArray:=by grind
    simp[Instr.makeFunc,e]
   cases S:o.dst.any h.fu.contains with
   |true=>
    simp[S] at l;cases U:Nat.blt g 1000000 with
    |false=>simp_all
    |true=>
    rw[U] at l;cases z:qP st q.toList with
    |none=>simp_all
    |some vs=>simp[z] at l;subst l;exact qF B H ⟨_,run,(show fW _ _ (.cl g _) _ from⟨_,by simp[clV,U,ak],Ek B z⟩)⟩ G
   |false=>
   simp[S] at l;cases z:uu st q.toList with
   |none=>simp_all
   |some vs=>simp[z] at l;subst l;have hall:=El B z;refine qF B H ⟨_,run,?_⟩ G;show rep _ _ _;rw[rep];simp_all
 .have key:fB P o st=some v:=by
   split at l
   .grind
   .grind
   .exact l
  exact qF B H (zW B key) G
 .exact qF B H (zW B l) G
theorem Zi (H:Rel N w0 μ0 L μ loc st a w) (w6:iz L.q μ0 P cB) {o:Oper} (V:∀i,o.dst=some i->i<N) (B:nC P h cB o st=some st') (I:oS N w0 μ0 L st' K):o.wJ P a w K Q:=by
 unfold nC at B;split at B
 .rename_i d q F;split at B
  .rename_i e s hs;split at B
   .injection B with B;subst B;exact eff_nil H (V d q) q F I
   .cases B
  .cases B
 .rename_i d x hnc q F;split at B
  .rename_i id U;cases R:h.mvs.contains d with
   |true=>rw[R] at B;exact Ph H (V d q) q F U B I
   |false=>
   rw[R] at B;simp only[aA] at B;split at B
   .rename_i st1 hp;split at B
    .rename_i v hv1;injection B with B;subst B;obtain⟨μ1,_,h1⟩:=H.dy hp;exact qF h1 V (Dy h1 (.inr F) hv1) (by rw[q];exact I)
    .cases B
   .cases B
  .cases B
 .rename_i d t x q F;split at B
  .rename_i cs U hagg;injection B with B;subst B;have S:=bp H U;simp only[fW,rep] at S;obtain⟨vs,S,hall,hone⟩:=S;refine Et (v:= .agg vs.toArray) H (V d q) q ?_ (by simpa[Value.cells] using sG hall) (by assumption) I;unfold execOp;rw[F];simp[Instr.box,newVar,newRow,S,Value.cells]
  .rename_i cs U hagg;cases hm:(SV.ag cs).mentions d with
   |true=>rw[hm] at B;cases B
   |false=>
   rw[hm] at B;simp only[aA,bq] at B;subst B;have S:=TZ (x:= .pointer (some ⟨w.heap.size,0,none⟩)) hm (bp H U);obtain⟨vs,S,hall,hone⟩:=S;refine Et (v:= .agg vs.toArray) H (V d q) q ?_ (by simp_all[Value.cells,tj]) (by assumption) I;unfold execOp;rw[F];simp[Instr.box,newVar,newRow,S,Value.cells]
  .rename_i v hnot U hagg;split at B
   .rename_i hone;injection B with B;subst B;have S:=bp H U;obtain⟨h1,hc1⟩:=Wp H hone S;refine Et (v:=a.eval x) H (V d q) q ?_ (by rw[hc1];exact⟨_,[],rfl,zZ S,rfl⟩) (by rw[hc1];simpa using h1) I;unfold execOp;rw[F];simp[Instr.box,newVar,newRow]
   .cases B
  .cases B
 .rename_i d t q F;cases hrw:h.rows.contains d with
  |true=>
   rw[hrw] at B;simp only[ak] at B;split at B
   .rename_i svs l hz;injection B with B;subst B;exact Ma H (V d q) q F hz I
   .cases B
  |false=>
  rw[hrw] at B;simp only[aA] at B;split at B
  .rename_i z hz;injection B with B;subst B;obtain⟨i,v,hi,hzv,hc⟩:=NQ (μ:=μ) hz;refine Et (v:=v) H (V d q) q ?_ (sG hc.1) hc.2 I;unfold execOp;rw[F];simp[Instr.alloc,zeroValue,typeInfo,hi,hzv,newVar,newRow]
  .cases B
 .rename_i d t l c q F;split at B
  .rename_i e s kl nl kc nc hs hl hc;split at B
   .rename_i z i hz hi;split at B
    .rename_i D;injection B with B;subst B;exact abd H (V d q) q F hs hl hc hz hi D I
    .cases B
   .cases B
  .cases B
 .rename_i d t len parts q F;cases hby:h.fu.contains d&& !h.rows.contains d with
  |true=>rw[hby] at B;exact Sd H (V d q) q F B I
  |false=>
  rw[hby] at B;simp only[aA] at B;split at B
  .rename_i e s xs hl;split at B
   .injection B with B;subst B;exact On H (V d q) q F hl I
   .rename_i k e' s' hn;cases hb:(Nat.blt k s&&xs.all (qJ k)) with
    |false=>rw[hb] at B;cases B
    |true=>rw[hb] at B;simp only[ak,bq] at B;subst B;obtain⟨b1,b2⟩:=lK.1 hb;exact Mb H (V d q) q F hl (cK.mp b1) b2 I
  .cases B
 .rename_i t x y q F;split at B
  .rename_i id sz i off j U hy;exact TN H q F U hy B I
  .rename_i id off j sz n U hy;exact R8 H q F U hy B I
  .rename_i sa sv _ hnr U hy;exact Zj H q F U hy B I
  .cases B
 .rename_i d t r q F;split at B
  .rename_i k e hu;cases hb:yH P st r with
   |false=>simp_all
   |true=>rw[hb] at B;simp only[ak] at B;simp only[bq] at B;subst B;exact Se H (V d q) q F hu hb I
  simp_all
 .rename_i t m k x q F;exact Eu H q (.inl F) B I
 .rename_i t m k x q F;exact Eu H q (.inr F) B I
 .rename_i d t parts q F;cases hrw:h.rows.contains d with
  |false=>rw[hrw] at B;cases B
  |true=>rw[hrw] at B;exact Mc H (V d q) q F B I
 .rename_i d t x q F;cases Rt:h.take.contains d with
  |false=>rw[Rt] at B;cases B
  |true=>rw[Rt] at B;exact MA H (V d q) q F B I
 .rename_i d g first caps q F
  cases hfi:first.isEmpty with
  |false=>rw[hfi] at B;cases B
  |true=>
   rw[hfi] at B;simp only[ak] at B;split at B
   .rename_i st1 hp;simp only[cH] at B;obtain⟨vs,hcs,rfl⟩:=B;exact Oo H (V d q) q F hfi hp hcs I
   .cases B
 .rename_i d c F;split at B
  .rename_i hc;split at B
   .rename_i d' x y t t' q G O;split at B
    .rename_i e s id sy hs U hy;split at B
     .rename_i e' sz xs sz' ys i sY hel hi;split at B
      .rename_i D;obtain⟨rfl,rfl,rfl,rfl,hpos,hby,hlen,hz,R⟩:=D;injection B with B;subst B;have ho':o.op= .call { callee:= .builtin .append,args:= #[x,y],argTypes:= #[t,t] }:=by
        rw[F];obtain⟨cal,⟨as⟩,⟨ts⟩⟩:=c;simp only at hc G O;subst hc;subst G;subst O;rfl
       refine Vc H (V d' q) q ho' hs U hy sY hel hi hpos hby hlen hz ?_ I;simp only[gJ,gE] at R;rcases R with hm|hm
       .left;simpa[cK] using hm
       simp_all
      simp_all
     .rename_i e' sz k e2 s2 xs zs sz' ys i sY hel hi;split at B
      .rename_i D;obtain⟨rfl,rfl,rfl,rfl,hpos,hby,hlen,hz,R,hall⟩:=D;injection B with B;subst B;have ho':o.op= .call { callee:= .builtin .append,args:= #[x,y],argTypes:= #[t,t] }:=by
        rw[F];obtain⟨cal,⟨as⟩,⟨ts⟩⟩:=c;simp only at hc G O;subst hc;subst G;subst O;rfl
       refine Sc H (V d' q) q ho' hs U hy sY hel hi hpos hby hlen hz ?_ hall I;simp only[gJ,gE] at R;rcases R with hm|hm
       .simp_all
       simp_all
      simp_all
     simp_all
    .rename_i e s id sy hs U hy;split at B
     .rename_i e' sz xs sz' ys i sY hel hi;split at B
      .rename_i D;obtain⟨rfl,rfl,rfl,rfl,hpos,hby,hlen,hz,R,hne⟩:=D;injection B with B;subst B;have ho':o.op= .call { callee:= .builtin .append,args:= #[x,y],argTypes:= #[t,t] }:=by
        rw[F];obtain⟨cal,⟨as⟩,⟨ts⟩⟩:=c;subst hc;subst G;subst O;rfl
       refine Sb H (V _ q) q ho' hs U hy sY hel hi hpos hby hlen hz ?_ hne I;simp[gJ,gE] at R;rcases R with hm|hm
       .simp_all
       simp_all
      simp_all
     simp_all
    simp_all
   simp_all
  .rename_i hc;split at B
   .rename_i x t q G O;split at B
    .rename_i e s id sz lo hi hs U;split at B
     .rename_i e' sz' xs z sY hz;split at B
      .rename_i D;injection B with B;subst B;exact Zg H q F hc G O hs U sY hz D I
      .cases B
     .cases B
    .exact Oq H q F hc G O B I
    .cases B
   .cases B
  .rename_i f hc;cases how:o.dst.any h.owns.contains with
   |true=>grind[L6]
   |false=>
   rw[how] at B;replace B:=KE B;cases hw:wide st c f with
   |true=>simp only[hw,ak] at B;grind[Br]
   |false=>
   cases href:c.args.toList.any (λx=>(pK h st x).isSome) with
   |true=>simp only[href,ak] at B;grind[L7]
   |false=>
   simp only[href] at B;split at B
   .rename_i st1 hp;split at B
    .split at B
     .rename_i r hr;cases Vq:(c.args.toList.any (lu st1)|| !r.jJ) with
      |true=>grind
      |false=>obtain⟨μ1,h1⟩:=Gl H hp;rw[gi] at Vq;grind[JB]
     simp_all
    simp_all
   simp_all
  simp_all
 simp_all
def sB:∀{l:List SV} {μ:Mu} {loc:Nat->Value} {st st':St} {a:Act} {w:World},Rel N w0 μ0 L μ loc st a w->pJ l st=some st'->∃B,μ.le B/\Rel N w0 μ0 L B loc st' a w
 |[],μ,loc,st,st',a,w,D,q=>by simp only[pJ,bq] at q;subst q;exact⟨μ,Mu.le.refl _,D⟩
 |s::l,μ,loc,st,st',a,w,D,q=>by
  unfold pJ at q;split at q
  .rename_i e;cases e
  .rename_i id V e;injection e with e1 F;subst e1;subst F;obtain⟨st1,R,S⟩:=dA.1 q;obtain⟨μ1,I,G⟩:=D.dy R;obtain⟨O,z,H⟩:=sB G S;exact⟨O,I.trans z,H⟩
  .rename_i s' V U e;injection e with e1 F;subst e1;subst F;exact sB D q
def T9 (z:Rel N w0 μ0 L μ loc st a w) (l:iz L.q μ0 P cB) {o:Oper} (B:∀i,o.dst=some i->i<N) (D:step0 P h cB o st=some st') (q:oS N w0 μ0 L st' K):o.wJ P a w K Q:=by grind[step0,Vm,Zi]
def BO:∀{l:List Nat} {st st':St} {μ:Mu} {loc:Nat->Value} {a:Act} {w:World},Rel N w0 μ0 L μ loc st a w->mW l st=some st'->∃q,μ.le q/\Rel N w0 μ0 L q loc st' a w
 |[],st,st',μ,loc,a,w,B,F=>by simp only[mW,bq] at F;subst F;exact⟨μ,Mu.le.refl _,B⟩
 |t::l,st,st',μ,loc,a,w,B,F=>by
  simp only[mW] at F;obtain⟨O,z,S⟩:=dA.1 F;obtain⟨U,I,G⟩:∃q,μ.le q/\Rel N w0 μ0 L q loc O a w:=by
   unfold qx at z;split at z
   .exact B.dy z
   .exact B.dy z
   .split at z
    .exact sB B z
    .cases z
   .injection z with z;subst z;exact⟨μ,Mu.le.refl _,B⟩
  obtain⟨R,D,H⟩:=BO G S;exact⟨R,I.trans D,H⟩
def K7 (G:Rel N w0 μ0 L μ loc st a w) (l:iz L.q μ0 P cB) {o:Oper} (H:∀i,o.dst=some i->i<N) (z:step P h cB o st=some st') (F:oS N w0 μ0 L st' K):o.wJ P a w K Q:=by unfold step at z;obtain⟨I,B,D⟩:=dA.1 z;obtain⟨O,_,q⟩:=BO G B;exact T9 q l H D F
theorem Ar (D:Rel N w0 μ0 L μ loc st a w) {l:Array Oper} {o:Oper} {b:Bool} (q:qq l o st=some b):Region.wanted o (yielded l a.tmps)=b:=by
 unfold qq at q;unfold Region.wanted;split at q
 .simp_all
 .split at q
  .rename_i d F;split at q
   .rename_i t B;obtain⟨v,G,z⟩:=D.env d _ B;simp_all[fW,rep,yielded]
   .rename_i B;obtain⟨v,G,z⟩:=D.env d _ B;have z:v=undef:=z;simp_all[yielded,undef]
   simp_all
  simp_all
theorem PU (B:iz L.q μ0 P cB) {I:Array Oper}:∀{l:List Oper} {st:St} {μ:Mu} {loc:Nat->Value} {a:Act} {w:World},Rel N w0 μ0 L μ loc st a w->(∀o∈l,∀i,o.dst=some i->i<N)->qW P h cB I l st=some st'->
  (∀U w' O z,Rel N w0 μ0 L O z st' U w'->Q .normal U w')->∀F,Wd F->wpListIn F 0 P I Q l a w:=by
 intro l;induction l with
 |nil=>intro st μ loc a w H _ q R F G;simp only[qW,bq] at q;subst q;exact R _ _ _ _ H
 |cons o l ih=>
  intro st μ loc a w H S q R F G;simp only[qW] at q;split at q
  .rename_i b hw;have D:=Ar H hw;unfold wpListIn;rw[D];cases b with
   |true=>simp only[ak] at q;simp only[ia];cases hs:step P h cB o st with
    |none=>simp[hs] at q
    |some st1=>simp[hs] at q;exact K7 H B (S o ai) hs (λU w' O z h1=>ih h1 (λp V=>S p (by simp[V])) q R F G) F G
   |false=>simp only[aA] at q;simp only[eG,gL];exact⟨λf _=>G.fn f,ih (H.set (S o ai) (show fW μ loc .undef undef from rfl)) (λp V=>S p (by simp[V])) q R F G⟩
  .cases q
end
