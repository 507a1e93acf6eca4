/- THE ABSTRACT MACHINE. -/
import Derived.Test.YthppjmoncapdfaaGreatDoorAmEff
set_option linter.all false
namespace Go.AM
open Go.RowKit
def HA (μ:Mu) (w:World):Prop:=∀b j v,μ b j=some v->ED w b j=some v
def jJ (q:Qp) (loc:Nat->Value) (names:List Nat):rV:=⟨λid=>if id∈names then some (loc id) else none,q⟩
def Vn (loc:Nat->Value) (cF:List (Nat×Ob)):Prop:=∀i j l q,find cF i=some l->find cF j=some q->i≠j->∀g,jw (loc i) g->¬jw (loc j) g
structure fR (q:Qp) (μ:Mu) (loc:Nat->Value) (names:List Nat) (r:AV) (z7:List (Nat×Ob)) (w:World) (v:Value) (μ':Mu) (loc':Nat->Value) (w':World):Prop where
 ext:μ.ext w.heap.size μ'
 uy:HA μ' w'
 res:rep μ' r v\/(∃n A m c,r= .self n/\10000∈names/\loc' 10000= .slice A m c/\n<=m/\v= .slice A n c)\/
  ∃e sz xs vs,r= .lR [.lR [.self e, .dK sz xs]]/\w'.ownsRow 0 e sz v xs.length vs/\c4 μ' sz xs vs/\∀g,bC v=some g->w.heap.size<=g/\(∀j,μ' g j=none)/\∀id o,find z7 id=some o->¬jw (loc' id) g
 obs:∀id o,find z7 id=some o->lU w.heap.size (jJ q loc names) μ' loc' w' id o
 apart:Vn loc' z7
 keep:∀b,b<w.heap.size->¬Lu (jJ q loc names) b->w'.heap[b]? =w.heap[b]?
 fix:∀id,id∈names->id<20000->loc' id=loc id
 os:w'.os=w.os
 tape:w'.tape=w.tape
 output:w'.output=w.output
 grown:w.heap.size<=w'.heap.size
 drawn:q->w.drawn<=w'.drawn
def fR.pure {q:Qp} {μ:Mu} {loc:Nat->Value} {names:List Nat} {r:AV} {l:List (Nat×Ob)} {w:World} {v:Value} {B:Mu} {z:Nat->Value} {w':World} (h:fR q μ loc names r l w v B z w') (D:r.kF=true):rep B r v:=by
 rcases h.res with h|⟨n,A,m,c,rfl,_⟩|⟨e,F,xs,G,rfl,_⟩<;>try cases D
 .exact h
def NC {r:AV} (h:r.plain=true):r.kF=true:=by cases r with
 |self n=>cases h
 |lR z=>
  have:z.any AV.aaM=false:=by rw[qL];intro x q l;have:=cz.1 (h) x q;cases x<;>simp[AV.aaM,AV.scalar] at l this
  simp[AV.kF,this]
 |_=>rfl
def HB (P:Program) (u:Value) (args:Array Value) (w:World) (R:Ending->World->Prop):Prop:=
 ∃(l:Nat) (f:FuncId) (z:Array Value) (q body:Code),u= .func (.yield l) #[] #[]/\(Instr.yield l args).run P w= .ok (.round l f z q body) w/\∀F,Wd F->RoundIn F (0-1) P l f z q body w R
def fQ (q:Qp) (B:Mu) (P:Program) (cI:dX):Prop:=∀g args cF r l,cI g args cF=some (r,l)->∀(w:World) (μ:Mu) (loc:Nat->Value) (F:List Value),B.le μ->HA μ w->
 (∀id o,find cF id=some o->lU w.heap.size (jJ q loc (cF.map (·.1))) μ loc w id o)->Vn loc cF->iF μ loc args F->
 (g<2000000/\(∀H,(callFunc g F.toArray).run P H= .ok (.enter g F.toArray) H)/\
  Calls P g F.toArray w λe G=>∃v D z,e= .returned v/\fR q μ loc (cF.map (·.1)) r l w v D z G)\/
 (2000000<=g/\(∃xs,find cF 10000=some (.lp xs))/\∃as v,F=as++[v]/\
  HB P (clV g [v]) as.toArray w λe G=>∃v D z,e= .returned v/\fR q μ loc (cF.map (·.1)) r l w v D z G)
def fQ.noY {A B C R:Prop} {cF:List (Nat×Ob)} {D:Prop} (h:(A/\B/\C)\/(D/\(∃xs,find cF 10000=some (.lp xs))/\R)) (l:∀xs,find cF 10000≠some (.lp xs)):B/\C:=by simp_all
def fQ.mono {q:Qp} {B D:Mu} {P:Program} {cI:dX} (h:fQ q B P cI) (F:B.le D):fQ q D P cI:=
 λg args cF r z G w μ loc H l=>h g _ _ r _ G w _ _ _ (F.trans l)
section
variable {P:Program} {N:Nat} {w0:World} {μ0:Mu} {L:rV} {μ:Mu} {loc:Nat->Value} {st st':St} {a:Act} {w:World} {Q:Exit->Act->World->Prop} {K:Act->World->Prop} {h:Hint} {cI:dX}
def E4 {l:Type} {c:Bool} {x:Option l} {v:l} (h:(bif c then none else x)=some v):x=some v:=by grind
def lz {l:Type} {j i:Nat} {x v:l} (q:find [(j,x)] i=some v):i=j:=by grind[find,beq_iff]
def uX (O:Rel N w0 μ0 L μ loc st a w) {q:Mu} (l:μ.le q):∀{z:List pY} {D:List AV} {B:List Value},jU st z=some D->j9 μ loc z B->
  (∀id,pY.r id∈z->∀b j x,jw (loc id) b->ED w b j=some x->q b j=some x)->cn q D B
 |[],D,B,h,k,_=>by simp[jU,aN] at h;subst h;assumption
 | .v a::z,D,B,h,⟨u,_,e,H,I⟩,G=>by subst e;simp[jU,bZ] at h;obtain⟨vs',U,rfl⟩:=h;exact bN (vj l _ _ H) (uX O l U I λid R=>G _ (by simp[R]))
 | .r _::z,D,B,h,⟨u,_,e,H,I⟩,G=>by
  subst e;simp[jU] at h;split at h
  .rename_i v vs' U V;injection h with h;subst h;obtain⟨ob,S,F⟩:=dM.1 U;refine bN ?_ (uX O l V I λid R=>G _ (by simp[R]));have e :=H;rw[e];exact Po (O.obs _ _ S) F l (λb j x hb hc=>G _ ah b j x hb hc)
  grind
 | .p _::z,D,B,h,_,_=>by simp[jU] at h
def Ur (O:Rel N w0 μ0 L μ loc st a w) {s:SV} {v:AV} {u:Value} (l:mh st s=some v) (I:gH μ loc s u) {F:Mu} (B:μ.le F)
  (z:∀id∈s.NU,∀b j x,jw (loc id) b->ED w b j=some x->F b j=some x):rep F v u:=by
 cases s with
 |pv x=>simp[mh,aN] at l;subst l;exact vj B _ _ I
 |row id=>obtain⟨ob,D,H⟩:=dM.1 l;have e :=I;rw[e];exact Po (O.obs _ _ D) H B (λb j x hb R=>z _ (by simp[SV.NU,SV.ids]) b j x hb R)
 |ag cs=>simp[mh,bZ] at l;obtain⟨vs,hv,rfl⟩:=l;obtain⟨us,rfl,R,h1⟩:=I;exact⟨us,rfl,uX O B hv R (λid hi=>z _ (fo.2 ⟨_,hi,rfl⟩)),h1⟩
 |aq id q=>cases q with
  |full=>simp[mh] at l
  |nr i=>
   simp[mh] at l;split at l
   .rename_i e sz k U s' xs ys D;split at l
    .rename_i zs hy;obtain⟨m,us,vs,S,hm,V,hrc,hk,h2,h3,h4,h5,h6,h7⟩:=O.obs _ _ D;obtain⟨u',cells,k1,k2,k3,k4,k5⟩:=h4 i _ hy;obtain⟨m',us',e1,_,G⟩:=I;rw[S] at e1;have U:=aK Array.toList (Value.tuple.inj e1);obtain⟨rfl,rfl⟩:=U;have hu:u'=u:=by
      rcases G _ k1 with G|G
      .subst G;rcases k3.2 with⟨e1,_⟩|⟨g,cap,cur,e1,_⟩<;>simp[undef] at e1
      .exact G
     grind[As,SV.NU,jP]
    simp_all
   simp_all
 |_=>simp[mh] at l
def z6 {id:Nat}:∀{l:List pY} {z:List AV},jU st l=some z->id∈(SV.ag l).ids->∃G,st.ob id=some G
 |[],_,_,h=>by simp[SV.ids] at h
 | .v a::l,z,h,q=>by simp[jU,bZ] at h;obtain⟨D,F,rfl⟩:=h;exact z6 F (by assumption)
 | .r j::l,z,h,q=>by
  simp[jU] at h;split at h
  .rename_i v D F B;simp only[SV.ids,CM,aG] at q;rcases q with rfl|q
   .grind[Option.bind_eq_some_iff]
   .exact z6 B (by assumption)
  grind
 | .p j::l,z,h,_=>by simp[jU] at h
def lend_ob {s:SV} {v:AV} (h:mh st s=some v) {id:Nat} (z:id∈s.NU):∃B,st.ob id=some B:=by cases s with
 |pv x=>simp[SV.NU,SV.ids] at z
 |row j=>simp only[SV.NU,SV.ids,bX] at z;subst z;obtain⟨B,l,_⟩:=dM.1 (h:(st.ob id).bind Ob.val=some v);exact⟨B,l⟩
 |ag F=>simp only[mh,bZ] at h;obtain⟨G,D,_⟩:=h;exact z6 D z
 |aq j q=>simp only[SV.NU,bX] at z;subst z;cases q with
  |full=>simp[mh] at h
  |nr i=>
   simp only[mh] at h;split at h
   .rename_i l;exact⟨_,l⟩
   .cases h
 |_=>simp[mh] at h
def BA (I:Rel N w0 μ0 L μ loc st a w) {q:Mu} (D:μ.le q) {xs:List Operand} {G:List TypeId} {H:List AV} (h:jx P st xs G=some H)
  (l:∀x∈xs,∀t s v,bz P t st x=some s->mh st s=some v->∀id∈s.NU,∀b j x,jw (loc id) b->ED w b j=some x->q b j=some x):cn q H (xs.map a.eval):=by
 induction xs generalizing G H with
 |nil=>simp[jx] at h;subst h;exact dg
 |cons x xs R=>
  simp only[jx] at h;split at h
  .rename_i v U z F;injection h with h;subst h;cases B:bz P (G.headD 0) st x with
   |none=>rw[B] at z;cases z
   |some S=>rw[B] at z;simp only[fK] at z;exact bN (Ur I z (aY I B) D (l x ah _ S _ B z)) (R F (λy O=>l y (by simp[O])))
  .cases h
def Yv {μ q:Mu} {r:AV} {v:Value} (h:r.plain=true) (k:rep μ r v):rep q r v:=by
 have z:∀(r:AV) (v:Value),r.scalar=true->rep μ r v->rep q r v:=λr v h k=>by cases r<;>simp[AV.scalar] at h<;>simpa[rep] using k
 cases r with
 |lR R=>rw[rep] at k⊢;obtain⟨F,e,l⟩:=k;refine⟨F,e,?_⟩;simp only[AV.plain] at h;clear e;induction R generalizing F with
  |nil=>simpa[cn] using l
  |cons x xs O=>rw[cn] at l;obtain⟨u,B,rfl,H,I⟩:=l;simp only[gP,aJ] at h;exact bN (z _ _ h.1 H) (O h.2 B I)
 |bool b=>exact z _ _ rfl k
 |int b n=>exact z _ _ rfl k
 |str s=>exact z _ _ rfl k
 |dK V xs=>simp[AV.plain,AV.scalar] at h
 |agg G=>simp[AV.plain,AV.scalar] at h
 |fn f D=>simp[AV.plain,AV.scalar] at h
 |ref G=>simp[AV.plain,AV.scalar] at h
 |mp U S=>simp[AV.plain,AV.scalar] at h
 |self n=>simp[AV.plain,AV.scalar] at h
 |DQ=>simp[AV.plain,AV.scalar] at h
 |qm=>simp[AV.plain,AV.scalar] at h
 |hole=>simp[AV.plain,AV.scalar] at h
def Dg {D:Mu} {B:Nat->Value} {r:AV} {l:List (Nat×Ob)} {u:Value} {F:World} {q:Qp} (z:fR q μ loc [] r l w u D B F):Below w.heap.size w F:=
 ⟨z.os,z.tape,z.output,z.grown,λb G=>z.keep b G (by rintro⟨id,v,h,_⟩;simp[jJ] at h)⟩
def Hv {o:Oper} {c:Call} {f:Operand} {g:Nat} {q l:List Value} {r:AV} {z7:List (Nat×Ob)} (O:o.op= .call c) (hc:c.callee= .value f) (hf:a.eval f= .func (.func g) #[] l.toArray)
  (G:c.args.toList.map a.eval=q) (he:∀S,(callFunc g (q++l).toArray).run P S= .ok (.enter g (q++l).toArray) S)
  {R:Value->World->Prop} (B:Calls P g (q++l).toArray w λe w'=>∃v,e= .returned v/\R v w') (V:∀v w',R v w'->K (a.put o.dst v) w'):o.uB P a w K Q:=by
 have z:c.args.map a.eval=q.toArray:=by rw[<-G,<-Array.toList_map]
 refine Kw (λc' D=>by rw[O] at D;cases D) (x:= .enter g (q++l).toArray) (w':=w) ?_ λF I=> ?_
 .unfold execOp;rw[O];simp only[resolve,hc,hf,Deferred.ofValue,invoke,fW,lg,gO,z];have e:(#[]++q.toArray)++l.toArray=(q++l).toArray:=ah;rw[e,he w]
 .refine⟨I.one,?_⟩;have H:CallsIn Fence.wide (0-1) P g (q++l).toArray w _:=oB.2 B;have U:CallsIn F (0-1) P g (q++l).toArray w (λe w'=>∃v,e= .returned v/\R v w'):=by
   have:=I;unfold Wd at this;rw[<-this] at H;exact H
  refine U.mono ?_;rintro e w' ⟨v,rfl,hr⟩;exact V v w' hr
def adC {o:Oper} {c:Call} {f:Operand} {g:Nat} {z q l:List Value} (S:o.op= .call c) (hc:c.callee= .value f) (hf:a.eval f= .func (.func g) z.toArray l.toArray)
  (H:c.args.toList.map a.eval=q) (he:∀U,(callFunc g (z++(q++l)).toArray).run P U= .ok (.enter g (z++(q++l)).toArray) U)
  {R:Value->World->Prop} (D:Calls P g (z++(q++l)).toArray w λe w'=>∃v,e= .returned v/\R v w') (hK:∀v w',R v w'->K (a.put o.dst v) w'):o.uB P a w K Q:=by
 have B:c.args.map a.eval=q.toArray:=by rw[<-H,<-Array.toList_map]
 refine Kw (λc' G=>by rw[S] at G;cases G) (x:= .enter g (z++(q++l)).toArray) (w':=w) ?_ λF O=> ?_
 .unfold execOp;rw[S];simp only[resolve,hc,hf,Deferred.ofValue,invoke,fW,lg,gO,B];have e:(z.toArray++q.toArray)++l.toArray=(z++(q++l)).toArray:=ah;rw[e,he w]
 .refine⟨O.one,?_⟩;have I:CallsIn Fence.wide (0-1) P g (z++(q++l)).toArray w _:=oB.2 D;have V:CallsIn F (0-1) P g (z++(q++l)).toArray w (λe w'=>∃v,e= .returned v/\R v w'):=by
   have:=O;unfold Wd at this;rw[<-this] at I;exact I
  refine V.mono ?_;rintro e w' ⟨v,rfl,hr⟩;exact hK v w' hr
def HB.mono {u:Value} {args:Array Value} {R z:Ending->World->Prop} (h:HB P u args w R) (S:∀e D,R e D->z e D):HB P u args w z:=by obtain⟨l,f,B,q,body,G,H,I⟩:=h;exact⟨l,f,_,_,_,G,H,λF O=>(I F O).mono S⟩
def adD {o:Oper} {c:Call} {f:Operand} (ho:o.op= .call c) (U:c.callee= .value f) {R:Value->World->Prop}
  (I:HB P (a.eval f) (c.args.toList.map a.eval).toArray w λe w'=>∃v,e= .returned v/\R v w') (S:∀v w',R v w'->K (a.put o.dst v) w'):o.uB P a w K Q:=by
 obtain⟨l,g,B,q,body,V,H,z⟩:=I;have D:c.args.map a.eval=(c.args.toList.map a.eval).toArray:=by grind
 refine Kw (λc' O=>by simp_all) (x:= .round l g B q body) (w':=w) ?_ λF G=> ?_
 .simp_all[execOp,resolve,Deferred.ofValue,invoke]
 .refine⟨G.one,(z F G).mono ?_⟩;simp_all
def Iv (z:Rel N w0 μ0 L μ loc st a w) {f:Operand} {g:Nat} {l:List AV} (h:bz P 0 st f=some (.pv (.fn g l))):∃q:List Value,a.eval f= .func (.func g) #[] q.toArray/\cn μ l q:=by have:=aY z h;assumption
theorem RY {x:Operand} (h:kK st x=false) {t:TypeId} {s:SV} {v:AV} (e:bz P t st x=some s) (l:mh st s=some v):s.NU=[]:=by cases x with
 |tmp i=>simp[bz] at e;cases s with
  |pv x=>rfl
  |row j=>simp[kK,e] at h
  |ag z=>simp[kK,e] at h
  |aq j q=>simp[kK,e] at h
  |_=>simp[mh] at l
 |const v=>simp[bz] at e;cases B:ofConst P t v<;>simp_all;subst e;rfl
 |func f=>simp[bz] at e;subst e;rfl
 |global g=>simp[bz] at e
theorem HY (F:Rel N w0 μ0 L μ loc st a w) (z:fQ L.q μ0 P cI) {o:Oper} {c:Call} {f:Operand} {g:Nat} {I vs:List AV} {r:AV} (hd:∀i,o.dst=some i->i<N) (ho:o.op= .call c) (hc:c.callee= .value f)
  (hf:bz P 0 st f=some (.pv (.fn g I))) (hvs:jx P st c.args.toList c.argTypes.toList=some vs) (hr:cI g ((vs++I).map .pv) []=some (r,[]))
  (hp:(r.plain|| !(c.args.toList.any (kK st)))=true) (VU:r.kF=true) (hK:mM N w0 μ0 L (st.set o.dst (.pv r)) K):o.uB P a w K Q:=by
 obtain⟨cs,X7,hcs⟩:=Iv F hf;cases MQ:c.args.toList.any (kK st) with
 |false=>
  have q:=BA F (Mu.le.refl _) hvs (λx hx t s v e hl id V=>by grind[RY]);obtain⟨he,hC⟩:=fQ.noY (z g _ _ r _ hr w _ loc _ F.base.1 F.uy (by simp[find]) (by intro i j oi oj V;simp[find] at V) (rH (nJ q hcs))) λxs=>by simp[find]
  refine Hv (R:=λv w'=>∃B l,fR L.q μ loc [] r [] w v B l w') (r:=r) (z7:=[]) ho hc X7 rfl he (hC.mono ?_) ?_
  .simp
  .rintro v w' ⟨B,l,G⟩;exact hK _ _ _ _ ((F.grow G.ext G.uy (Dg G) G.drawn).set hd (G.pure VU))
 |true=>
  have H :=by simpa[MQ] using hp
  let FU :=λb=>∃id ob,st.ob id=some ob/\jw (loc id) b
  have:∀b,Decidable (FU b):=λb=>Classical.propDecidable _
  let D :=λb j=>if FU b then ED w b j else μ b j
  have R:μ.le D:=λb j v hv=>by
   by_cases hb:FU b
   .obtain⟨id,ob,S,X5⟩:=hb;have:=((F.obs _ _ S).block b X5).2.2 j;simp_all
   grind
  have U:HA D w:=λb j v hv=>by
   by_cases hb:FU b
   .simpa[D,hb] using hv
   .exact F.uy b j v (by grind)
  have q:=BA F R hvs (λx hx t s v e hl id V b j u hb O=>by
   obtain⟨ob,S⟩:=lend_ob hl V;have hrow:FU b:=⟨id,ob,S,hb⟩
   simpa[D,hrow] using O)
  obtain⟨he,hC⟩:=fQ.noY (z g _ _ r _ hr w _ loc _ (F.base.1.trans R) U (by simp[find]) (by intro i j oi oj V;simp[find] at V) (rH (nJ q (fE R _ _ hcs)))) λxs=>by simp[find]
  refine Hv (R:=λv w'=>∃B l,fR L.q D loc [] r [] w v B l w') (r:=r) (z7:=[]) ho hc X7 rfl he (hC.mono ?_) ?_
  .simp
  .rintro v w' ⟨B,l,G⟩;exact hK _ _ _ _ ((F.QE (Dg G) G.drawn).set hd (Yv H (G.pure VU)))
def Dq (G:Rel N w0 μ0 L μ loc st a w) {xs:List Operand} {D:List AV} (h:tE st xs=some D):cn μ D (xs.map a.eval):=by induction xs generalizing D with
 |nil=>simp_all[tE,dg]
 |cons x xs I=>cases x with
  |tmp i=>
   simp[tE] at h;split at h
   .rename_i v F B l;injection h with h;subst h;obtain⟨u,z,q⟩:=G.env i _ B
    have:a.eval (.tmp i)=u:=by simp[Act.eval,z]
    exact bN (by rw[this];exact q) (I l)
   .rename_i U F B l;injection h with h;subst h;obtain⟨u,z,q⟩:=G.env i _ B
    have:a.eval (.tmp i)=u:=by simp[Act.eval,z]
    obtain⟨b,R,S,e,H,O⟩:=q;exact bN (by rw[this];exact⟨b,_,S,e,H.1,H.2,O⟩) (I l)
   grind
  |_=>simp[tE] at h
def Dp (G:Rel N w0 μ0 L μ loc st a w) {xs:List Operand} {F:List pY} (h:qi st xs=some F):j9 μ loc F (xs.map a.eval):=by induction xs generalizing F with
 |nil=>simp[qi] at h;subst h;rfl
 |cons x xs H=>cases x with
  |tmp i=>
   simp[qi] at h;split at h
   .rename_i v D B l;injection h with h;subst h;obtain⟨u,z,q⟩:=G.env i _ B
    have:a.eval (.tmp i)=u:=by simp[Act.eval,z]
    exact⟨_,_,rfl,by rw[this];exact q,H l⟩
   .rename_i O D B l;injection h with h;subst h;obtain⟨u,z,q⟩:=G.env i _ B
    have:a.eval (.tmp i)=u:=by simp[Act.eval,z]
    obtain⟨b,U,V,e,I,S⟩:=q;refine⟨_,_,rfl,?_,H l⟩;rw[this];exact⟨b,_,V,e,I.1,I.2,S⟩
   .rename_i id D B l;injection h with h;subst h;obtain⟨u,z,q⟩:=G.env i _ B
    have:a.eval (.tmp i)=u:=by simp[Act.eval,z]
    obtain⟨b,R,h2⟩:=q;exact⟨_,_,rfl,⟨b,R,by simp_all⟩,H l⟩
   grind
  |_=>simp[qi] at h
def Mx (G:Rel N w0 μ0 L μ loc st a w) {o:Oper} {g:Nat} {first l:Array Operand} {d:Nat} {I:List AV} (hd:d<N) (z:o.dst=some d) (R:o.op= .makeFunc (.func g) first l) (F:first.isEmpty=true)
  (S:vR st l.toList=some st') (B:tE st' l.toList=some I) (V:mM N w0 μ0 L (st'.set (some d) (.pv (.fn g I))) K):o.uB P a w K Q:=by
 obtain⟨U,O,q⟩:=KP G G S;have H:=Dq q B;have D :=by simpa using F
 refine oy q (λi hi=>by simp_all) ⟨.func (.func g) #[] (l.toList.map a.eval).toArray,?_,?_⟩ (by rw[z];omega)
 .unfold execOp;rw[R,D];have e:l.map a.eval=(l.toList.map a.eval).toArray:=by grind
  simp[Instr.makeFunc,e]
 .show rep _ _ _;rw[rep];simp_all
theorem D0 (q:Rel N w0 μ0 L μ loc st a w) {xs:List Operand} (h:mD.gZ st xs=some st'):∃l,Rel N w0 μ0 L l loc st' a w:=by induction xs generalizing st μ with
 |nil=>grind[mD.gZ]
 |cons x xs H=>cases x with
  |tmp i=>
   simp[mD.gZ] at h;split at h
   .rename_i id G;cases z:st.dL id with
    |none=>simp_all
    |some B=>obtain⟨D,_,F⟩:=q.dL z;grind
   grind
  |_=>grind[mD.gZ]
def E7 (q:Rel N w0 μ0 L μ loc st a w) {xs:List Operand} (h:mD.jj st xs=some st'):∃l,Rel N w0 μ0 L l loc st' a w:=by grind[mD.jj,D0]
def Rel.addOb (l:Rel N w0 μ0 L μ loc st a w) {id:Nat} {o:Ob} (O:st.ob id=none) (R:lU w0.heap.size L μ loc w id o)
  (z:∀j G,st.ob j=some G->∀g,jw (loc id) g->¬jw (loc j) g):Rel N w0 μ0 L μ loc { st with ob:=put st.ob id (some o) } a w:=by
 refine⟨l.small,l.names,l.fix,l.size,l.defers,l.env,l.uy,l.base,?_,?_,l.keep,l.os,l.tape,l.output,l.grown,l.drawn⟩
 .intro i F q;by_cases e:id=i
  .subst e;simp only[cu,aN] at q;subst q;exact R
  .exact l.obs i F (by simpa only[bu _ _ e] using q)
 .intro i j F G q D B g H;by_cases S:id=i
  .subst S;simp only[bu _ _ B] at D;exact z j G D g H
  .simp only[bu _ _ S] at q;by_cases U:id=j
   .subst U;intro I;exact z i F q g I H
   .simp only[bu _ _ U] at D;exact l.apart i j F G q D B g H
def KO (O:Rel N w0 μ0 L μ loc st a w) {GG:Nat->Value}:∀{xs:List Operand} {H:List TypeId} {F:List SV} {ids:List Nat},A6 P h st xs H=some (F,ids)->(∀id∈ids,GG 10000=loc id)->iF μ GG F (xs.map a.eval):=by intro xs;induction xs with
 |nil=>intro H F ids z _;simp only[A6,aN,bB] at z;obtain⟨rfl,rfl⟩:=z;rfl
 |cons x xs S=>
  intro H F ids z B;simp only[A6] at z;split at z
  .rename_i id I D l q;simp only[aN,bB] at z;obtain⟨rfl,rfl⟩:=z;refine⟨_,_,rfl,?_,S q (λi V=>B i (by simp[V]))⟩;show a.eval x=fH (GG 10000);rw[B id ah];cases x with
   |tmp t=>simp only[ou] at l;cases R:h.jT.contains t with
    |false=>rw[R] at l;cases l
    |true=>
     simp only[R,ai] at l;split at l
     .rename_i id' U;injection l with l;subst l;obtain⟨v,z,hr⟩:=O.env t _ U
      have:a.eval (.tmp t)=v:=by simp[Act.eval,z]
      rw[this];exact hr
     .cases l
   |_=>simp[ou] at l
  .rename_i I D l q;split at z
   .rename_i v G;simp only[aN,bB] at z;obtain⟨rfl,rfl⟩:=z;exact⟨_,_,rfl,fu O G,S q B⟩
   .cases z
  .cases z
theorem KB (S:Rel N w0 μ0 L μ loc st a w) (y6:fQ L.q μ0 P cI) {o:Oper} {c:Call} {f:Operand} {st1:St} (hd:∀i,o.dst=some i->i<N) (ho:o.op= .call c) (hc:c.callee= .value f)
  (G:oU P h cI st c f o.dst=some st1) (hK:mM N w0 μ0 L st1 K):o.uB P a w K Q:=by
 unfold oU at G;split at G
 .rename_i g caps vs id hf hvs;split at G
  .rename_i e sz xs sg;split at G
   .rename_i r' nm z B l hr;cases hb:(Nat.beq e z&&Nat.beq sz B&&Nat.beq nm 10000) with
    |false=>simp[hb] at G
    |true=>
     simp only[hb,ai] at G;simp only[aJ] at hb;obtain⟨cs,X7,hcs⟩:=Iv S hf;let GG:Nat->Value:=λ_=>loc id
     have hok:=S.obs id _ sg;have hargs:=KO S (GG:=GG) hvs (λi hi=>by simp at hi;subst hi;rfl);have aax:∀i oi,find [(10000,Ob.row e sz xs)] i=some oi->lU w.heap.size (jJ L.q GG ([(10000,Ob.row e sz xs)].map (·.1))) μ GG w i oi:=by intro i oi hi;simp only[find] at hi;cases U:Nat.beq 10000 i with
      |false=>simp[U] at hi
      |true=>simp only[U,ai,aN] at hi;subst hi;have:=beq_iff.1 U;subst this;obtain⟨us,I,hrc,hm⟩:=hok;refine⟨us,I,hrc,λq R=>⟨.inr ⟨loc id,by simp[jJ,GG],R⟩,(hm q R).2⟩⟩
     obtain⟨he,hC⟩:=fQ.noY (y6 g _ _ r' _ hr w μ GG (c.args.toList.map a.eval++cs) S.base.1 S.uy aax (by
      intro i j oi oj hi hj hij;have h1:=lz hi;have h2:=lz hj
      omega) (pq hargs (rH hcs))) λxs h=>by simp[find] at h
     refine Hv (R:=λv w'=>∃μ' F,fR L.q μ GG ([(10000,Ob.row e sz xs)].map (·.1)) r' [(nm,Ob.row z B l)] w v μ' F w') (r:=r') (z7:=[]) ho hc X7 rfl he (hC.mono ?_) ?_
     .rintro e w' ⟨v,μ',F,rfl,H⟩;exact⟨v,rfl,μ',F,H⟩
     .rintro v w' ⟨μ',F,H⟩;have hlb:∀b,Lu (jJ L.q GG ([(10000,Ob.row e sz xs)].map (·.1))) b->jw (loc id) b:=by
       rintro b ⟨i,x,D,X6⟩;simp only[jJ] at D;split at D
       .injection D with D;subst D;exact X6
       .cases D
      have h1:=(S.drop id).world (w':=w') (μ':=μ') H.ext.1 (λb j x D=>by
        rcases H.ext.2 b j x D with D|D
        .exact .inl D
        .exact .inr (dB S.grown D)) H.uy (λk ok hk b hbk=>by
        by_cases z:id=k
        .subst z;simp[cu] at hk
        .simp only[bu _ _ z] at hk;obtain⟨_,hlt,xD⟩:=(S.obs k ok hk).block b hbk;refine⟨H.keep b hlt (λhl=>S.apart id k _ ok sg hk z b (hlb b hl) hbk),λj=> ?_⟩;cases hj:μ' b j with
         |none=>rfl
         |some x=>
          rcases H.ext.2 b j x hj with D|D
          .rw[xD j] at D;cases D
          .omega) (λb U hl=>H.keep b (eO U S.grown) (λhl'=>by
        have hbb:=hlb b hl';rcases(hok.block b hbb).1 with D|⟨x,D,X6⟩
        .omega
        .exact hl ⟨id,x,D,X6⟩)) H.os H.tape H.output H.grown H.drawn
      have hnm:F nm=loc id:=by have:=beq_iff.1 hb.2;exact H.fix nm (by simp[this]) af
      obtain⟨us,I,hrc,hm⟩:=H.obs nm (.row z B l) (by simp[find,fZ]);rw[hnm] at I hm;split at G
      .rename_i n;cases V:(Nat.ble n l.length&&iI id) with
       |false=>rw[V] at G;cases G
       |true=>
       simp only[V,ai,aN] at G;subst G;simp only[aJ] at V;have hnl:n<=l.length:=dw V.1;obtain⟨A,m,cp,O,hnm',hvv⟩:∃A m cp,F 10000= .slice A m cp/\n<=m/\v= .slice A n cp:=by
        rcases H.res with D|⟨n',A,m,cp,e1,_,h1,h2,h3⟩|⟨_,_,_,_,e1,_⟩
        .rw[rep] at D;exact D.elim
        .injection e1 with e1;subst e1;exact⟨A,m,cp,h1,h2,h3⟩
        .cases e1
       have e10:=beq_iff.1 hb.2;rw[e10] at hnm;rw[hnm] at O;have hid:id<10000\/20000<=id:=by
        have IC:=V.2;simp only[iI,fq] at IC;rcases IC with hm|hm
        .left;simpa[cD] using hm
        .right;exact dw (aJ _ _▸hm).1
       have hblk:∀q,jw v q↔jw (loc id) q:=λq=>by rw[hvv,O,ia,ia];cases A<;>rfl
       have h2:=h1.new (id:=id) (val:=v) (o:= .row z B (l.take n)) hid ?_ (λj oj hj hne q R=>by
        simp only[bu _ _ (cO hne)] at hj
        exact S.apart id j _ oj sg hj (cO hne) q ((hblk q).1 R))
       .have heq:(St.new { env:=st.env,ob:=put st.ob id none } id (.row z B (l.take n)))=st.new id (.row z B (l.take n)):=by
         simp only[St.new,St.dG];congr 1;funext k;by_cases z:id=k
         .subst z;simp[cu]
         .simp only[bu _ _ z]
        rw[heq] at h2;exact hK _ _ _ _ (h2.set hd (sv:= .row id) (Jw (by rw[hvv];rfl)))
       .have hlen:(l.take n).length=n:=aF;have Ya:=sP hrc n;refine⟨us.take (n *B),⟨by rw[dm Ya],?_⟩,Ya,λq R=> ?_⟩
        .rw[cv,hlen,hvv];rcases I.2 with⟨e1,e2⟩|⟨q,cap,cur,e1,k1,k2,k3,k4,k5,k6⟩
         .rw[O] at e1;simp only[Value.slice.injEq] at e1;obtain⟨rfl,rfl,rfl⟩:=e1
          have:n=0:=af
          subst this;exact .inl ⟨rfl,rfl⟩
         .rw[O] at e1;simp only[Value.slice.injEq] at e1;obtain⟨rfl,rfl,rfl⟩:=e1;refine .inr ⟨q,cp,cur,rfl,k1,k2,by omega,k4,k5,?_⟩;rw[<-k6,List.take_take,zJ (jB _ hnl)]
        .rw[cv,hblk q] at R;exact⟨(hok.block q R).1,(hm q R).2⟩
      .rename_i VU;cases QG:r'.plain with
       |false=>rw[QG] at G;cases G
       |true=>
       simp only[QG,ai,aN] at G;subst G;have GF:lU w0.heap.size L μ' loc w' id (.row z B l):=⟨us,I,hrc,λq R=>⟨(hok.block q R).1,(hm q R).2⟩⟩
       have h2:=h1.addOb (id:=id) (o:= .row z B l) (by simp[cu]) GF (λj oj hj q R=>by
        by_cases z:id=j
        .subst z;simp[cu] at hj
        .simp only[bu _ _ z] at hj
         exact S.apart id j _ oj sg hj z q R)
       have heq:({ env:=st.env,ob:=put (put st.ob id none) id (some (.row z B l)) }:St)={ env:=st.env,ob:=put st.ob id (some (.row z B l)) }:=by
        congr 1;funext k;by_cases z:id=k
        .subst z;simp[cu]
        .simp only[bu _ _ z]
       rw[heq] at h2;exact hK _ _ _ _ (h2.set hd (H.pure (NC QG)))
   .cases G
  .cases G
 .cases G
def Qw {n0:Nat} {nst:List (Nat×Nat×TypeId×Nat)} {id:Nat} {e:TypeId} {sz:Nat} {loc:Nat->Value}:∃val,fH val= .slice none 0 0/\(∀g,¬jw val g)/\lU n0 L μ (rQ loc id val) w id (DF nst id e sz):=by
 have r:∃val,fH val= .slice none 0 0/\(∀g,¬jw val g)/\lU n0 L μ (rQ loc id val) w id (.row e sz []):=
  ⟨.slice none 0 0,rfl,λg l=>by simp[jw,bC] at l,[],⟨ah, .inl ⟨cv _ _ _,rfl⟩⟩,rfl,λg l=>by rw[cv] at l;simp[jw,bC] at l⟩
 unfold DF;split
 .rename_i k F G _;cases z:Nat.blt k sz with
  |false=>exact r
  |true=>
   refine⟨.tuple (.slice none 0 0::([]:List Value)).toArray,rfl,λg l=> ?_, .slice none 0 0,[],[],cv _ _ _,λq B=>(by simp[bC] at B),⟨ah, .inl ⟨rfl,rfl⟩⟩,rfl,⟨cD.mp z,ah⟩,rfl,rfl,by simp,by simp,by simp,ah⟩;rcases jP.1 l with h|⟨u,D,_⟩
   .simp[bC] at h
   .simp at D
 .exact r
def sH (S:Rel N w0 μ0 L μ loc st a w) {nst:List (Nat×Nat×TypeId×Nat)}:∀(l:List (Nat×TypeId×Nat)) (st:St) (loc:Nat->Value),Rel N w0 μ0 L μ loc st a w->(∀x∈l,x.1<10000)->
  ∃q,Rel N w0 μ0 L μ q (uv nst l st) a w/\(∀x∈l,fH (q x.1)= .slice none 0 0)/\∀i,fH (loc i)= .slice none 0 0->fH (q i)= .slice none 0 0
 |[],st,loc,h,_=>⟨loc,h,by simp,λ_ h=>h⟩
 |(id,e,s)::l,st,loc,h,H=>by
  obtain⟨val,G,B,D⟩:=Qw (L:=L) (μ:=μ) (w:=w) (n0:=w0.heap.size) (nst:=nst) (id:=id) (e:=e) (sz:=s) (loc:=loc);have I:=h.new (id:=id) (val:=val) (o:=DF nst id e s) (.inl (H (id,e,s) ah)) D (λj oj hj _ g U=>absurd U (B g));obtain⟨q,O,R,F⟩:=sH S l _ _ I (λx z=>H x (by simp[z]));refine⟨q,O,λx z=> ?_,λi V=>F i ?_⟩
  .rcases aG.1 z with rfl|z
   .exact F _ (by rw[cv];exact G)
   .exact R x z
  .by_cases e:i=id
   .subst e;rw[cv];exact G
   .rw[cG _ _ e];exact V
def wh {d:Nat}:∀(j:Nat) (U:List TypeId) (H:List Value) (z:List SV) (l:List (Nat×TypeId×Nat)),uq P d j U H=some (z,l)->
  (∀x∈l,x.1<10000)/\(∀u∈H,u.oneCell'=true)/\∀(loc:Nat->Value),(∀x∈l,fH (loc x.1)= .slice none 0 0)->iF μ loc z H
 |j,[],[],z,l,q=>by simp only[uq,aN,bB] at q;obtain⟨rfl,rfl⟩:=q;exact⟨ah,by simp,λ_ _=>rfl⟩
 |j,[],_::_,z,l,q=>by simp[uq] at q
 |j,_::_,[],z,l,q=>by simp[uq] at q
 |j,t::U,v::H,z,l,q=>by
  simp only[uq] at q;split at q
  .rename_i G l' B;obtain⟨V,i2,i3⟩:=wh (j+1) U H G l' B;split at q
   .rename_i e s hs;cases I:(Nat.blt 0 s&&Nat.blt (5000+16 *d+j) 10000) with
    |false=>rw[I] at q;cases q
    |true=>
     simp only[I,ai,aN,bB] at q;obtain⟨rfl,rfl⟩:=q;simp only[aJ] at I;have S:5000+16 *d+j<10000:=by have:=I.2;simpa[cD] using this
     refine⟨λx F=> ?_,λu D=> ?_,λloc R=> ?_⟩
     .rcases aG.1 F with rfl|F
      .exact S
      .exact V x F
     .rcases aG.1 D with rfl|D
      .rfl
      .exact i2 u D
     .exact⟨_,_,rfl,(by show _=fH (loc _);rw[R (5000+16 *d+j,e,s) ah]),i3 loc (λx F=>R x (by simp[F]))⟩
   .simp only[bZ,bB] at q;obtain⟨av,O,rfl,rfl⟩:=q;have hr:=vQ (μ:=μ) O;refine⟨V,λu D=> ?_,λloc R=>⟨_,_,rfl,hr,i3 loc R⟩⟩;rcases aG.1 D with rfl|D
    .unfold ofConst at O;split at O<;>first|rfl|cases O
    .exact i2 u D
  .cases q
def KE (G:Rel N w0 μ0 L μ loc st a w) {o:Oper} {d:Nat} {t:TypeId} {B:List SV} {l:List (Nat×TypeId×Nat)} (hd:d<N) (z:o.dst=some d) (ho:o.op= .alloc t)
  (hz:((AS P t).bind λI=>uq P d 0 (vD P 8 t) I)=some (B,l)) (V:mM N w0 μ0 L (((uv h.nest l st).new d (.box t (B.map (SV.dG d)))).set (some d) (.ptr d 0)) K):o.uB P a w K Q:=by
 obtain⟨I,q,F⟩:=dM.1 hz;unfold AS at q;split at q
 .simp at q;obtain⟨v,hzv,rfl⟩:=q;obtain⟨O,R,S⟩:=wh 0 _ _ _ _ F;obtain⟨H,D,U,_⟩:=sH G l _ _ G O;refine Du D hd z ?_ (Aq _ _ (S _ U)) R V;simp_all[execOp,Instr.alloc,zeroValue,typeInfo,newVar,newRow]
 simp_all
def NB (D:Rel N w0 μ0 L μ loc st a w) {s:SV} {l:List SV} {u:Value} (h:UN st s=some l) (k:gH μ loc s u):iF μ loc l u.cells.toList/\∀x∈u.cells.toList,x.oneCell'=true:=by
 unfold UN at h;split at h
 .injection h with h;subst h;obtain⟨F,rfl,B,q⟩:=k;simp_all[Value.cells,rH]
 .cases z:rB st s with
  |false=>simp_all
  |true=>rw[z] at h;simp at h;subst h;obtain⟨B,q⟩:=UK D z k;rw[q];exact⟨⟨_,[],rfl,k,rfl⟩,by simp_all⟩
def FN (U:Rel N w0 μ0 L μ loc st a w) {place:Nat->Option (Nat×Nat)} {ty:Nat->TypeId}:∀{q:List (Nat×Operand)} {S:List (Nat×List SV)} {cells O:List SV} {I:List Value},DV P ty st q=some S->Qn place cells S=some O->iF μ loc cells I->(∀u∈I,u.oneCell'=true)->
  ∃ws:List Value,Instr.fill place I.toArray (q.map λp=>(p.1,a.eval p.2))=some ws.toArray/\iF μ loc O ws/\∀u∈ws,u.oneCell'=true
 |[],S,cells,O,I=>λG H R h4=>by simp_all[DV,Qn,Instr.fill]
 |(i,x)::q,S,cells,O,I=>λG H R h4=>by
  simp[DV] at G;split at G
  .rename_i l rest hx D;injection G with G;subst G;obtain⟨sx,V,hl⟩:=dM.1 hx;obtain⟨hc,hone⟩:=NB U hl (aY U V);simp only[Qn] at H;split at H
   .cases H
   .rename_i F size QG;split at H
    .rename_i z;have hlen :=by
      have:=pz hc;simpa[z.1] using this
     have hvl:=pz R;have B:=pq (pq (Cs R F) hc) (Cr R (F+size));obtain⟨ws,hw,hr,ho⟩:=FN U D H B (λu hu=>by grind);simp[aS,Instr.fill];have hsp:=Gm I (a.eval x).cells.toList F 0 aF;grind[Array.toList_zipIdx]
    simp_all
  simp_all
def Bt:∀{D:List SV} {l:List pY} {B:List Value},Dm st D=some l->iF μ loc D B->j9 μ loc l B
 |[],l,B=>λh k=>by simp[Dm,aN] at h;subst h;exact k
 |s::D,l,B=>λh ⟨u,O,e,F,I⟩=>by
  simp[Dm] at h;split at h
  .rename_i c G q z;injection h with h;subst h;refine⟨u,O,e,?_,Bt z I⟩;unfold capOf at q;cases H:rB st s with
   |false=>simp_all
   |true=>
    rw[H] at q;split at q
    .injection q with q;subst q;exact F
    .injection q with q;subst q;exact F
    simp_all
  grind
def KG (V:Rel N w0 μ0 L μ loc st a w) {hh:Hint} {o:Oper} {d:Nat} {t:TypeId} {q:Array (Nat×Operand)} (hd:d<N) (F:o.dst=some d) (ho:o.op= .build t q) (h:EI P hh st d t q.toList=some st') (hK:mM N w0 μ0 L st' K):o.uB P a w K Q:=by
 unfold EI at h;split at h
 .rename_i U svs l hu hz;cases G:U.toList.all (λf=>(kN P f.type).isSome) with
  |false=>simp_all
  |true=>
   rw[G] at h;simp only[ai] at h;split at h
   .rename_i ps R;split at h
    .rename_i cs O;injection h with h;subst h;obtain⟨sv2,hf,I⟩:=dM.1 O;obtain⟨vs,z,B⟩:=dM.1 hz;unfold AS at z;split at z
     .rename_i i hi;simp only[bZ] at z;obtain⟨v,hzv,rfl⟩:=z;obtain⟨h1,h2,h3⟩:=wh 0 _ _ _ _ B;obtain⟨loc',D,h4,_⟩:=sH V l _ _ V h1;obtain⟨ws,hw,hr,H⟩:=FN D R hf (h3 _ h4) h2;refine gI (v:= .agg ws.toArray) (w':=w) ?_ ?_
      .obtain⟨S⟩:=U;have QG:=run_places (w:=w) _ G;have hpe:(λx=>Option.map (λf:Field=>(f.offset,(kN P f.type).getD 0)) S[x]?)=ow P t:=by
        funext x;simp[ow,vH,hu,Fy];cases hx:S[x]? with
        |none=>rfl
        |some fd=>grind[Option.isSome_iff_exists]
       simp_all[execOp,Instr.build,zeroValue,typeInfo,bJ]
      .rw[F];exact hK _ _ _ _ (D.set (λi hi=>by simp_all) ⟨ws,rfl,Bt I hr,H⟩)
     simp_all
    grind
   grind
 grind
def uR:∀{l:List Nat},distinct l=true->l.Nodup
 |[],_=>List.nodup_nil
 |x::l,h=>by simp[distinct,aJ] at h;refine fA.2 ⟨λq=> ?_,uR h.2⟩;simp_all
def uC {q:Type}:∀{l:List (Nat×q)} {i:Nat} {v:q},find l i=some v->(i,v)∈l
 |[],_,_,h=>by simp[find] at h
 |(j,u)::l,i,v,h=>by simp[find] at h;cases z:Nat.beq j i with
  |true=>simp_all
  |false=>simp[z] at h;exact eo _ (uC h)
def Lh {z:Type}:∀{l:List (Nat×z)} {i:Nat},find l i=none->i∉l.map (·.1)
 |[],_,_=>by simp
 |(j,u)::l,i,h=>by simp[find] at h;cases q:Nat.beq j i with
  |true=>simp_all
  |false=>simp[q] at h;simp only[aS,aG,jW];exact⟨λe=>by simp_all,Lh h⟩
def oZ {z:Type}:∀{l:List (Nat×z)} {i:Nat} {v:z},(l.map (·.1)).Nodup->(i,v)∈l->find l i=some v
 |[],_,_,_,h=>by simp at h
 |(j,u)::l,i,v,q,h=>by
  simp at q;simp[find];rcases aG.1 h with h|h
  .simp_all
  .have:j≠i:=λe=>by simp_all
   rw[Zu this];exact oZ q.2 h
def tf (q:Nat->Bool):∀(k:Nat) (l:List Nat),(jK q k l).map (·.1)=l
 |_,[]=>rfl
 |k,id::l=>by simp[jK,tf _ _ l]
def wA (q:Nat->Bool):∀(k:Nat) (l:List Nat),k+l.length<=10000->∀p∈jK q k l,(q p.1=true->20000+k<=p.2)/\(q p.1=false->10000+k<=p.2/\p.2<20000)
 |_,[],_,p,h=>by simp[jK] at h
 |k,id::l,z,p,h=>by
  simp only[bg] at z;simp only[jK,aG] at h;rcases h with rfl|h
  .cases B:q id<;>simp[B]<;>omega
  .have:=wA q (k+1) l af p h;exact⟨λe=>by have:=this.1 e;omega,λe=>by have:=this.2 e;omega⟩
def wz (q:Nat->Bool):∀(k:Nat) (l:List Nat),k+l.length<=10000->((jK q k l).map (·.2)).Nodup
 |_,[],_=>by simp[jK]
 |k,id::l,F=>by simp only[bg] at F;simp only[jK,aS,fA];refine⟨λG=> ?_,wz q (k+1) l af⟩;obtain⟨p,H,e⟩:=aD.1 G;have:=wA q (k+1) l af p H;cases B:q p.1 with
  |true=>have D:=this.1 B;cases z:q id<;>simp[z] at e<;>omega
  |false=>have D:=this.2 B;cases z:q id<;>simp[z] at e<;>omega
def JK:∀(m:List (Nat×Nat)),(swap m).map (·.1)=m.map (·.2)
 |[]=>rfl
 |(a,b)::l=>by simp[swap,JK l]
def IW:∀{m:List (Nat×Nat)} {a b:Nat},(a,b)∈m->(b,a)∈swap m
 |(x,y)::l,a,b,h=>by
  rcases aG.1 h with h|h
  .injection h with q z;subst q;subst z;simp[swap]
  .simp only[swap];exact eo _ (IW h)
def Ao {loc l:Nat->Value} {G:Nat->Nat} {names:List Nat} (q:∀j∈names,l (G j)=loc j):∀{z:List pY} {D:List Value},SV.closed names (.cl 0 z)=true->j9 μ loc z D->j9 μ l (z.map (pY.tC G)) D
 |[],D,_,h=>h
 |c::z,D,B,⟨u,R,e,F,H⟩=>by simp only[SV.closed,gP,aJ] at B;refine⟨u,R,e,?_,Ao q (by simpa[SV.closed] using B.2) H⟩;cases c with
  |v a=>exact F
  |p id=>obtain⟨b,I,O⟩:=F;exact⟨b,by rw[q id (by simpa using B.1)];exact I,O⟩
  |r id=>show u=fH (l (G id));rw[q id (by simpa using B.1)];exact F
def RT {loc loc':Nat->Value} {ρ:Nat->Nat} {names:List Nat} (l:∀j∈names,loc' (ρ j)=loc j) {s:SV} {v:Value} (B:s.closed names=true) (h:gH μ loc s v):gH μ loc' (s.tC ρ) v:=by induction s generalizing v with
 |two s b O=>obtain⟨x,e,h⟩:=h;exact⟨x,e,O (by simpa[SV.closed] using B) h⟩
 |undef=>exact h
 |any=>exact h
 |pv x=>exact h
 |cp S=>exact h
 |ptr j G=>obtain⟨b,z,D⟩:=h;exact⟨b,by rw[l j (by simpa[SV.closed] using B)];exact z,D⟩
 |row j=>show v=fH (loc' (ρ j));rw[l j (by simpa[SV.closed] using B)];exact h
 |rp j R i G=>obtain⟨g,n,c,z,D⟩:=h;exact⟨g,n,c,by rw[l j (by simpa[SV.closed] using B)];exact z,D⟩
 |sub j R V U=>obtain⟨A,n,c,I,c',z,D⟩:=h;exact⟨A,n,c,I,c',by rw[l j (by simpa[SV.closed] using B)];exact z,D⟩
 |cl f F=>obtain⟨H,e,z⟩:=h;exact⟨H,e,Ao l (by simpa[SV.closed] using B) z⟩
 |ag F=>obtain⟨H,e,z,D⟩:=h;exact⟨H,e,Ao l (by simpa[SV.closed] using B) z,D⟩
 |aq j q=>simp[SV.closed] at B
def E9 {loc l:Nat->Value} {F:Nat->Nat} {names:List Nat} (q:∀j∈names,l (F j)=loc j):∀{z:List SV} {B:List Value},z.all (SV.closed names)=true->iF μ loc z B->iF μ l (z.map (SV.tC F)) B
 |[],B,_,h=>h
 |c::z,B,D,⟨u,I,e,G,H⟩=>by simp only[gP,aJ] at D;exact⟨u,I,e,RT q D.1 G,E9 q D.2 H⟩
def Jc {n0 n0':Nat} {L L':rV} {loc loc':Nat->Value} {ρ:Nat->Nat} {names:List Nat} (O:∀j∈names,loc' (ρ j)=loc j) {id id':Nat} {o:Ob} (H:o.closed names=true) (h:lU n0 L μ loc w id o) (hid:loc' id'=loc id)
  (l:∀b,jw (loc id) b->E6 n0' L' id' b) (hq:L'.q=L.q:=by rfl):lU n0' L' μ loc' w id' (o.tC ρ):=by
 cases o with
 |box t cells=>obtain⟨b,F,q,S,B,z,hs,D⟩:=h;exact⟨b,F,by simp_all,l b (by rw[q];exact qd.2 rfl),B,z,E9 O H hs,D⟩
 |row e sz xs=>obtain⟨F,hw,I,z⟩:=h;exact⟨F,by simp_all,I,λg V=>by simp_all⟩
 |mp k e ks es=>obtain⟨b,cN,G,q,S,B,z,D,R,U⟩:=h;exact⟨b,_,_,by simp_all,l b (by rw[q];exact ur.2 rfl),B,z,D,R,U⟩
 |mr k e sz ks F=>simp[Ob.closed] at H
 |rn e s k e' s' xs ys=>simp[Ob.closed] at H
 |it s pos=>obtain⟨b,q,S,B,z⟩:=h;exact⟨b,by simp_all,l b (by rw[q];exact qd.2 rfl),B,z⟩
 |lp xs=>obtain⟨us,q,D,R⟩:=h;exact⟨us,by simp_all,λg V=>by simp_all,by simp_all⟩
def D1 {tm:Nat->Option Value}:∀(l:List Nat) (st:St) (loc q:Nat->Value),(∀i,i∉l->q i=loc i)->(∀i s,st.env i=some s->∃v,tm i=some v/\gH μ loc s v)->∀i s,(kH l st).env i=some s->∃v,tm i=some v/\gH μ q s v
 |[],st,loc,q,B,h,i,s,z=>by
  have :=funext λi=>B i ah
  rw[this];exact h i s z
 |id::l,st,loc,q,B,h,i,s,z=>by
  refine D1 l _ (rQ loc id (q id)) _ (λi D=> ?_) (λi s z=> ?_) i s z
  .grind[cv,cG]
  .simp[St.dG,bZ] at z;grind[yL]
def Gc:∀(l:List Nat) (st:St) (loc q:Nat->Value),(∀i,i∉l->q i=loc i)->∀i B,(kH l st).ob i=some B->i∉l/\∃o,st.ob i=some o/\∀D L μ w,lU D L μ loc w i o->lU D L μ q w i B
 |[],st,loc,q,G,i,B,z=>by
  have :=funext λi=>G i ah
  rw[this];exact⟨ah,B,z,λ_ _ _ _ h=>h⟩
 |id::l,st,loc,q,G,i,B,z=>by
  obtain⟨I,R,F,H⟩:=Gc l _ (rQ loc id (q id)) q (λi O=>by grind[cv,cG]) i _ z;by_cases e:id=i
  .simp_all[St.dG,cu]
  .simp[St.dG,bu _ _ e,bZ] at F;obtain⟨o,z,rfl⟩:=F;exact⟨by grind,o,z,λD L μ w h=>H _ L _ w (Cl h (cO e))⟩
def Dc (F:Rel N w0 μ0 L μ loc st a w):∀{xs:List Operand} {z:List TypeId} {q:List SV},tD P h st xs z=some q->iF μ loc q (xs.map a.eval)
 |[],z,q,l=>by simp[tD,aN] at l;subst l;rfl
 |x::xs,z,q,l=>by
  simp[tD] at l;split at l
  .rename_i v G B D;injection l with l;subst l;refine⟨_,_,rfl,?_,Dc F D⟩;unfold Zs at B
   all_goals first
    |grind[aY]
    |cases B
    |(cases H:isRef h x with
      |false=>simp_all
      |true=>grind[aY])
  simp_all
def BB {ids:List Nat} {F:Nat->Nat}:∀{l:List (Nat×Nat)} {cF:List (Nat×Ob)},lE st ids F l=some cF->cF.map (·.1)=l.map (·.2)/\∀B D,(B,D)∈cF->∃id o,(id,B)∈l/\st.ob id=some o/\o.closed ids=true/\D=o.tC F
 |[],cF,z=>by simp_all[lE]
 |(id,B)::l,cF,z=>by
  simp[lE] at z;split at z
  .rename_i o R O q;cases I:o.closed ids with
   |false=>simp_all
   |true=>obtain⟨G,H⟩:=BB q;grind
  simp_all
def Bp {names:List Nat} {G:Nat->Nat}:∀{l:List (Nat×Nat)} {cF back:List (Nat×Ob)},nR names G l cF=some back->cF.map (·.1)=l.map (·.2)/\back.map (·.1)=l.map (·.1)/\∀id F,(id,F)∈back->∃z o,(id,z)∈l/\(z,o)∈cF/\o.closed names=true/\F=o.tC G
 |[],[],back,q=>by simp_all[nR]
 |[],_::_,back,q=>by simp[nR] at q
 |_::_,[],back,q=>by simp[nR] at q
 |(id,z)::l,(D,o)::S,back,q=>by simp[nR] at q;cases B:(Nat.beq z D&&o.closed names) with
  |false=>simp_all
  |true=>simp[B,ai,bZ] at q;obtain⟨r,H,rfl⟩:=q;simp only[aJ] at B;have:=beq_iff.1 B.1;obtain⟨I,O,R⟩:=Bp H;grind
theorem zT (S:Rel N w0 μ0 L μ loc st a w) (y6:fQ L.q μ0 P cI) {o:Oper} {c:Call} {f:Operand} {st1:St} (hd:∀i,o.dst=some i->i<N) (ho:o.op= .call c) (hc:c.callee= .value f)
  (hv:jC P h cI st c f o.dst=some st1) (hK:mM N w0 μ0 L st1 K):o.uB P a w K Q:=by
 unfold jC at hv;split at hv
 .rename_i g pre caps vs hf hvs;simp only[] at hv;generalize hids:kB st 200 ((pre++(vs++caps)).flatMap SV.ids) []=ids at hv;generalize IC:lF (o.dst.any h.stay.contains) st (pS (pre++(vs++caps)))=mv at hv;generalize hm:jK mv 0 ids=m at hv;cases vI:(distinct ids&&Nat.blt ids.length 10000&&(pre++(vs++caps)).all (SV.closed ids)) with
  |false=>rw[vI] at hv;cases hv
  |true=>
  simp only[vI,ai] at hv;simp only[aJ] at vI;obtain⟨⟨hdis,hlen⟩,hclo⟩:=vI;have hlen:ids.length<10000:=by simpa[cD] using hlen
  have hnd:=uR hdis;have YY:m.map (·.1)=ids:=by rw[<-hm];exact tf _ _ _
  have hrange:∀p∈m,(mv p.1=true->20000<=p.2)/\(mv p.1=false->10000<=p.2/\p.2<20000):=by rw[<-hm];intro p z;have:=wA mv 0 ids af p z;exact⟨λe=>by have:=this.1 e;omega,λe=>by have:=this.2 e;omega⟩
  have hnn:(m.map (·.2)).Nodup:=by rw[<-hm];exact wz mv 0 ids af
  have hget:∀id l,(id,l)∈m->find m id=some l:=λid l z=>oZ (by rw[YY];exact hnd) z
  have I:∀id l,(id,l)∈m->find (swap m) l=some id:=λid l z=>oZ (by rw[JK];exact hnn) (IW z)
  have hex:∀id∈ids,∃l,(id,l)∈m:=λid hid=>by rw[<-YY] at hid;obtain⟨p,z,rfl⟩:=aD.1 hid;exact⟨p.2,z⟩
  let R:Nat->Value:=λl=>match find (swap m) l with
   |some id=>loc id
   |none=>loc l
  have H:∀id l,(id,l)∈m->R l=loc id:=λid l z=>by simp only[R,I id l z]
  have hren:∀id l,(id,l)∈m->qI m id=l:=λid l z=>by simp[qI,hget id l z]
  have hren2:∀id l,(id,l)∈m->qI (swap m) l=id:=λid l z=>by simp[qI,I id l z]
  have hρ:∀j∈ids,R (qI m j)=loc j:=λj hj=>by obtain⟨l,z⟩:=hex j hj;rw[hren j l z,H j l z]
  split at hv
  .rename_i cF aax;obtain⟨hl1,hl2⟩:=BB aax;have hlnd:(cF.map (·.1)).Nodup:=by rw[hl1];exact hnn
   split at hv
   .rename_i r O hr;split at hv
    .rename_i back hback;obtain⟨X4,Pt,hb3⟩:=Bp hback;have hbnd:(O.map (·.1)).Nodup:=by rw[X4];exact hnn
     have hbid:back.map (·.1)=ids:=by rw[Pt,YY]
     cases VU:r.kF with
     |false=>rw[VU] at hv;cases hv
     |true=>
     simp only[VU,ai,aN] at hv;subst hv;obtain⟨sf,hsf,B⟩:=dM.1 hf;have hfv:=aY S hsf;obtain⟨ps,cs,hps,hcs,X7⟩:∃ps cs:List Value,iF μ loc pre ps/\iF μ loc caps cs/\((g<2000000/\a.eval f= .func (.func g) ps.toArray cs.toArray)\/(2000000<=g/\ps=[]/\∃v,cs=[v]/\a.eval f=clV g [v])):=by
      unfold fnSV at B;split at B
      .rename_i g' caps';cases hb:Nat.blt g' 1000000 with
       |false=>rw[hb] at B;cases B
       |true=>
       rw[hb] at B;simp only[ai,aN,bB] at B;obtain⟨rfl,rfl,rfl⟩:=B;simp only[gH,rep] at hfv;obtain⟨us,e,hu⟩:=hfv;exact⟨[],us,rfl,rH hu, .inl ⟨eO (cD.mp hb) (by decide),e⟩⟩
      .rename_i g' caps';obtain⟨us,e,hu⟩:=hfv;cases hb:Nat.blt g' 1000000 with
       |true=>rw[hb] at B;simp only[ai,aN,bB] at B;obtain⟨rfl,rfl,rfl⟩:=B;exact⟨[],us,rfl,r9 hu, .inl ⟨eO (cD.mp hb) (by decide),by rw[e];simp only[clV,hb,ai]⟩⟩
       |false=>rw[hb] at B;simp only[aA] at B;cases Pt:Nat.blt g' 2000000 with
        |true=>rw[Pt] at B;simp only[ai,aN,bB] at B;obtain⟨rfl,rfl,rfl⟩:=B;exact⟨us,[],r9 hu,rfl, .inl ⟨jk (Nat.sub_le _ _) (cD.mp Pt),by rw[e];simp only[clV,hb,Pt,ai,aA]⟩⟩
        |false=>
         rw[Pt] at B;simp only[aA] at B;split at B
         .rename_i c0;simp only[aN,bB] at B;obtain⟨rfl,rfl,rfl⟩:=B;obtain⟨u,us',e1,h1,h2⟩:=hu
          have:us'=[]:=h2
          subst this e1;refine⟨[],[u],rfl,r9 (caps:=[c0]) ⟨u,[],rfl,h1,rfl⟩, .inr ⟨?_,rfl,u,rfl,e⟩⟩;cases Nat.lt_or_ge g' 2000000 with
          |inl h=>rw[cD.mpr h] at Pt;cases Pt
          |inr h=>exact h
         .cases B
      .cases B
     have hargs:=Dc S hvs;have hall:=E9 hρ hclo (pq hps (pq hargs hcs));have aay:∀i oi,find cF i=some oi->lU w.heap.size (jJ L.q R (cF.map (·.1))) μ R w i oi:=by
      intro i oi hi;obtain⟨id,U,z,sg,hoc,rfl⟩:=hl2 i oi (uC hi);refine Jc hρ hoc (S.obs id _ sg) (H id i z) (λb hb=> .inr ⟨loc id,?_,hb⟩)
      have:i∈cF.map (·.1):=by rw[hl1];exact aD.2 ⟨_,z,rfl⟩
      simp only[jJ,az this,H id i z]
     have hapC:Vn R cF:=by intro i j oi oj hi hj hij q hq;obtain⟨id,U,z,sg,_⟩:=hl2 i oi (uC hi);obtain⟨id',ob',hp',GF,_⟩:=hl2 j oj (uC hj);rw[H id i z] at hq;rw[H id' j hp'];refine S.apart id id' U ob' sg GF (λe=>hij ?_) q hq;subst e;have:=(hget id i z).symm.trans (hget id j hp');injection this
     have hgo:(∀v w',(∃V F,fR L.q μ R (cF.map (·.1)) r O w v V F w')->K (a.put o.dst v) w')->o.uB P a w K Q:=λhK'=>by
      rcases y6 g _ _ r _ hr w μ R (ps++(c.args.toList.map a.eval++cs)) S.base.1 S.uy aay hapC hall with⟨hg,he,hC⟩|⟨hg,_,as,v0,By,hY⟩
      .rcases X7 with⟨_,X7⟩|⟨hg2,_⟩
       .refine adC (R:=λv w'=>∃V F,fR L.q μ R (cF.map (·.1)) r O w v V F w') ho hc X7 rfl he (hC.mono ?_) hK';rintro e w' ⟨v,V,F,rfl,hP⟩;exact⟨v,rfl,V,F,hP⟩
       .omega
      .rcases X7 with⟨hg2,_⟩|⟨_,rfl,v1,rfl,X7⟩
       .omega
       .rw[dh] at By;obtain⟨e1,e2⟩:=List.append_inj' By rfl;simp only[dN,fG] at e2;subst e1 e2;rw[<-X7] at hY;refine adD (R:=λv w'=>∃V F,fR L.q μ R (cF.map (·.1)) r O w v V F w') ho hc (hY.mono ?_) hK';rintro e w' ⟨v,V,F,rfl,hP⟩;exact⟨v,rfl,V,F,hP⟩
     refine hgo ?_;rintro v w' ⟨V,F,hP⟩;let G:Nat->Value:=λi=>match find m i with
      |some l=>F l
      |none=>loc i
     have X1:∀id l,(id,l)∈m->G id=F l:=λid l z=>by simp only[G,hget id l z]
     have VQ:∀i,i∉ids.filter mv->G i=loc i:=by intro i hi;cases hfi:find m i with
      |none=>simp only[G,hfi]
      |some l=>
       have z:=uC hfi;have hmem:i∈ids:=by rw[<-YY];exact aD.2 ⟨_,z,rfl⟩
       have hmv0:mv i=false:=by cases D:mv i with
        |false=>rfl
        |true=>exact absurd (cH.2 ⟨hmem,D⟩) hi
       rw[X1 i l z,hP.fix l (by rw[hl1];exact aD.2 ⟨_,z,rfl⟩) ((hrange _ z).2 hmv0).2];exact H i l z
     have hlb:∀b,Lu (jJ L.q R (cF.map (·.1))) b->∃id U,id∈ids/\st.ob id=some U/\jw (loc id) b:=by
      rintro b ⟨l,x,D,X6⟩;simp only[jJ] at D;split at D
      .rename_i hmem;injection D with D;subst D;rw[hl1] at hmem;obtain⟨p,z,rfl⟩:=aD.1 hmem;rw[H p.1 p.2 z] at X6;obtain⟨q,hq,e⟩:=aD.1 (show p.2∈cF.map (·.1) by rw[hl1];exact aD.2 ⟨_,z,rfl⟩);obtain⟨id,U,k1,k2,_⟩:=hl2 q.1 q.2 hq;rw[e] at k1;have:=(I p.1 p.2 z).symm.trans (I id p.2 k1);injection this with this;exact⟨p.1,U,by rw[<-YY];exact aD.2 ⟨_,z,rfl⟩,by rw[this];exact k2,X6⟩
      .cases D
     have holdob:∀i oi,st.ob i=some oi->i∉ids->lU w0.heap.size L V loc w' i oi:=by
      intro i oi hi hni;refine(S.obs i oi hi).keep hP.ext.1 (λb hb=> ?_);obtain⟨_,hlt,xD⟩:=(S.obs i oi hi).block b hb;refine⟨hP.keep b hlt (λhl=> ?_),λj=> ?_⟩
      .obtain⟨id,U,h1,h2,h3⟩:=hlb b hl;exact S.apart id i U oi h2 hi (λe=>hni (by rw[<-e];exact h1)) b h3 hb
      .cases hj:V b j with
       |none=>rfl
       |some x=>
        rcases hP.ext.2 b j x hj with D|D
        .rw[xD j] at D;cases D
        .omega
     have hback':∀id o',find back id=some o'->∃l o,(id,l)∈m/\find O l=some o/\o.closed (m.map (·.2))=true/\o'=o.tC (qI (swap m)):=by intro id o' hfb;obtain⟨l,o,h1,h2,h3,h4⟩:=hb3 id o' (uC hfb);exact⟨l,o,h1,oZ hbnd h2,h3,h4⟩
     have QF:∀id l U b,(id,l)∈m->find O l=some U->jw (F l) b->w.heap.size<=b\/jw (loc id) b:=by
      intro id l U b z hfo hb;rcases((hP.obs l U hfo).block b hb).1 with D|⟨x,D,X6⟩
      .exact .inl D
      .right;simp only[jJ] at D;split at D
       .injection D with D;subst D;rw[H id l z] at X6;exact X6
       .cases D
     have hobin:∀id l,(id,l)∈m->∃U,st.ob id=some U:=by intro id l z;obtain⟨q,hq,e⟩:=aD.1 (show l∈cF.map (·.1) by rw[hl1];exact aD.2 ⟨_,z,rfl⟩);obtain⟨id',U,k1,k2,_⟩:=hl2 q.1 q.2 hq;rw[e] at k1;have:=(I id l z).symm.trans (I id' l k1);injection this with this;exact⟨U,by rw[this];exact k2⟩
     have VV:∀i oi,((find back i).orElse λ_=>(kH (ids.filter mv) st).ob i)=some oi->lU w0.heap.size L V G w' i oi/\((∃l o,(i,l)∈m/\find O l=some o)\/(i∉ids/\∃o,st.ob i=some o)):=by intro i oi hi;cases hfb:find back i with
      |some o'=>
       rw[hfb] at hi;simp at hi;subst hi;obtain⟨l,U,z,hfo,vp,rfl⟩:=hback' i o' hfb;refine⟨Jc (names:=m.map (·.2)) (λj hj=> ?_) vp (hP.obs l U hfo) (X1 i l z) (λb hb=> ?_), .inl ⟨l,U,z,hfo⟩⟩
       .obtain⟨q,hq,rfl⟩:=aD.1 hj;rw[hren2 q.1 q.2 hq,X1 q.1 q.2 hq]
       .rcases QF i l U b z hfo hb with D|D
        .exact .inl (dB S.grown D)
        .obtain⟨ob0,hob0⟩:=hobin i l z;exact((S.obs i ob0 hob0).block b D).1
      |none=>
       rw[hfb] at hi;have hni:i∉ids:=by rw[<-hbid];exact Lh hfb
       have hi':(kH (ids.filter mv) st).ob i=some oi:=by simpa using hi
       obtain⟨_,U,sg,hk⟩:=Gc _ st loc G VQ i oi hi';exact⟨hk _ _ _ _ (holdob i U sg hni), .inr ⟨hni,U,sg⟩⟩
     refine hK _ _ V G (Rel.set (sv:= .pv r) ?_ hd (hP.pure VU));refine⟨S.small,S.names,?_,S.size,S.defers,?_,hP.uy,⟨S.base.1.trans hP.ext.1,?_⟩,λi oi hi=>(VV i oi hi).1,?_,?_,hP.os.trans S.os,hP.tape.trans S.tape,hP.output.trans S.output,dB S.grown hP.grown,λq=>dB (S.drawn q) (hP.drawn q)⟩
     .intro id x D hlt;rw[VQ id (λhmem=> ?_)]
      .exact S.fix id x D hlt
      .have hmt:=(cH.1 hmem).2;rw[<-IC] at hmt;simp only[lF,aJ,iI,fq] at hmt;rcases hmt.1.1.2 with hh|hh
       .have:id<10000:=by simpa[cD] using hh
        rw[S.names id this] at D;cases D
       .have:=dw hh.1;omega
     .exact D1 (tm:=λi=>a.tmps[i]?) _ st loc G VQ (λi s hs=>by
       obtain⟨u,hu,hr⟩:=S.env i s hs
       exact⟨u,hu,E8 hP.ext.1 hr⟩)
     .intro b j x D;rcases hP.ext.2 b j x D with D|D
      .exact S.base.2 b j x D
      .exact .inr (dB S.grown D)
     .intro i j oi oj hi hj hij q hq;have UL:∀k ok,k∉ids->st.ob k=some ok->∀q,jw (G k) q->jw (loc k) q/\q<w.heap.size:=by
       intro k ok hk hok q hq
       have:G k=loc k:=VQ k (λhm=>hk (cH.1 hm).1)
       rw[this] at hq;exact⟨hq,((S.obs k ok hok).block q hq).2.1⟩
      have mixed:∀i l o j oj q,(i,l)∈m->find O l=some o->j∉ids->st.ob j=some oj->jw (G i) q->jw (G j) q->False:=by
       intro i l o j oj q z hfo hj hoj hqi Lo;obtain⟨hqj',hlt⟩:=UL j oj hj hoj q Lo;rw[X1 i l z] at hqi;rcases QF i l o q z hfo hqi with D|D
       .omega
       .obtain⟨ob0,hob0⟩:=hobin i l z;exact S.apart i j ob0 oj hob0 hoj (λe=>hj (by rw[<-e,<-YY];exact aD.2 ⟨_,z,rfl⟩)) q D hqj'
      rcases(VV i oi hi).2 with⟨l,o,z,hfo⟩|⟨hni,U,sg⟩
      .rcases(VV j oj hj).2 with⟨nm',o',hp',hfo'⟩|⟨hnj,ob',GF⟩
       .rw[X1 i l z] at hq;rw[X1 j nm' hp'];refine hP.apart l nm' o o' hfo hfo' (λe=>hij ?_) q hq;subst e;have:=(I i l z).symm.trans (I j l hp');injection this
       .exact λLo=>mixed i l o j ob' q z hfo hnj GF hq Lo
      .rcases(VV j oj hj).2 with⟨nm',o',hp',hfo'⟩|⟨hnj,ob',GF⟩
       .exact λLo=>mixed j nm' o' i U q hp' hfo' hni sg Lo hq
       .obtain⟨hqi,_⟩:=UL i U hni sg q hq;intro Lo;obtain⟨Lo,_⟩:=UL j ob' hnj GF q Lo;exact S.apart i j U ob' sg GF hij q hqi Lo
     .intro b hb hl;refine(hP.keep b (eO hb S.grown) (λhl'=> ?_)).trans (S.keep b hb hl);obtain⟨id,U,_,h2,h3⟩:=hlb b hl';rcases((S.obs id U h2).block b h3).1 with D|⟨x,D,X6⟩
      .omega
      .exact hl ⟨id,x,D,X6⟩
    .cases hv
   .cases hv
  .cases hv
 .cases hv
mutual
theorem AV.rM:∀(a b:AV),AV.same a b=true->a=b
 | .bool a,b=>by cases b<;>simp[AV.same]
 | .int k a,b=>by cases b<;>simp[AV.same]
 | .str a,b=>by cases b<;>simp[AV.same]
 | .dK s xs,b=>by cases b<;>simp only[AV.same,aJ,cW,mP];rintro⟨h1,h2⟩;rw[beq_iff.1 h1,AA _ _ h2]
 | .agg a,b=>by cases b<;>simp only[AV.same,cW,mP];intro h;rw[nG _ _ h]
 | .fn f a,b=>by cases b<;>simp only[AV.same,aJ,cW,mP];rintro⟨h1,h2⟩;rw[beq_iff.1 h1,nG _ _ h2]
 | .lR a,b=>by cases b<;>simp only[AV.same,cW,mP];intro h;rw[nG _ _ h]
 | .ref a,b=>by cases b<;>simp only[AV.same,cW,mP];intro h;rw[nG _ _ h]
 | .mp a b,c=>by cases c<;>simp only[AV.same,aJ,cW,mP];rintro⟨h1,h2⟩;rw[nG _ _ h1,nG _ _ h2]
 | .self n,b=>by cases b<;>simp only[AV.same,cW,mP];intro h;rw[beq_iff.1 h]
 | .DQ,b=>by cases b<;>simp[AV.same]
 | .qm,b=>by cases b<;>simp[AV.same]
 | .hole,b=>by cases b<;>simp[AV.same]
theorem nG:∀(a b:List AV),rK a b=true->a=b
 |[],[]=>λ_=>rfl
 |[],_::_=>λh=>by simp[rK] at h
 |_::_,[]=>λh=>by simp[rK] at h
 |x::l,y::m=>λh=>by simp only[rK,aJ] at h;rw[AV.rM x y h.1,nG l m h.2]
theorem AA:∀(a b:List (List AV)),Az a b=true->a=b
 |[],[]=>λ_=>rfl
 |[],_::_=>λh=>by simp[Az] at h
 |_::_,[]=>λh=>by simp[Az] at h
 |x::l,y::m=>λh=>by simp only[Az,aJ] at h;rw[nG x y h.1,AA l m h.2]
end
mutual
theorem AV.mz:∀a:AV,AV.same a a=true
 | .bool a=>by simp[AV.same]
 | .int k a=>by simp[AV.same]
 | .str a=>by simp[AV.same]
 | .dK s xs=>by simp[AV.same,fZ,yO xs]
 | .agg a=>by simp[AV.same,lP a]
 | .fn f a=>by simp[AV.same,fZ,lP a]
 | .lR a=>by simp[AV.same,lP a]
 | .ref a=>by simp[AV.same,lP a]
 | .mp a b=>by simp[AV.same,lP a,lP b]
 | .self n=>by simp[AV.same,fZ]
 | .DQ=>by simp[AV.same]
 | .qm=>by simp[AV.same]
 | .hole=>by simp[AV.same]
theorem lP:∀a:List AV,rK a a=true
 |[]=>rfl
 |x::l=>by simp[rK,AV.mz x,lP l]
theorem yO:∀a:List (List AV),Az a a=true
 |[]=>rfl
 |x::l=>by simp[Az,lP x,yO l]
end
def pY.rM {a b:pY} (h:a.same b=true):a=b:=by
 cases a<;>cases b<;>simp[pY.same,cW] at h
 .rw[AV.rM _ _ h]
 .simp_all
 simp_all
def pY.mz (a:pY):a.same a=true:=by cases a<;>simp[pY.same,AV.mz]
def Aw:∀{a b:List pY},rL a b=true->a=b
 |[],[]=>λ_=>rfl
 |[],_::_=>λh=>by simp[rL] at h
 |_::_,[]=>λh=>by simp[rL] at h
 |x::l,y::m=>λh=>by simp only[rL,aJ] at h;rw[pY.rM h.1,Aw h.2]
def BO:∀a:List pY,rL a a=true
 |[]=>rfl
 |x::l=>by simp[rL,pY.mz x,BO l]
def Ak.rM {a b:Ak} (h:a.same b=true):a=b:=by
 cases a<;>cases b<;>simp only[Ak.same,cW] at h
 .rfl
 .rw[beq_iff.1 h]
def Ak.mz (a:Ak):a.same a=true:=by cases a<;>simp[Ak.same,fZ]
def SV.rM {a b:SV} (h:a.same b=true):a=b:=by induction a generalizing b with
 |two s x l=>cases b<;>simp only[SV.same,aJ,cW] at h;rw[l h.1,gj.1 h.2]
 |undef=>cases b<;>simp only[SV.same,cW] at h;rfl
 |any=>cases b<;>simp only[SV.same,cW] at h;rfl
 |pv x=>cases b<;>simp only[SV.same,cW] at h;rw[AV.rM _ _ h]
 |ptr x y=>cases b<;>simp only[SV.same,aJ,cW] at h;rw[beq_iff.1 h.1,beq_iff.1 h.2]
 |row x=>cases b<;>simp only[SV.same,cW] at h;rw[beq_iff.1 h]
 |rp x y z u=>cases b<;>simp only[SV.same,aJ,cW] at h;rw[beq_iff.1 h.1.1.1,beq_iff.1 h.1.1.2,beq_iff.1 h.1.2,beq_iff.1 h.2]
 |sub x y z u=>cases b<;>simp only[SV.same,aJ,cW] at h;rw[beq_iff.1 h.1.1.1,beq_iff.1 h.1.1.2,beq_iff.1 h.1.2,beq_iff.1 h.2]
 |cp x=>cases b<;>simp only[SV.same,cW] at h;rw[nG _ _ h]
 |cl f x=>cases b<;>simp only[SV.same,aJ,cW] at h;rw[beq_iff.1 h.1,Aw h.2]
 |ag x=>cases b<;>simp only[SV.same,cW] at h;rw[Aw h]
 |aq x y=>cases b<;>simp only[SV.same,aJ,cW] at h;rw[beq_iff.1 h.1,Ak.rM h.2]
def SV.mz (a:SV):a.same a=true:=by induction a<;>simp[SV.same,AV.mz,fZ,lP,BO,Ak.mz, *]
theorem JD:∀{a b:List SV},vU a b=true->a=b
 |[],[]=>λ_=>rfl
 |[],_::_=>λh=>by simp[vU] at h
 |_::_,[]=>λh=>by simp[vU] at h
 |x::l,y::m=>λh=>by simp[vU,aJ] at h;rw[SV.rM h.1,JD h.2]
def Eb:∀a:List SV,vU a a=true
 |[]=>rfl
 |x::l=>by simp[vU,SV.mz x,Eb l]
theorem Bc:∀{a b:List (Option (List (List AV)))},qt a b=true->a=b
 |[],[]=>λ_=>rfl
 |[],_::_=>λh=>by simp[qt] at h
 |none::_,[]=>λh=>by simp[qt] at h
 |some _::_,[]=>λh=>by simp[qt] at h
 |some x::l,some y::m=>λh=>by simp[qt,aJ] at h;rw[AA _ _ h.1,Bc h.2]
 |none::l,none::m=>λh=>by simp[qt] at h;rw[Bc h]
 |some _::_,none::_=>λh=>by simp[qt] at h
 |none::_,some _::_=>λh=>by simp[qt] at h
def Ay:∀a:List (Option (List (List AV))),qt a a=true
 |[]=>rfl
 |some x::l=>by simp[qt,yO x,Ay l]
 |none::l=>by simp[qt,Ay l]
def Ob.rM {a b:Ob} (h:a.same b=true):a=b:=by
 cases a<;>cases b<;>simp[Ob.same,cW] at h
 .grind[beq_iff,JD]
 .grind[beq_iff,AA]
 .grind[beq_iff,nG]
 .grind[beq_iff,nG,Bc]
 .simp_all
 .rw[nG _ _ h]
 grind[beq_iff,AA,Bc]
def Ob.mz (a:Ob):a.same a=true:=by cases a<;>simp[Ob.same,yO,lP,Eb,Ay]
def JC:∀{a b:List (Nat×Ob)},uz a b=true->a=b
 |[],[]=>λ_=>rfl
 |[],_::_=>λh=>by simp[uz] at h
 |_::_,[]=>λh=>by simp[uz] at h
 |(i,x)::l,(j,y)::m=>λh=>by simp only[uz,aJ] at h;rw[beq_iff.1 h.1.1,Ob.rM h.1.2,JC h.2]
def Ea:∀a:List (Nat×Ob),uz a a=true
 |[]=>rfl
 |(i,x)::l=>by simp[uz,fZ,Ob.mz x,Ea l]
def pY.vi {z l:Nat->Nat} {ids:List Nat} (h:∀j∈ids,l (z j)=j):∀{cs:List pY},SV.closed ids (.cl 0 cs)=true->(cs.map (pY.tC z)).map (pY.tC l)=cs
 |[],_=>rfl
 |c::cs,q=>by simp[SV.closed,gP,aJ] at q;simp only[aS];rw[pY.vi h (by simpa[SV.closed] using q.2)];grind[pY.tC]
def SV.vi {B q:Nat->Nat} {ids:List Nat} (h:∀j∈ids,q (B j)=j) {s:SV} (F:s.closed ids=true):(s.tC B).tC q=s:=by induction s with
 |two s b H=>simp_all[SV.tC,SV.closed]
 |ptr j z=>simp_all[SV.tC,SV.closed]
 |row j=>simp_all[SV.tC,SV.closed]
 |rp j D i z=>simp_all[SV.tC,SV.closed]
 |sub j D I G=>simp_all[SV.tC,SV.closed]
 |cl f l=>simp only[SV.tC];rw[pY.vi h (by assumption)]
 |ag l=>simp only[SV.tC];rw[pY.vi h (by assumption)]
 |_=>rfl
def tF {q:Nat->Nat} {ids names:List Nat} (h:∀j∈ids,q j∈names):∀{cs:List pY},SV.closed ids (.cl 0 cs)=true->SV.closed names (.cl 0 (cs.map (pY.tC q)))=true
 |[],_=>rfl
 |c::cs,l=>by simp only[SV.closed,gP,aJ] at l;have z:=tF h (cs:=cs) (by simpa[SV.closed] using l.2);simp only[SV.closed,aS,gP,aJ];refine⟨?_,by simpa[SV.closed] using z⟩;cases c with
  |v a=>rfl
  |p id=>simpa[pY.tC] using h id (by simpa using l.1)
  |r id=>simpa[pY.tC] using h id (by simpa using l.1)
def SV.BZ {D:Nat->Nat} {ids names:List Nat} (h:∀j∈ids,D j∈names) {s:SV} (z:s.closed ids=true):(s.tC D).closed names=true:=by induction s with
 |two s b F=>simp only[SV.tC,SV.closed];exact F (by simpa[SV.closed] using z)
 |ptr j B=>simpa[SV.tC,SV.closed] using h j (by simpa[SV.closed] using z)
 |row j=>simpa[SV.tC,SV.closed] using h j (by simpa[SV.closed] using z)
 |rp j G i B=>simpa[SV.tC,SV.closed] using h j (by simpa[SV.closed] using z)
 |sub j G I H=>simpa[SV.tC,SV.closed] using h j (by simpa[SV.closed] using z)
 |cl f l=>have:=tF h (cs:=l) (by simpa[SV.closed] using z);simpa[SV.tC,SV.closed] using this
 |ag l=>have:=tF h (cs:=l) (by simpa[SV.closed] using z);simpa[SV.tC,SV.closed] using this
 |aq j q=>simp[SV.closed] at z
 |_=>rfl
def Ob.vi {z l:Nat->Nat} {ids:List Nat} (h:∀j∈ids,l (z j)=j) {o:Ob} (q:o.closed ids=true):(o.tC z).tC l=o:=by cases o with
 |box t cells=>simp only[Ob.tC,eV];congr 1;simp only[Ob.closed,cz] at q;exact(gT λs B=>SV.vi h (q s B)).trans (jX _)
 |_=>rfl
def Ob.BZ {q:Nat->Nat} {ids names:List Nat} (h:∀j∈ids,q j∈names) {o:Ob} (l:o.closed ids=true):(o.tC q).closed names=true:=by cases o with
 |box t cells=>simp only[Ob.closed,cz] at l;simp only[Ob.tC,Ob.closed,cz,aD];rintro _ ⟨s,z,rfl⟩;exact SV.BZ h (l s z)
 |mr k e s D G=>simp[Ob.closed] at l
 |rn e s k B F xs H=>simp[Ob.closed] at l
 |_=>rfl
def K7 {ids names:List Nat} {ρ ρ':Nat->Nat} (G:∀j∈ids,ρ' (ρ j)=j) (H:∀j∈ids,ρ j∈names):∀{l:List (Nat×Nat)} {cF:List (Nat×Ob)},lE st ids ρ l=some cF->∃back,nR names ρ' l cF=some back/\∀i o,find back i=some o->st.ob i=some o
 |[],cF,q=>by simp only[lE,aN] at q;subst q;exact⟨[],rfl,λi o h=>by simp[find] at h⟩
 |(id,S)::l,cF,q=>by
  simp only[lE] at q;split at q
  .rename_i o V R F
   obtain⟨B,q⟩:=(show o.closed ids=true/\some ((S,o.tC ρ)::V)=some cF from by cases B:o.closed ids with
    |false=>rw[B] at q;cases q
    |true=>rw[B] at q;exact⟨rfl,q⟩)
   injection q with q;subst q;obtain⟨back,I,O⟩:=K7 G H F;refine⟨(id,(o.tC ρ).tC ρ')::back,?_,λi U D=> ?_⟩
   .simp only[nR,fZ,Ob.BZ H B,qM,ai,I,cR]
   .simp only[find] at D;cases z:Nat.beq id i with
    |true=>simp only[z,ai,aN] at D;rw[<-beq_iff.1 z,R,<-D,Ob.vi G B]
    |false=>simp only[z,aA] at D;exact O i U D
  .cases q
def PY {c:Call} {f:Operand} {r:AV} {d:Option Nat} (hst:d.any h.stay.contains=true) (B:r8 P h cI st c f=some r):jC P h cI st c f d=some (st.set d (.pv r)):=by
 unfold r8 at B;split at B
 .rename_i g args l;unfold tK at l;split at l
  .rename_i g' pre z vs hf hvs;simp only[aN,bB] at l;obtain⟨rfl,rfl⟩:=l;have IC:lF (d.any h.stay.contains) st (pS (pre++(vs++z)))=λ_=>false:=by
    funext id;simp only[lF,hst,gC,Bool.and_false]
   have O:kB st 200 ((pre++(vs++z)).flatMap SV.ids) []=kM st (pre++(vs++z)):=rfl;generalize kM st (pre++(vs++z))=ids at B O;have hm:jK (λ_=>false) 0 ids=jA ids:=rfl;cases q:(distinct ids&&Nat.blt ids.length 10000&&(pre++(vs++z)).all (SV.closed ids)) with
   |false=>rw[q] at B;cases B
   |true=>
   simp only[q,ai] at B;have F:=q;simp only[aJ] at F;obtain⟨⟨V,R⟩,hclo⟩:=F;have R:ids.length<10000:=by simpa[cD] using R
   have hnd:=uR V;have YY:(jA ids).map (·.1)=ids:=tf _ _ _;have hnn:((jA ids).map (·.2)).Nodup:=wz _ 0 ids af;have I:∀id D,(id,D)∈jA ids->find (jA ids) id=some D:=λid D H=>oZ (by rw[YY];exact hnd) H
   have S:∀id D,(id,D)∈jA ids->find (swap (jA ids)) D=some id:=λid D H=>oZ (by rw[JK];exact hnn) (IW H)
   have hex:∀id∈ids,∃D,(id,D)∈jA ids:=λid hid=>by rw[<-YY] at hid;obtain⟨p,H,rfl⟩:=aD.1 hid;exact⟨p.2,H⟩
   split at B
   .rename_i cF G;split at B
    .rename_i r' U hr;cases hs:(uz U cF&&r'.kF) with
     |false=>rw[hs] at B;cases B
     |true=>
      rw[hs] at B;simp only[ai,aN] at B;subst B;simp only[aJ] at hs;have e:=JC hs.1;subst e
      obtain⟨back,hb,hg⟩:=K7 (ids:=ids) (names:=(jA ids).map (·.2)) (ρ:=qI (jA ids)) (ρ':=qI (swap (jA ids))) (λj hj=>by
       obtain⟨D,H⟩:=hex j hj
       simp[qI,I j D H,S j D H]) (λj hj=>by
       obtain⟨D,H⟩:=hex j hj;simp only[qI,I j D H,qN]
       exact aD.2 ⟨(j,D),H,rfl⟩) G
      unfold jC;simp only[hf,hvs,IC,O,hm,q,ai,G,hr,hb,hs.2];have e1:kH (ids.filter λ_=>false) st=st:=by have e0:(ids.filter λ_=>false)=[]:=xG.2 (λ_ _=>by decide);rw[e0];rfl
      rw[e1];congr 2;congr 1;funext i;cases hfi:find back i with
      |none=>rfl
      |some o=>rw[hg i o hfi];rfl
    .cases B
   .cases B
  .cases l
 .cases B
def Jl (H:Rel N w0 μ0 L μ loc st a w) {b:Bool}:∀{xs:List Operand} {G:List TypeId} {D:List AV},rF P b st xs G=some D->cn μ D (xs.map a.eval):=by intro xs;induction xs with
 |nil=>simp_all[rF,dg]
 |cons x xs O=>
  intro G D q;simp[rF] at q;split at q
  .rename_i v R l B;injection q with q;subst q;refine bN ?_ (O B);unfold NK at l;cases z:(b&&TV x) with
   |true=>
    rw[z] at l;simp at l;subst l;have:=(xH.1 z).2;unfold TV at this;split at this
    .rfl
    simp_all
   |false=>rw[z] at l;obtain⟨s,I,F⟩:=dM.1 l;have:=aY H I;cases s<;>simp[iJ] at F;subst F;exact this
  simp_all
def wB:∀{D:List AV} {l:List (Nat×TypeId×Nat)} {z:List pY} {B:List Value},sI D l=some z->(∀x∈l,fH (loc x.1)= .slice none 0 0)->cn μ D B->j9 μ loc z B
 |[],l,z,B,q,_,O=>by simp_all[sI,cn,j9]
 |a::D,l,z,B,q,I,O=>by
  obtain⟨u,R,rfl,G,H⟩:=O;have other:∀{k':List _},sI _ l=some _->j9 _ _ (.v a::k') _:=λF=>⟨u,R,rfl,G,wB F I H⟩
  cases a with
  |qm=>cases l with
   |nil=>simp[sI] at q
   |cons x l=>simp[sI,bZ] at q;obtain⟨k',F,rfl⟩:=q;rw[rep] at G;refine⟨u,R,rfl,?_,wB F (λy S=>I y (by simp[S])) H⟩;show u=fH _;simp_all
  |_=>simp[sI,bZ] at q;grind
theorem KA (I:Rel N w0 μ0 L μ loc st a w) (U:fQ L.q μ0 P cI) {o:Oper} {c:Call} {f:Operand} {st1:St} (hd:∀i,o.dst=some i->i<N) (ho:o.op= .call c) (hc:c.callee= .value f)
  (D:kL P h cI st c f o.dst=some st1) (hK:mM N w0 μ0 L st1 K):o.uB P a w K Q:=by
 unfold kL at D;split at D
 .rename_i d B;split at D
  .rename_i g caps vs hf hvs;obtain⟨cs,X7,hcs⟩:=Iv I hf;have main:∀{r:AV},cI g ((vs++caps).map .pv) []=some (r,[])->(∀v H z q,fR L.q μ loc [] r [] w v z q H->Rel N w0 μ0 L z loc st a H->K (a.put o.dst v) H)->o.uB P a w K Q:=λ{r} hr hk=>by
    obtain⟨he,hC⟩:=fQ.noY (U g _ [] _ [] hr w μ loc (c.args.toList.map a.eval++cs) I.base.1 I.uy (by simp[find]) (by intro i j oi oj V;simp[find] at V) (rH (nJ (Jl I hvs) hcs))) λxs=>by simp[find]
    refine Hv (R:=λv H=>∃z q,fR L.q μ loc [] r [] w v z q H) (r:=r) (z7:=[]) ho hc X7 rfl he (hC.mono ?_) ?_
    .simp
    .rintro v H ⟨z,q,F⟩;exact hk v H z q F (I.grow F.ext F.uy (Dg F) F.drawn)
   split at D
   .rename_i e sz xs hr;cases hn:(w5 h d).isSome with
    |true=>simp_all
    |false=>
    rw[hn] at D;simp only[aA,aN] at D;subst D;refine main hr λv H z q F h1=> ?_
    obtain⟨us,S,hrc,O⟩:∃us,H.ownsRow 0 e sz v xs.length us/\c4 z sz xs us/\∀g,bC v=some g->w.heap.size<=g/\∀j,z g j=none:=by
     rcases F.res with hx|⟨_,_,_,_,e1,_⟩|⟨e2,sz2,xs2,us,e1,k1,k2,k3⟩
     .simp_all[rep,cn]
     .cases e1
     grind
    have hdN:=hd d B;have hin:∀g,jw v g->bC v=some g:=λg R=>by
     rcases R with R|⟨us',e1,_⟩
     .exact R
     .subst e1;rcases S.2 with⟨e2,_⟩|⟨_,_,_,e2,_⟩<;>cases e2
    have h2:=h1.new (id:=d) (o:= .row e _ _) (.inl (eO hdN I.small)) ⟨us,by rw[cv];omega,hrc,λg R=>by
      rw[cv] at R;obtain⟨k1,k2⟩:=O g (hin g R)
      exact⟨.inl (dB I.grown k1),k2⟩⟩ (λj oj hj _ g R hb=>by
     have k1:=(O g (hin g R)).1;have:=((I.obs j _ hj).block g hb).2.1
     omega)
    rw[B];refine hK _ _ _ _ (h2.set (λi V=>(cU V)▸hdN) ?_);show v=fH _;rw[cv];rcases S.2 with⟨e2,_⟩|⟨_,_,_,e2,_⟩<;>rw[e2]<;>rfl
   .rename_i cs' hr;split at D
    .injection D with D;subst D;refine main hr λv H z q F h1=> ?_
     have G:=F.pure rfl;rw[B];exact hK _ _ _ _ (h1.set (λi V=>hd i (B.trans V)) G)
    .rename_i l _ hl;split at D
     .rename_i ks hks;cases hb:l.all (λx=>Nat.blt x.1 10000) with
      |false=>simp_all
      |true=>
      rw[hb] at D;simp at D;subst D;refine main hr λv H z q F h1=> ?_
      have G:=F.pure rfl;obtain⟨vs',rfl,hra,hone⟩:=G;obtain⟨loc2,h2,h3,_⟩:=sH h1 l _ _ h1 (λx hx=>cD.mp (cz.1 hb x hx));rw[B];exact hK _ _ _ _ (h2.set (λi V=>hd i (B.trans V)) ⟨_,rfl,wB hks h3 hra,hone⟩)
     simp_all
    simp_all
   simp_all
  simp_all
 simp_all
theorem Ml (B:Rel N w0 μ0 L μ loc st a w) (l:fQ L.q μ0 P cI) {o:Oper} {c:Call} {f:Operand} {r:AV} (F:∀i,o.dst=some i->i<N) (G:o.op= .call c) (D:c.callee= .value f) (q:o.dst.any h.stay.contains=true)
  (H:r8 P h cI st c f=some r) (z:mM N w0 μ0 L (st.set o.dst (.pv r)) K):o.uB P a w K Q:=
 zT B l F G D (PY q H) z
def TJ (z:Rel N w0 μ0 L μ loc st a w) (y6:fQ L.q μ0 P cI) {o:Oper} {v:SV} (H:∀i,o.dst=some i->i<N) (l:ew P h cI o st=some v) (F:mM N w0 μ0 L (st.set o.dst v) K):o.uB P a w K Q:=by
 unfold ew at l;split at l
 .rename_i t len D I;cases V:o.dst.any h.rows.contains with
  |true=>simp_all
  |false=>simp only[V,aA] at l;cases hl:kD P t len D.toList st with
   |none=>simp_all
   |some x=>grind[TF]
 .rename_i c I;split at l
  .rename_i f hc;replace l:=E4 l;cases R:(o.dst.any h.stay.contains&&wide st c f) with
   |true=>rw[R] at l;simp only[ai,bZ] at l;obtain⟨r,hr,rfl⟩:=l;rw[aJ] at R;grind[Ml]
   |false=>
   rw[R] at l;replace l:=E4 l;split at l
   .rename_i g q vs hf hvs;split at l
    .rename_i r hr;cases hp:((!(c.args.toList.any (kK st))||r.plain)&&r.kF) with
     |true=>simp only[hp,ai,aN] at l;subst l;rw[aJ] at hp;grind[HY,Bool.or_comm]
     |false=>grind
    simp_all
   simp_all
  .exact oy z H (FQ z I l) F
 .rename_i t x k ok I;exact oy z H (vh z (E4 l)) F
 .rename_i t D I;exact oy z H (QA z I (E4 l)) F
 .rename_i t x I;exact oy z H (vh z (E4 l)) F
 .rename_i g first q I
  cases O:first.isEmpty with
  |false=>
   simp[O] at l;cases G:(q.isEmpty&&o.dst.any h.jT.contains&&Nat.blt g 1000000) with
   |false=>simp_all
   |true=>
   rw[G] at l;simp only[aJ] at G;have hc0 :=by simpa using G.1.1
   have hg :=cD.mp G.2;have run:(execOp a.eval o).run P w= .ok (.value (.func (.func g) (first.toList.map a.eval).toArray #[])) w:=by
    unfold execOp;rw[I,hc0];have e:first.map a.eval=(first.toList.map a.eval).toArray:=by grind
    simp[Instr.makeFunc,e]
   cases B:qi st first.toList with
   |none=>simp_all
   |some vs=>
    simp[B] at l;subst l;refine oy z H ⟨_,run,(show gH _ _ (.cl _ _) _ from⟨_,?_,Dp z B⟩)⟩ F;have h1:Nat.blt (g+1000000) 1000000=false:=by cases V:Nat.blt _ _ with
     |false=>rfl
     |true=>have:=cD.mp V;omega
    have h2:Nat.blt (g+1000000) _=true:=cD.mpr (Nat.add_lt_add_right hg _);simp[clV,h1,h2,aA,ai,oC]
  |true=>
   simp[O] at l;have hf0 :=by simpa using O
   have run:(execOp a.eval o).run P w= .ok (.value (.func (.func g) #[] (q.toList.map a.eval).toArray)) w:=by
    unfold execOp;rw[I,hf0];have e:q.map a.eval=(q.toList.map a.eval).toArray:=by grind
    simp[Instr.makeFunc,e]
   cases S:o.dst.any h.jT.contains with
   |true=>
    simp[S] at l;cases U:Nat.blt g 1000000 with
    |false=>simp_all
    |true=>
    rw[U] at l;cases B:qi st q.toList with
    |none=>simp_all
    |some vs=>simp[B] at l;subst l;exact oy z H ⟨_,run,(show gH _ _ (.cl g _) _ from⟨_,by simp[clV,U,ai],Dp z B⟩)⟩ F
   |false=>
   simp[S] at l;cases B:tE st q.toList with
   |none=>simp_all
   |some vs=>simp[B] at l;subst l;have hall:=Dq z B;refine oy z H ⟨_,run,?_⟩ F;show rep _ _ _;rw[rep];simp_all
 .have key:eY P o st=some v:=by
   split at l
   .grind
   .grind
   .exact l
  exact oy z H (vh z key) F
 .exact oy z H (vh z l) F
def XP (F:Rel N w0 μ0 L μ loc st a w) (y6:fQ L.q μ0 P cI) {o:Oper} (S:∀i,o.dst=some i->i<N) (B:mD P h cI o st=some st') (H:mM N w0 μ0 L st' K):o.uB P a w K Q:=by
 unfold mD at B;split at B
 .rename_i d q D;split at B
  .rename_i e s hs;split at B
   .injection B with B;subst B;exact eff_nil F (S d q) q D H
   .cases B
  .cases B
 .rename_i d x hnc q D;split at B
  .rename_i id U;cases O:h.mvs.contains d with
   |true=>rw[O] at B;exact Nk F (S d q) q D U B H
   |false=>
   rw[O] at B;simp only[aA] at B;split at B
   .rename_i st1 hp;split at B
    .rename_i v hv1;injection B with B;subst B;obtain⟨μ1,_,h1⟩:=F.dL hp;exact oy h1 S (B7 h1 (.inr D) hv1) (by rw[q];exact H)
    .cases B
   .cases B
  .cases B
 .rename_i d t x q D;split at B
  .rename_i cs U hagg;injection B with B;subst B;have R:=aY F U;simp only[gH,rep] at R;obtain⟨vs,R,hall,hone⟩:=R;refine Du (v:= .agg vs.toArray) F (S d q) q ?_ (by simpa[Value.cells] using rH hall) (by assumption) H;unfold execOp;rw[D];simp[Instr.box,newVar,newRow,R,Value.cells]
  .rename_i cs U hagg;cases hm:(SV.ag cs).mentions d with
   |true=>rw[hm] at B;cases B
   |false=>
   rw[hm] at B;simp only[aA,aN] at B;subst B;have R:=RU (x:= .pointer (some ⟨w.heap.size,0,none⟩)) hm (aY F U);obtain⟨vs,R,hall,hone⟩:=R;refine Du (v:= .agg vs.toArray) F (S d q) q ?_ (by simp_all[Value.cells,r9]) (by assumption) H;unfold execOp;rw[D];simp[Instr.box,newVar,newRow,R,Value.cells]
  .rename_i v hnot U hagg;split at B
   .rename_i hone;injection B with B;subst B;have R:=aY F U;obtain⟨h1,hc1⟩:=UK F hone R;refine Du (v:=a.eval x) F (S d q) q ?_ (by rw[hc1];exact⟨_,[],rfl,yL R,rfl⟩) (by rw[hc1];simpa using h1) H;unfold execOp;rw[D];simp[Instr.box,newVar,newRow]
   .cases B
  .cases B
 .rename_i d t q D;cases hrw:h.rows.contains d with
  |true=>
   rw[hrw] at B;simp only[ai] at B;split at B
   .rename_i svs l hz;injection B with B;subst B;exact KE F (S d q) q D hz H
   .cases B
  |false=>
  rw[hrw] at B;simp only[aA] at B;split at B
  .rename_i z hz;injection B with B;subst B;obtain⟨i,v,hi,hzv,hc⟩:=L4 (μ:=μ) hz;refine Du (v:=v) F (S d q) q ?_ (rH hc.1) hc.2 H;unfold execOp;rw[D];simp[Instr.alloc,zeroValue,typeInfo,hi,hzv,newVar,newRow]
  .cases B
 .rename_i d t l c q D;split at B
  .rename_i e s kl nl kc nc hs hl hc;split at B
   .rename_i z i hz hi;split at B
    .rename_i G;injection B with B;subst B;exact ZZ F (S d q) q D hs hl hc hz hi G H
    .cases B
   .cases B
  .cases B
 .rename_i d t len parts q D;split at B
  .rename_i e s xs hl;split at B
   .injection B with B;subst B;exact Mw F (S d q) q D hl H
   .rename_i k e' s' hn;cases hb:(Nat.blt k s&&xs.all (qe k)) with
    |false=>rw[hb] at B;cases B
    |true=>rw[hb] at B;simp only[ai,aN] at B;subst B;obtain⟨b1,b2⟩:=xH.1 hb;exact KF F (S d q) q D hl (cD.mp b1) b2 H
  .cases B
 .rename_i t x y q D;split at B
  .rename_i id sz i off j U hy;exact RJ F q D U hy B H
  .rename_i id off j sz n U hy;exact P8 F q D U hy B H
  .rename_i sa sv _ hnr U hy;exact XQ F q D U hy B H
  .cases B
 .rename_i d t r q D;split at B
  .rename_i k e hu;cases hb:uF P st r with
   |false=>simp_all
   |true=>
    rw[hb] at B;simp only[ai] at B;cases hrw:h.rows.contains d with
    |true=>
     rw[hrw] at B;simp only[ai] at B;split at B
     .split at B
      .injection B with B;subst B;exact Tw F (S d q) q D hu hb H
      .cases B
     .cases B
    |false=>
    rw[hrw] at B;simp only[aA,aN] at B;subst B;exact Qd F (S d q) q D hu hb H
  simp_all
 .rename_i t m k x q D;cases hrm:pT h m with
  |true=>rw[hrm] at B;exact Qe F q (.inl D) B H
  |false=>rw[hrm] at B;exact Dv F q (.inl D) B H
 .rename_i t m k x q D;cases hrm:pT h m with
  |true=>rw[hrm] at B;exact Qe F q (.inr D) B H
  |false=>rw[hrm] at B;exact Dv F q (.inr D) B H
 .rename_i d t m k q D;cases hrm:pT h m with
  |true=>rw[hrm] at B;exact XM F (S d q) q D B H
  |false=>rw[hrm] at B;cases B
 .rename_i d t x q D;split at B
  .rename_i s ht U;injection B with B;subst B;exact XO F (S d q) q D ht U H
  .cases B
 .rename_i d x q D;split at B
  .rename_i id U;split at B
   .rename_i s pos sg;refine Z0 F (S d q) q D U sg ?_;grind
   .cases B
  .cases B
 .rename_i d t parts q D;cases hrw:h.rows.contains d with
  |false=>rw[hrw] at B;cases B
  |true=>rw[hrw] at B;exact KG F (S d q) q D B H
 .rename_i d t x q D;cases Yb:h.take.contains d with
  |false=>rw[Yb] at B;cases B
  |true=>rw[Yb] at B;exact K0 F (S d q) q D B H
 .rename_i d g first caps q D
  cases hfi:first.isEmpty with
  |false=>rw[hfi] at B;cases B
  |true=>
   rw[hfi] at B;simp only[ai] at B;split at B
   .rename_i st1 hp;simp only[bZ] at B;obtain⟨vs,hcs,rfl⟩:=B;exact Mx F (S d q) q D hfi hp hcs H
   .cases B
 .rename_i d c D;split at B
  .rename_i hc;split at B
   .rename_i d' x y t t' q I Bl;split at B
    .rename_i e s id sy hs U hy;split at B
     .rename_i e' sz xs sz' ys i sg hel hi;split at B
      .rename_i G;obtain⟨rfl,rfl,rfl,rfl,hpos,hby,V,hz,O⟩:=G;injection B with B;subst B;have ho':o.op= .call { callee:= .builtin .append,args:= #[x,y],argTypes:= #[t,t] }:=by
        rw[D];obtain⟨cal,⟨as⟩,⟨ts⟩⟩:=c;simp only at hc I Bl;subst hc;subst I;subst Bl;rfl
       refine Tu F (S d' q) q ho' hs U hy sg hel hi hpos hby V hz ?_ H;simp only[iI,fq] at O;rcases O with hm|hm
       .left;simpa[cD] using hm
       simp_all
      simp_all
     .rename_i e' sz k e2 s2 xs zs sz' ys i sg hel hi;split at B
      .rename_i G;obtain⟨rfl,rfl,rfl,rfl,hpos,hby,V,hz,O,hall⟩:=G;injection B with B;subst B;have ho':o.op= .call { callee:= .builtin .append,args:= #[x,y],argTypes:= #[t,t] }:=by
        rw[D];obtain⟨cal,⟨as⟩,⟨ts⟩⟩:=c;simp only at hc I Bl;subst hc;subst I;subst Bl;rfl
       refine Qc F (S d' q) q ho' hs U hy sg hel hi hpos hby V hz ?_ hall H;simp only[iI,fq] at O;rcases O with hm|hm
       .simp_all
       simp_all
      simp_all
     simp_all
    .rename_i e s id sy hs U hy;split at B
     .rename_i e' sz xs sz' ys i sg hel hi;split at B
      .rename_i G;obtain⟨rfl,rfl,rfl,rfl,hpos,hby,V,hz,O,hne⟩:=G;injection B with B;subst B;have ho':o.op= .call { callee:= .builtin .append,args:= #[x,y],argTypes:= #[t,t] }:=by
        rw[D];obtain⟨cal,⟨as⟩,⟨ts⟩⟩:=c;subst hc;subst I;subst Bl;rfl
       refine Qb F (S _ q) q ho' hs U hy sg hel hi hpos hby V hz ?_ hne H;simp[iI,fq] at O;rcases O with hm|hm
       .simp_all
       simp_all
      simp_all
     simp_all
    simp_all
   simp_all
  .grind[Tv]
  .grind[XL]
  .rename_i f hc;cases how:o.dst.any h.owns.contains with
   |true=>grind[KA]
   |false=>
   rw[how] at B;replace B:=E4 B;cases hw:wide st c f with
   |true=>simp only[hw,ai] at B;grind[zT]
   |false=>
   cases MU:c.args.toList.any (λx=>(ou h st x).isSome) with
   |true=>simp only[MU,ai] at B;grind[KB]
   |false=>
   simp only[MU] at B;split at B
   .rename_i st1 hp;split at B
    .split at B
     .rename_i r hr;cases MQ:(c.args.toList.any (kK st1)|| !r.kF) with
      |true=>grind
      |false=>obtain⟨μ1,h1⟩:=E7 F hp;rw[mF] at MQ;grind[HY]
     simp_all
    simp_all
   simp_all
  simp_all
 simp_all
def rD:∀{l:List SV} {μ:Mu} {loc:Nat->Value} {st st':St} {a:Act} {w:World},Rel N w0 μ0 L μ loc st a w->ot l st=some st'->∃B,μ.le B/\Rel N w0 μ0 L B loc st' a w
 |[],μ,loc,st,st',a,w,D,q=>by simp only[ot,aN] at q;subst q;exact⟨μ,Mu.le.refl _,D⟩
 |s::l,μ,loc,st,st',a,w,D,q=>by
  unfold ot at q;split at q
  .rename_i e;cases e
  .rename_i id V e;injection e with e1 F;subst e1;subst F;obtain⟨st1,R,S⟩:=dM.1 q;obtain⟨μ1,I,G⟩:=D.dL R;obtain⟨O,z,H⟩:=rD G S;exact⟨O,I.trans z,H⟩
  .rename_i s' V U e;injection e with e1 F;subst e1;subst F;exact rD D q
def Sa (B:Rel N w0 μ0 L μ loc st a w) (l:fQ L.q μ0 P cI) {o:Oper} (D:∀i,o.dst=some i->i<N) (q:step0 P h cI o st=some st') (z:mM N w0 μ0 L st' K):o.uB P a w K Q:=by
 unfold step0 at q;split at q
 .rename_i v F;injection q with q;subst q;exact TJ B l D F z
 .exact XP B l D q z
def Aj:∀{l:List Nat} {st st':St} {μ:Mu} {loc:Nat->Value} {a:Act} {w:World},Rel N w0 μ0 L μ loc st a w->nD l st=some st'->∃q,μ.le q/\Rel N w0 μ0 L q loc st' a w
 |[],st,st',μ,loc,a,w,B,F=>by simp only[nD,aN] at F;subst F;exact⟨μ,Mu.le.refl _,B⟩
 |t::l,st,st',μ,loc,a,w,B,F=>by
  simp only[nD] at F;obtain⟨O,z,S⟩:=dM.1 F;obtain⟨U,I,G⟩:∃q,μ.le q/\Rel N w0 μ0 L q loc O a w:=by
   unfold vf at z;split at z
   .exact B.dL z
   .split at z
    .exact rD B z
    .cases z
   .injection z with z;subst z;exact⟨μ,Mu.le.refl _,B⟩
  obtain⟨R,D,H⟩:=Aj G S;exact⟨R,I.trans D,H⟩
def JJ (G:Rel N w0 μ0 L μ loc st a w) (l:fQ L.q μ0 P cI) {o:Oper} (H:∀i,o.dst=some i->i<N) (z:step P h cI o st=some st') (F:mM N w0 μ0 L st' K):o.uB P a w K Q:=by unfold step at z;obtain⟨I,B,D⟩:=dM.1 z;obtain⟨O,_,q⟩:=Aj G B;exact Sa q l H D F
def yY (H:Rel N w0 μ0 L μ loc st a w) {B:Array Oper} {o:Oper} {b:Bool} (l:pG B o st=some b):Region.wanted o (yielded B a.tmps)=b:=by
 unfold pG at l;unfold Region.wanted;split at l
 .rename_i D;injection l with l;subst l;rw[D]
 .rename_i j I D;rw[D];simp only;split at l
  .rename_i d q;split at l
   .rename_i t F;injection l with l;subst l;obtain⟨v,G,z⟩:=H.env d _ F;simp only[gH,rep] at z;subst z;simp[yielded,q,G]
   .rename_i F;injection l with l;subst l;obtain⟨v,G,z⟩:=H.env d _ F;have z:v=undef:=z;subst z;simp[yielded,q,G,undef]
   .cases l
  .cases l
def D8 (B:fQ L.q μ0 P cI) {I:Array Oper}:∀{l:List Oper} {st:St} {μ:Mu} {loc:Nat->Value} {a:Act} {w:World},Rel N w0 μ0 L μ loc st a w->(∀o∈l,∀i,o.dst=some i->i<N)->pV P h cI I l st=some st'->
  (∀U w' O z,Rel N w0 μ0 L O z st' U w'->Q .normal U w')->∀F,Wd F->wpListIn F 0 P I Q l a w:=by
 intro l;induction l with
 |nil=>intro st μ loc a w H _ q R F G;simp only[pV,aN] at q;subst q;exact R _ _ _ _ H
 |cons o l ih=>
  intro st μ loc a w H S q R F G;simp only[pV] at q;split at q
  .rename_i b hw;have D:=yY H hw;unfold wpListIn;rw[D];cases b with
   |true=>simp only[ai] at q;simp only[fS];cases hs:step P h cI o st with
    |none=>simp[hs] at q
    |some st1=>simp[hs] at q;exact JJ H B (S o ah) hs (λU w' O z h1=>ih h1 (λp V=>S p (by simp[V])) q R F G) F G
   |false=>simp only[aA] at q;simp only[cW,eC];exact⟨λf _=>G.fn f,ih (H.set (S o ah) (show gH μ loc .undef undef from rfl)) (λp V=>S p (by simp[V])) q R F G⟩
  .cases q
end
