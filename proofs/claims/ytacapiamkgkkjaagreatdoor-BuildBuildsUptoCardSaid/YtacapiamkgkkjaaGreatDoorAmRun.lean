/- THE ABSTRACT MACHINE. -/
import Derived.Test.YtacapiamkgkkjaaGreatDoorAmEff
set_option linter.all false
namespace Go.AM
open Go.RowKit
def Lq (μ:Mu) (w:World):Prop:=∀b j v,μ b j=some v->Hu w b j=some v
def gZ (q:Qp) (loc:Nat->Value) (names:List Nat):sI:=⟨λid=>if id∈names then some (loc id) else none,q⟩
def VE (loc:Nat->Value) (cL:List (Nat×Ob)):Prop:=∀i j l q,find cL i=some l->find cL j=some q->i≠j->∀g,lE (loc i) g->¬lE (loc j) g
structure fF (q:Qp) (μ:Mu) (loc:Nat->Value) (names:List Nat) (r:AV) (A9:List (Nat×Ob)) (w:World) (v:Value) (μ':Mu) (loc':Nat->Value) (w':World):Prop where
 ext:μ.extL w.heap.size (gZ q loc names) μ'
 xI:Lq μ' w'
 res:rep μ' r v\/(∃n A m c,r= .self n/\10000∈names/\loc' 10000= .slice A m c/\n<=m/\v= .slice A n c)\/
  (∃x,r= .gM [.gM [.self 0, .qz,x]]/\fQ μ' loc' (vE x) v/\(vE x).closed (A9.map (·.1))=true)\/
  ∃e sz xs vs,r= .gM [.gM [.self e, .dy sz xs]]/\w'.ownsRow 0 e sz v xs.length vs/\cW μ' sz xs vs/\∀g,bI v=some g->(w.heap.size<=g\/Uf (gZ q loc names) g)/\(∀j,μ' g j=none)/\∀id o,find A9 id=some o->¬lE (loc' id) g
 obs:∀id o,find A9 id=some o->ni w.heap.size (gZ q loc names) μ' loc' w' id o
 apart:VE loc' A9
 keep:∀b,b<w.heap.size->¬Mz (gZ q loc names) b->w'.heap[b]? =w.heap[b]?
 fix:∀id,id∈names->10000<=id->id<20000->loc' id=loc id
 os:w'.os=w.os
 tape:w'.tape=w.tape
 output:w'.output=w.output
 grown:w.heap.size<=w'.heap.size
 drawn:q->w.drawn<=w'.drawn
def Re {n:Nat} {q:Qp} {loc:Nat->Value} {μ l:Mu} (h:μ.extL n (gZ q loc []) l):μ.ext n l:=⟨h.1,λb j v z=>by
 rcases h.2 b j v z with h|h|⟨_,_,_,_,B,_⟩
 .exact .inl h
 .exact .inr h
 .simp[gZ] at B⟩
def fF.pure {q:Qp} {μ:Mu} {loc:Nat->Value} {names:List Nat} {r:AV} {l:List (Nat×Ob)} {w:World} {v:Value} {B:Mu} {z:Nat->Value} {F:World} (h:fF q μ loc names r l w v B z F) (D:r.jF=true):rep B r v:=by
 rcases h.res with h|⟨n,A,m,c,rfl,_⟩|⟨x,rfl,_⟩|⟨e,G,xs,H,rfl,_⟩<;>try cases D
 .exact h
def OM {r:AV} (h:r.plain=true):r.jF=true:=by cases r with
 |self n=>cases h
 |gM z=>
  have:z.any AV.Wk=false:=by rw[uy];intro x q l;have:=cF.1 (h) x q;cases x<;>simp[AV.Wk,AV.scalar] at l this
  simp[AV.jF,this]
 |_=>rfl
def IN (P:Program) (u:Value) (args:Array Value) (w:World) (R:Ending->World->Prop):Prop:=
 ∃(l:Nat) (f:FuncId) (z:Array Value) (q body:Code),u= .func (.yield l) #[] #[]/\(Instr.yield l args).run P w= .ok (.round l f z q body) w/\∀F,Wd F->RoundIn F (0-1) P l f z q body w R
def iw (q:Qp) (B:Mu) (P:Program) (cC:eM):Prop:=∀g args cL r l,cC g args cL=some (r,l)->∀(w:World) (μ:Mu) (loc:Nat->Value) (F:List Value),B.le μ->Lq μ w->
 (∀id o,find cL id=some o->ni w.heap.size (gZ q loc (cL.map (·.1))) μ loc w id o)->VE loc cL->ia μ loc args F->
 (g<2000000/\(∀H,(callFunc g F.toArray).run P H= .ok (.enter g F.toArray) H)/\
  Calls P g F.toArray w λe G=>∃v D z,e= .returned v/\fF q μ loc (cL.map (·.1)) r l w v D z G)\/
 (2000000<=g/\(∃xs,find cL 10000=some (.lp xs))/\∃as v,F=as++[v]/\
  IN P (clV g [v]) as.toArray w λe G=>∃v D z,e= .returned v/\fF q μ loc (cL.map (·.1)) r l w v D z G)
def iw.noY {A B C R:Prop} {cL:List (Nat×Ob)} {D:Prop} (h:(A/\B/\C)\/(D/\(∃xs,find cL 10000=some (.lp xs))/\R)) (l:∀xs,find cL 10000≠some (.lp xs)):B/\C:=by simp_all
def iw.mono {q:Qp} {B D:Mu} {P:Program} {cC:eM} (h:iw q B P cC) (F:B.le D):iw q D P cC:=
 λg args cL r z G w μ loc H l=>h g _ _ r _ G w _ _ _ (F.trans l)
section
variable {P:Program} {N:Nat} {w0:World} {μ0:Mu} {L:sI} {μ:Mu} {loc:Nat->Value} {st st':St} {a:Act} {w:World} {Q:Exit->Act->World->Prop} {K:Act->World->Prop} {h:Hint} {cC:eM}
def F5 {l:Type} {c:Bool} {x:Option l} {v:l} (h:(bif c then none else x)=some v):x=some v:=by grind
theorem tC {l:Type} {j i:Nat} {x v:l} (q:find [(j,x)] i=some v):i=j:=by grind[find,beq_iff]
def vI (O:Rel N w0 μ0 L μ loc st a w) {q:Mu} (l:μ.le q):∀{z:List oC} {D:List AV} {B:List Value},kE st z=some D->kP μ loc z B->
  (∀id,oC.r id∈z->∀b j x,lE (loc id) b->Hu w b j=some x->q b j=some x)->cI q D B
 |[],D,B,h,k,_=>by simp[kE,aM] at h;subst h;assumption
 | .v a::z,D,B,h,⟨u,_,e,H,I⟩,G=>by subst e;simp[kE,cv] at h;obtain⟨vs',U,rfl⟩:=h;exact cK (yd l _ _ H) (vI O l U I λid R=>G _ (by simp[R]))
 | .r _::z,D,B,h,⟨u,_,e,H,I⟩,G=>by
  subst e;simp[kE] at h;split at h
  .rename_i v vs' U V;injection h with h;subst h;obtain⟨ob,S,F⟩:=dx.1 U;refine cK ?_ (vI O l V I λid R=>G _ (by simp[R]));have e :=H;rw[e];exact P8 (O.obs _ _ S) F l (λb j x hb hc=>G _ ai b j x hb hc)
  grind
 | .p _::z,D,B,h,_,_=>by simp[kE] at h
def UK (O:Rel N w0 μ0 L μ loc st a w) {s:SV} {v:AV} {u:Value} (l:mE st s=some v) (I:fQ μ loc s u) {F:Mu} (B:μ.le F)
  (z:∀id∈s.O2,∀b j x,lE (loc id) b->Hu w b j=some x->F b j=some x):rep F v u:=by
 cases s with
 |pv x=>simp[mE,aM] at l;subst l;exact yd B _ _ I
 |row id=>obtain⟨ob,D,H⟩:=dx.1 l;have e :=I;rw[e];exact P8 (O.obs _ _ D) H B (λb j x hb R=>z _ (by simp[SV.O2,SV.ids]) b j x hb R)
 |ag cs=>simp[mE,cv] at l;obtain⟨vs,hv,rfl⟩:=l;obtain⟨us,rfl,R,h1⟩:=I;exact⟨us,rfl,vI O B hv R (λid hi=>z _ (fe.2 ⟨_,hi,rfl⟩)),h1⟩
 |aq id q=>cases q with
  |full=>simp[mE] at l
  |bs n=>simp[mE] at l
  |nr i=>
   simp[mE] at l;split at l
   .rename_i e sz k U s' xs ys D;split at l
    .rename_i zs hy;obtain⟨m,us,vs,S,hm,V,hrc,hk,h2,h3,h4,h5,h6,h7⟩:=O.obs _ _ D;obtain⟨u',cells,k1,k2,k3,k4,k5⟩:=h4 i _ hy;obtain⟨m',us',e1,_,G⟩:=I;rw[S] at e1;have U:=aR Array.toList (Value.tuple.inj e1);obtain⟨rfl,rfl⟩:=U;have hu:u'=u:=by
      rcases G _ k1 with G|G
      .subst G;rcases k3.2 with⟨e1,_⟩|⟨g,cap,cur,e1,_⟩<;>simp[undef] at e1
      .exact G
     grind[Bx,SV.O2,kB]
    simp_all
   simp_all
 |_=>simp[mE] at l
def A8 {id:Nat}:∀{l:List oC} {z:List AV},kE st l=some z->id∈(SV.ag l).ids->∃G,st.ob id=some G
 |[],_,_,h=>by simp[SV.ids] at h
 | .v a::l,z,h,q=>by simp[kE,cv] at h;obtain⟨D,F,rfl⟩:=h;exact A8 F (by assumption)
 | .r j::l,z,h,q=>by
  simp[kE] at h;split at h
  .rename_i v D F B;simp only[SV.ids,List.filterMap_cons,aI] at q;rcases q with rfl|q
   .grind[Option.bind_eq_some_iff]
   .exact A8 B (by assumption)
  grind
 | .p j::l,z,h,_=>by simp[kE] at h
def lend_ob {s:SV} {v:AV} (h:mE st s=some v) {id:Nat} (z:id∈s.O2):∃B,st.ob id=some B:=by cases s with
 |pv x=>simp[SV.O2,SV.ids] at z
 |row j=>simp only[SV.O2,SV.ids,bS] at z;subst z;obtain⟨B,l,_⟩:=dx.1 (h:(st.ob id).bind Ob.val=some v);exact⟨B,l⟩
 |ag F=>simp only[mE,cv] at h;obtain⟨G,D,_⟩:=h;exact A8 D z
 |aq j q=>simp only[SV.O2,bS] at z;subst z;cases q with
  |full=>simp[mE] at h
  |bs n=>simp[mE] at h
  |nr i=>
   simp only[mE] at h;split at h
   .rename_i l;exact⟨_,l⟩
   .cases h
 |_=>simp[mE] at h
def CG (I:Rel N w0 μ0 L μ loc st a w) {q:Mu} (D:μ.le q) {xs:List Operand} {G:List TypeId} {H:List AV} (h:jM P st xs G=some H)
  (l:∀x∈xs,∀t s v,bG P t st x=some s->mE st s=some v->∀id∈s.O2,∀b j x,lE (loc id) b->Hu w b j=some x->q b j=some x):cI q H (xs.map a.eval):=by
 induction xs generalizing G H with
 |nil=>simp[jM] at h;subst h;exact dM
 |cons x xs R=>
  simp only[jM] at h;split at h
  .rename_i v U z F;injection h with h;subst h;cases B:bG P (G.headD 0) st x with
   |none=>rw[B] at z;cases z
   |some S=>rw[B] at z;simp only[eG] at z;exact cK (UK I z (aZ I B) D (l x ai _ S _ B z)) (R F (λy O=>l y (by simp[O])))
  .cases h
def YN {μ q:Mu} {r:AV} {v:Value} (h:r.plain=true) (k:rep μ r v):rep q r v:=by
 have sc:∀(r:AV) (v:Value),r.scalar=true->rep μ r v->rep q r v:=λr v h k=>by cases r<;>simp[AV.scalar] at h<;>simpa[rep] using k
 cases r with
 |gM O=>rw[rep] at k⊢;obtain⟨D,e,l⟩:=k;refine⟨D,e,?_⟩;simp only[AV.plain] at h;clear e;induction O generalizing D with
  |nil=>simpa[cI] using l
  |cons x xs I=>rw[cI] at l;obtain⟨u,z,rfl,G,H⟩:=l;simp only[gH,aK] at h;exact cK (sc _ _ h.1 G) (I h.2 z H)
 |bool b=>exact sc _ _ rfl k
 |int b n=>exact sc _ _ rfl k
 |str s=>exact sc _ _ rfl k
 |dy U xs=>simp[AV.plain,AV.scalar] at h
 |agg F=>simp[AV.plain,AV.scalar] at h
 |fn f B=>simp[AV.plain,AV.scalar] at h
 |ref F=>simp[AV.plain,AV.scalar] at h
 |mp S R=>simp[AV.plain,AV.scalar] at h
 |self n=>simp[AV.plain,AV.scalar] at h
 |qz=>simp[AV.plain,AV.scalar] at h
 |tH=>simp[AV.plain,AV.scalar] at h
 |hole=>simp[AV.plain,AV.scalar] at h
def D7 {D:Mu} {B:Nat->Value} {r:AV} {l:List (Nat×Ob)} {u:Value} {F:World} {q:Qp} (z:fF q μ loc [] r l w u D B F):Below w.heap.size w F:=
 ⟨z.os,z.tape,z.output,z.grown,λb G=>z.keep b G (by rintro⟨id,v,h,_⟩;simp[gZ] at h)⟩
def IK {o:Oper} {c:Call} {f:Operand} {g:Nat} {q l:List Value} {r:AV} {A9:List (Nat×Ob)} (S:o.op= .call c) (hc:c.callee= .value f) (hf:a.eval f= .func (.func g) #[] l.toArray)
  (H:c.args.toList.map a.eval=q) (he:∀U,(callFunc g (q++l).toArray).run P U= .ok (.enter g (q++l).toArray) U)
  {R:Value->World->Prop} (D:Calls P g (q++l).toArray w λe z=>∃v,e= .returned v/\R v z) (hK:∀v z,R v z->K (a.put o.dst v) z):o.tU P a w K Q:=by
 have B:c.args.map a.eval=q.toArray:=by rw[<-H,<-Array.toList_map]
 refine Ll (λc' G=>by rw[S] at G;cases G) (x:= .enter g (q++l).toArray) (w':=w) ?_ λF O=> ?_
 .unfold execOp;rw[S];simp only[resolve,hc,hf,Deferred.ofValue,invoke,gj,lZ,gG,B];have e:(#[]++q.toArray)++l.toArray=(q++l).toArray:=ai;rw[e,he w]
 .refine⟨O.one,?_⟩;have I:CallsIn Fence.wide (0-1) P g (q++l).toArray w _:=uz.2 D;have V:CallsIn F (0-1) P g (q++l).toArray w (λe z=>∃v,e= .returned v/\R v z):=by
   have:=O;unfold Wd at this;rw[<-this] at I;exact I
  refine V.mono ?_;rintro e z ⟨v,rfl,hr⟩;exact hK v z hr
def ada {o:Oper} {c:Call} {f:Operand} {g:Nat} {z q l:List Value} (U:o.op= .call c) (hc:c.callee= .value f) (hf:a.eval f= .func (.func g) z.toArray l.toArray)
  (I:c.args.toList.map a.eval=q) (he:∀V,(callFunc g (z++(q++l)).toArray).run P V= .ok (.enter g (z++(q++l)).toArray) V)
  {R:Value->World->Prop} (G:Calls P g (z++(q++l)).toArray w λe B=>∃v,e= .returned v/\R v B) (hK:∀v B,R v B->K (a.put o.dst v) B):o.tU P a w K Q:=by
 have D:c.args.map a.eval=q.toArray:=by rw[<-I,<-Array.toList_map]
 refine Ll (λc' H=>by rw[U] at H;cases H) (x:= .enter g (z++(q++l)).toArray) (w':=w) ?_ λF S=> ?_
 .unfold execOp;rw[U];simp only[resolve,hc,hf,Deferred.ofValue,invoke,gj,lZ,gG,D];have e:(z.toArray++q.toArray)++l.toArray=(z++(q++l)).toArray:=ai;rw[e,he w]
 .refine⟨S.one,?_⟩;have O:CallsIn Fence.wide (0-1) P g (z++(q++l)).toArray w _:=uz.2 G;have h2:CallsIn F (0-1) P g (z++(q++l)).toArray w (λe B=>∃v,e= .returned v/\R v B):=by
   have:=S;unfold Wd at this;rw[<-this] at O;exact O
  refine h2.mono ?_;rintro e B ⟨v,rfl,hr⟩;exact hK v B hr
def IN.mono {u:Value} {args:Array Value} {R z:Ending->World->Prop} (h:IN P u args w R) (S:∀e D,R e D->z e D):IN P u args w z:=by obtain⟨l,f,B,q,body,G,H,I⟩:=h;exact⟨l,f,_,_,_,G,H,λF O=>(I F O).mono S⟩
def adb {o:Oper} {c:Call} {f:Operand} (ho:o.op= .call c) (V:c.callee= .value f) {R:Value->World->Prop}
  (O:IN P (a.eval f) (c.args.toList.map a.eval).toArray w λe D=>∃v,e= .returned v/\R v D) (U:∀v D,R v D->K (a.put o.dst v) D):o.tU P a w K Q:=by
 obtain⟨l,g,B,q,body,hf,I,z⟩:=O;have G:c.args.map a.eval=(c.args.toList.map a.eval).toArray:=by grind
 refine Ll (λc' S=>by simp_all) (x:= .round l g B q body) (w':=w) ?_ λF H=> ?_
 .simp_all[execOp,resolve,Deferred.ofValue,invoke]
 .refine⟨H.one,(z F H).mono ?_⟩;simp_all
def Jt (z:Rel N w0 μ0 L μ loc st a w) {f:Operand} {g:Nat} {l:List AV} (h:bG P 0 st f=some (.pv (.fn g l))):∃q:List Value,a.eval f= .func (.func g) #[] q.toArray/\cI μ l q:=by have:=aZ z h;assumption
theorem SG {x:Operand} (h:lC st x=false) {t:TypeId} {s:SV} {v:AV} (e:bG P t st x=some s) (l:mE st s=some v):s.O2=[]:=by cases x with
 |tmp i=>simp[bG] at e;cases s with
  |pv x=>rfl
  |row j=>simp[lC,e] at h
  |ag z=>simp[lC,e] at h
  |aq j q=>simp[lC,e] at h
  |_=>simp[mE] at l
 |const v=>simp[bG] at e;cases B:ofConst P t v<;>simp_all;subst e;rfl
 |func f=>simp[bG] at e;subst e;rfl
 |global g=>simp[bG] at e
theorem Ja (G:Rel N w0 μ0 L μ loc st a w) (B:iw L.q μ0 P cC) {o:Oper} {c:Call} {f:Operand} {g:Nat} {O vs:List AV} {r:AV} (hd:∀i,o.dst=some i->i<N) (ho:o.op= .call c) (hc:c.callee= .value f)
  (hf:bG P 0 st f=some (.pv (.fn g O))) (hvs:jM P st c.args.toList c.argTypes.toList=some vs) (hr:cC g ((vs++O).map .pv) []=some (r,[]))
  (hp:(r.plain|| !(c.args.toList.any (lC st)))=true) (Wg:r.jF=true) (hK:mA N w0 μ0 L (st.set o.dst (.pv r)) K):o.tU P a w K Q:=by
 obtain⟨cs,Ym,hcs⟩:=Jt G hf;cases NY:c.args.toList.any (lC st) with
 |false=>
  have z:=CG G (Mu.le.refl _) hvs (λx hx t s v e hl id hi=>by grind[SG]);obtain⟨he,hC⟩:=iw.noY (B g _ _ r _ hr w _ loc _ G.base.1 G.xI (by simp[find]) (by intro i j oi oj hi;simp[find] at hi) (sd (oy z hcs))) λxs=>by simp[find]
  refine IK (R:=λv w'=>∃D q,fF L.q μ loc [] r [] w v D q w') (r:=r) (A9:=[]) ho hc Ym rfl he (hC.mono ?_) ?_
  .simp
  .rintro v w' ⟨D,q,H⟩;exact hK _ _ _ _ ((G.grow (Re H.ext) H.xI (D7 H) H.drawn).set hd (H.pure Wg))
 |true=>
  have I :=by simpa[NY] using hp
  let l :=λb=>∃id ob,st.ob id=some ob/\lE (loc id) b
  have:∀b,Decidable (l b):=λb=>Classical.propDecidable _
  let F :=λb j=>if l b then Hu w b j else μ b j
  have S:μ.le F:=λb j v hv=>by
   by_cases hb:l b
   .obtain⟨id,ob,U,Y4⟩:=hb;have:=((G.obs _ _ U).block b Y4).2.2 j;simp_all
   grind
  have V:Lq F w:=λb j v hv=>by
   by_cases hb:l b
   .simpa[F,hb] using hv
   .exact G.xI b j v (by grind)
  have z:=CG G S hvs (λx hx t s v e hl id hi b j u hb R=>by
   obtain⟨ob,U⟩:=lend_ob hl hi;have hrow:l b:=⟨id,ob,U,hb⟩
   simpa[F,hrow] using R)
  obtain⟨he,hC⟩:=iw.noY (B g _ _ r _ hr w _ loc _ (G.base.1.trans S) V (by simp[find]) (by intro i j oi oj hi;simp[find] at hi) (sd (oy z (fT S _ _ hcs)))) λxs=>by simp[find]
  refine IK (R:=λv w'=>∃D q,fF L.q F loc [] r [] w v D q w') (r:=r) (A9:=[]) ho hc Ym rfl he (hC.mono ?_) ?_
  .simp
  .rintro v w' ⟨D,q,H⟩;exact hK _ _ _ _ ((G.V7 (D7 H) H.drawn).set hd (YN I (H.pure Wg)))
def Eb (G:Rel N w0 μ0 L μ loc st a w) {xs:List Operand} {D:List AV} (h:tX st xs=some D):cI μ D (xs.map a.eval):=by induction xs generalizing D with
 |nil=>simp_all[tX,dM]
 |cons x xs I=>cases x with
  |tmp i=>
   simp[tX] at h;split at h
   .rename_i v F B l;injection h with h;subst h;obtain⟨u,z,q⟩:=G.env i _ B
    have:a.eval (.tmp i)=u:=by simp[Act.eval,z]
    exact cK (by rw[this];exact q) (I l)
   .rename_i U F B l;injection h with h;subst h;obtain⟨u,z,q⟩:=G.env i _ B
    have:a.eval (.tmp i)=u:=by simp[Act.eval,z]
    obtain⟨b,R,S,e,H,O⟩:=q;exact cK (by rw[this];exact⟨b,_,S,e,H.1,H.2,O⟩) (I l)
   grind
  |_=>simp[tX] at h
def Ea (G:Rel N w0 μ0 L μ loc st a w) {xs:List Operand} {F:List oC} (h:qK st xs=some F):kP μ loc F (xs.map a.eval):=by induction xs generalizing F with
 |nil=>simp[qK] at h;subst h;rfl
 |cons x xs H=>cases x with
  |tmp i=>
   simp[qK] at h;split at h
   .rename_i v D B l;injection h with h;subst h;obtain⟨u,z,q⟩:=G.env i _ B
    have:a.eval (.tmp i)=u:=by simp[Act.eval,z]
    exact⟨_,_,rfl,by rw[this];exact q,H l⟩
   .rename_i O D B l;injection h with h;subst h;obtain⟨u,z,q⟩:=G.env i _ B
    have:a.eval (.tmp i)=u:=by simp[Act.eval,z]
    obtain⟨b,U,V,e,I,S⟩:=q;refine⟨_,_,rfl,?_,H l⟩;rw[this];exact⟨b,_,V,e,I.1,I.2,S⟩
   .rename_i id D B l;injection h with h;subst h;obtain⟨u,z,q⟩:=G.env i _ B
    have:a.eval (.tmp i)=u:=by simp[Act.eval,z]
    obtain⟨b,R,h2⟩:=q;exact⟨_,_,rfl,⟨b,R,by simp_all⟩,H l⟩
   grind
  |_=>simp[qK] at h
def NH (G:Rel N w0 μ0 L μ loc st a w) {o:Oper} {g:Nat} {first l:Array Operand} {d:Nat} {I:List AV} (hd:d<N) (z:o.dst=some d) (R:o.op= .makeFunc (.func g) first l) (F:first.isEmpty=true)
  (S:wR st l.toList=some st') (B:tX st' l.toList=some I) (V:mA N w0 μ0 L (st'.set (some d) (.pv (.fn g I))) K):o.tU P a w K Q:=by
 obtain⟨U,O,q⟩:=LN G G S;have H:=Eb q B;have D :=by simpa using F
 refine pN q (λi hi=>by simp_all) ⟨.func (.func g) #[] (l.toList.map a.eval).toArray,?_,?_⟩ (by rw[z];omega)
 .unfold execOp;rw[R,D];have e:l.map a.eval=(l.toList.map a.eval).toArray:=by grind
  simp[Instr.makeFunc,e]
 .show rep _ _ _;rw[rep];simp_all
theorem EW (q:Rel N w0 μ0 L μ loc st a w) {xs:List Operand} (h:mD.iq st xs=some st'):∃l,Rel N w0 μ0 L l loc st' a w:=by induction xs generalizing st μ with
 |nil=>grind[mD.iq]
 |cons x xs H=>cases x with
  |tmp i=>
   simp[mD.iq] at h;split at h
   .rename_i id G;cases z:st.cZ id with
    |none=>simp_all
    |some B=>obtain⟨D,_,F⟩:=q.cZ z;grind
   grind
  |_=>grind[mD.iq]
def F9 (q:Rel N w0 μ0 L μ loc st a w) {xs:List Operand} (h:mD.jG st xs=some st'):∃l,Rel N w0 μ0 L l loc st' a w:=by grind[mD.jG,EW]
def Rel.addOb (l:Rel N w0 μ0 L μ loc st a w) {id:Nat} {o:Ob} (O:st.ob id=none) (R:ni w0.heap.size L μ loc w id o)
  (z:∀j G,st.ob j=some G->∀g,lE (loc id) g->¬lE (loc j) g):Rel N w0 μ0 L μ loc { st with ob:=put st.ob id (some o) } a w:=by
 refine⟨l.small,l.names,l.fix,l.size,l.defers,l.env,l.xI,l.base,?_,?_,l.keep,l.os,l.tape,l.output,l.grown,l.drawn⟩
 .intro i F q;by_cases e:id=i
  .subst e;simp only[c7,aM] at q;subst q;exact R
  .exact l.obs i F (by simpa only[bR _ _ e] using q)
 .intro i j F G q D B g H;by_cases S:id=i
  .subst S;simp only[bR _ _ B] at D;exact z j G D g H
  .simp only[bR _ _ S] at q;by_cases U:id=j
   .subst U;intro I;exact z i F q g I H
   .simp only[bR _ _ U] at D;exact l.apart i j F G q D B g H
def LL (O:Rel N w0 μ0 L μ loc st a w) {locC:Nat->Value}:∀{xs:List Operand} {H:List TypeId} {F:List SV} {ids:List Nat},B6 P h st xs H=some (F,ids)->(∀id∈ids,locC 10000=loc id)->ia μ locC F (xs.map a.eval):=by intro xs;induction xs with
 |nil=>intro H F ids z _;simp only[B6,aM,bD] at z;obtain⟨rfl,rfl⟩:=z;rfl
 |cons x xs S=>
  intro H F ids z B;simp only[B6] at z;split at z
  .rename_i id I D l q;simp only[aM,bD] at z;obtain⟨rfl,rfl⟩:=z;refine⟨_,_,rfl,?_,S q (λi V=>B i (by simp[V]))⟩;show a.eval x=fH (locC 10000);rw[B id ai];cases x with
   |tmp t=>simp only[pE] at l;cases R:h.fP.contains t with
    |false=>rw[R] at l;cases l
    |true=>
     simp only[R,aj] at l;split at l
     .rename_i id' U;injection l with l;subst l;obtain⟨v,z,hr⟩:=O.env t _ U
      have:a.eval (.tmp t)=v:=by simp[Act.eval,z]
      rw[this];exact hr
     .cases l
   |_=>simp[pE] at l
  .rename_i I D l q;split at z
   .rename_i v G;simp only[aM,bD] at z;obtain⟨rfl,rfl⟩:=z;exact⟨_,_,rfl,fI O G,S q B⟩
   .cases z
  .cases z
theorem Lw (V:Rel N w0 μ0 L μ loc st a w) (wI:iw L.q μ0 P cC) {o:Oper} {c:Call} {f:Operand} {st1:St} (hd:∀i,o.dst=some i->i<N) (ho:o.op= .call c) (hc:c.callee= .value f)
  (H:qa P h cC st c f o.dst=some st1) (hK:mA N w0 μ0 L st1 K):o.tU P a w K Q:=by
 unfold qa at H;split at H
 .rename_i g caps vs id hf hvs;split at H
  .rename_i e sz xs qC;split at H
   .rename_i r' nm D F B hr;cases hb:(Nat.beq e D&&Nat.beq sz F&&Nat.beq nm 10000) with
    |false=>simp[hb] at H
    |true=>
     simp only[hb,aj] at H;simp only[aK] at hb;obtain⟨cs,Ym,hcs⟩:=Jt V hf;let z:Nat->Value:=λ_=>loc id
     have hok:=V.obs id _ qC;have hargs:=LL V (locC:=z) hvs (λi hi=>by simp at hi;subst hi;rfl);have RA:∀i oi,find [(10000,Ob.row e sz xs)] i=some oi->ni w.heap.size (gZ L.q z ([(10000,Ob.row e sz xs)].map (·.1))) μ z w i oi:=by intro i oi hi;simp only[find] at hi;cases hb':Nat.beq 10000 i with
      |false=>simp[hb'] at hi
      |true=>simp only[hb',aj,aM] at hi;subst hi;have:=beq_iff.1 hb';subst this;obtain⟨us,O,hrc,hm⟩:=hok;refine⟨us,O,hrc,λq U=>⟨.inr (.inr ⟨loc id,by simp[gZ,z],U⟩),(hm q U).2⟩⟩
     obtain⟨he,hC⟩:=iw.noY (wI g _ _ r' _ hr w μ z (c.args.toList.map a.eval++cs) V.base.1 V.xI RA (by
      intro i j oi oj hi hj hij;have h1:=tC hi;have h2:=tC hj
      omega) (mu hargs (sd hcs))) λxs h=>by simp[find] at h
     refine IK (R:=λv w'=>∃R G,fF L.q μ z ([(10000,Ob.row e sz xs)].map (·.1)) r' [(nm,Ob.row D F B)] w v R G w') (r:=r') (A9:=[]) ho hc Ym rfl he (hC.mono ?_) ?_
     .rintro e w' ⟨v,R,G,rfl,I⟩;exact⟨v,rfl,R,G,I⟩
     .rintro v w' ⟨R,G,I⟩;have hlb:∀b,Mz (gZ L.q z ([(10000,Ob.row e sz xs)].map (·.1))) b->lE (loc id) b:=by
       rintro b ⟨i,x,l,Tf⟩;simp only[gZ] at l;split at l
       .injection l with l;subst l;exact Tf
       .cases l
      have hng:∀b,¬Uf (gZ L.q z ([(10000,Ob.row e sz xs)].map (·.1))) b:=by
       rintro b ⟨i,x,h9,h10,l,_⟩;simp only[gZ] at l;split at l
       .rename_i hmem;simp at hmem;omega
       .cases l
      have h1:=(V.drop id).world (w':=w') (μ':=R) I.ext.1 (λb j x l=>by
        rcases I.ext.2 b j x l with l|l|l
        .exact .inl l
        .exact .inr (.inl (eE V.grown l))
        .exact absurd l (hng b)) I.xI (λk ok hk b hbk=>by
        by_cases D:id=k
        .subst D;simp[c7] at hk
        .simp only[bR _ _ D] at hk;obtain⟨_,hlt,Cr⟩:=(V.obs k ok hk).block b hbk;refine⟨I.keep b hlt (λhl=>V.apart id k _ ok qC hk D b (hlb b hl) hbk),λj=> ?_⟩;cases hj:R b j with
         |none=>rfl
         |some x=>
          rcases I.ext.2 b j x hj with l|l|l
          .rw[Cr j] at l;cases l
          .omega
          .exact absurd l (hng b)) (λb hb' hl=>I.keep b (eW hb' V.grown) (λhl'=>by
        have hbb:=hlb b hl';rcases(hok.block b hbb).1 with l|l|⟨x,l,Tf⟩
        .omega
        .exact hl l.cL
        .exact hl ⟨id,x,l,Tf⟩)) I.os I.tape I.output I.grown I.drawn
      have hnm:G nm=loc id:=by have:=beq_iff.1 hb.2;exact I.fix nm (by simp[this]) af af
      obtain⟨us,O,hrc,hm⟩:=I.obs nm (.row D F B) (by simp[find,gz]);rw[hnm] at O hm;split at H
      .rename_i n;cases Tg:(Nat.ble n B.length&&gE id) with
       |false=>rw[Tg] at H;cases H
       |true=>
       simp only[Tg,aj,aM] at H;subst H;simp only[aK] at Tg;have hnl:n<=B.length:=ff Tg.1;obtain⟨A,m,cp,S,hnm',hvv⟩:∃A m cp,G 10000= .slice A m cp/\n<=m/\v= .slice A n cp:=by
        rcases I.res with l|⟨n',A,m,cp,e1,_,h1,h2,h3⟩|⟨_,e1,_⟩|⟨_,_,_,_,e1,_⟩
        .rw[rep] at l;exact l.elim
        .injection e1 with e1;subst e1;exact⟨A,m,cp,h1,h2,h3⟩
        .cases e1
        .cases e1
       have e10:=beq_iff.1 hb.2;rw[e10] at hnm;rw[hnm] at S;have hid:id<10000\/20000<=id:=by
        have Lm:=Tg.2;simp only[gE,gA] at Lm;rcases Lm with hm|hm
        .left;simpa[cz] using hm
        .right;exact ff (aK _ _▸hm).1
       have hblk:∀q,lE v q↔lE (loc id) q:=λq=>by rw[hvv,S,gU,gU];cases A<;>rfl
       have h2:=h1.new (id:=id) (val:=v) (o:= .row D F (B.take n)) hid ?_ (λj oj hj hne q U=>by
        simp only[bR _ _ (dg hne)] at hj
        exact V.apart id j _ oj qC hj (dg hne) q ((hblk q).1 U))
       .have heq:(St.new { env:=st.env,ob:=put st.ob id none } id (.row D F (B.take n)))=st.new id (.row D F (B.take n)):=by
         simp only[St.new,St.dA];congr 1;funext k;by_cases D:id=k
         .subst D;simp[c7]
         .simp only[bR _ _ D]
        rw[heq] at h2;exact hK _ _ _ _ (h2.set hd (sv:= .row id) (Ky (by rw[hvv];rfl)))
       .have hlen:(B.take n).length=n:=aH;have Yq:=kU hrc n;refine⟨us.take (n *F),⟨by rw[dh Yq],?_⟩,Yq,λq U=> ?_⟩
        .rw[cN,hlen,hvv];rcases O.2 with⟨e1,e2⟩|⟨q,cap,cur,e1,k1,k2,k3,k4,k5,k6⟩
         .rw[S] at e1;simp only[Value.slice.injEq] at e1;obtain⟨rfl,rfl,rfl⟩:=e1
          have:n=0:=af
          subst this;exact .inl ⟨rfl,rfl⟩
         .rw[S] at e1;simp only[Value.slice.injEq] at e1;obtain⟨rfl,rfl,rfl⟩:=e1;refine .inr ⟨q,cp,cur,rfl,k1,k2,by omega,k4,k5,?_⟩;rw[<-k6,List.take_take,wC (jS _ hnl)]
        .rw[cN,hblk q] at U;exact⟨(hok.block q U).1,(hm q U).2⟩
      .rename_i Wg;cases Ms:r'.plain with
       |false=>rw[Ms] at H;cases H
       |true=>
       simp only[Ms,aj,aM] at H;subst H;have Ey:ni w0.heap.size L R loc w' id (.row D F B):=⟨us,O,hrc,λq U=>⟨(hok.block q U).1,(hm q U).2⟩⟩
       have h2:=h1.addOb (id:=id) (o:= .row D F B) (by simp[c7]) Ey (λj oj hj q U=>by
        by_cases D:id=j
        .subst D;simp[c7] at hj
        .simp only[bR _ _ D] at hj
         exact V.apart id j _ oj qC hj D q U)
       have heq:({ env:=st.env,ob:=put (put st.ob id none) id (some (.row D F B)) }:St)={ env:=st.env,ob:=put st.ob id (some (.row D F B)) }:=by
        congr 1;funext k;by_cases D:id=k
        .subst D;simp[c7]
        .simp only[bR _ _ D]
       rw[heq] at h2;exact hK _ _ _ _ (h2.set hd (I.pure (OM Ms)))
   .cases H
  .cases H
 .cases H
def Rr {n0:Nat} {nst:List (Nat×Nat×TypeId×Nat)} {id:Nat} {e:TypeId} {sz:Nat} {loc:Nat->Value}:∃val,fH val= .slice none 0 0/\(∀g,¬lE val g)/\ni n0 L μ (qB loc id val) w id (Eu nst id e sz):=by
 have r:∃val,fH val= .slice none 0 0/\(∀g,¬lE val g)/\ni n0 L μ (qB loc id val) w id (.row e sz []):=
  ⟨.slice none 0 0,rfl,λg l=>by simp[lE,bI] at l,[],⟨ai, .inl ⟨cN _ _ _,rfl⟩⟩,rfl,λg l=>by rw[cN] at l;simp[lE,bI] at l⟩
 unfold Eu;split
 .rename_i k F G _;cases z:Nat.blt k sz with
  |false=>exact r
  |true=>
   refine⟨.tuple (.slice none 0 0::([]:List Value)).toArray,rfl,λg l=> ?_, .slice none 0 0,[],[],cN _ _ _,λq B=>(by simp[bI] at B),⟨ai, .inl ⟨rfl,rfl⟩⟩,rfl,⟨cz.mp z,ai⟩,rfl,rfl,by simp,by simp,by simp,ai⟩;rcases kB.1 l with h|⟨u,D,_⟩
   .simp[bI] at h
   .simp at D
 .exact r
def qy (U:Rel N w0 μ0 L μ loc st a w) {z:List (Nat×Nat×TypeId×Nat)}:∀(l:List (Nat×TypeId×Nat)) (st:St) (loc:Nat->Value),Rel N w0 μ0 L μ loc st a w->(∀x∈l,x.1<10000)->
  ∃q,Rel N w0 μ0 L μ q (iJ z l st) a w/\(∀x∈l,fH (q x.1)= .slice none 0 0)/\∀i,fH (loc i)= .slice none 0 0->fH (q i)= .slice none 0 0
 |[],st,loc,h,_=>⟨loc,h,by simp,λ_ h=>h⟩
 |(id,e,s)::l,st,loc,h,I=>by
  obtain⟨val,H,D,F⟩:=Rr (L:=L) (μ:=μ) (w:=w) (n0:=w0.heap.size) (nst:=z) (id:=id) (e:=e) (sz:=s) (loc:=loc);have O:=h.new (id:=id) (val:=val) (o:=Eu z id e s) (.inl (I (id,e,s) ai)) F (λj oj hj _ g V=>absurd V (D g));obtain⟨q,R,S,G⟩:=qy U l _ _ O (λx B=>I x (by simp[B]));refine⟨q,R,λx B=> ?_,λi hi=>G i ?_⟩
  .rcases aI.1 B with rfl|B
   .exact G _ (by rw[cN];exact H)
   .exact S x B
  .by_cases e:i=id
   .subst e;rw[cN];exact H
   .rw[cS _ _ e];exact hi
def xm {d:Nat} {pz:List Nat}:∀(j:Nat) (U:List TypeId) (H:List Value) (z:List SV) (l:List (Nat×TypeId×Nat)),nV P pz d j U H=some (z,l)->
  (∀x∈l,x.1<10000)/\(∀u∈H,u.oneCell'=true)/\∀(loc:Nat->Value),(∀x∈l,fH (loc x.1)= .slice none 0 0)->ia μ loc z H
 |j,[],[],z,l,q=>by simp only[nV,aM,bD] at q;obtain⟨rfl,rfl⟩:=q;exact⟨ai,by simp,λ_ _=>rfl⟩
 |j,[],_::_,z,l,q=>by simp[nV] at q
 |j,_::_,[],z,l,q=>by simp[nV] at q
 |j,t::U,v::H,z,l,q=>by
  simp only[nV] at q;split at q
  .rename_i G l' B;obtain⟨V,i2,i3⟩:=xm (j+1) U H G l' B;split at q
   .rename_i e s hs;cases I:(Nat.blt 0 s&&Nat.blt (5000+16 *d+j) 10000) with
    |false=>rw[I] at q;cases q
    |true=>
     simp only[I,aj,aM,bD] at q;obtain⟨rfl,rfl⟩:=q;simp only[aK] at I;have S:5000+16 *d+j<10000:=by have:=I.2;simpa[cz] using this
     refine⟨λx F=> ?_,λu D=> ?_,λloc R=> ?_⟩
     .rcases aI.1 F with rfl|F
      .exact S
      .exact V x F
     .rcases aI.1 D with rfl|D
      .rfl
      .exact i2 u D
     .exact⟨_,_,rfl,(by show _=fH (loc _);rw[R (5000+16 *d+j,e,s) ai]),i3 loc (λx F=>R x (by simp[F]))⟩
   .simp only[cv,bD] at q;obtain⟨av,O,rfl,rfl⟩:=q;have hr:=wQ (μ:=μ) O;refine⟨V,λu D=> ?_,λloc R=>⟨_,_,rfl,hr,i3 loc R⟩⟩;rcases aI.1 D with rfl|D
    .unfold ofConst at O;split at O<;>first|rfl|cases O
    .exact i2 u D
  .cases q
def LA (G:Rel N w0 μ0 L μ loc st a w) {o:Oper} {d:Nat} {t:TypeId} {B:List SV} {l:List (Nat×TypeId×Nat)} (hd:d<N) (z:o.dst=some d) (ho:o.op= .alloc t)
  (hz:((yw P t).bind λI=>nV P ((find h.OF d).getD []) d 0 (sW P 8 t) I)=some (B,l)) (V:mA N w0 μ0 L (((iJ h.nest l st).new d (.box t (B.map (SV.dA d)))).set (some d) (.ptr d 0)) K):o.tU P a w K Q:=by
 obtain⟨I,q,F⟩:=dx.1 hz;unfold yw at q;split at q
 .simp at q;obtain⟨v,hzv,rfl⟩:=q;obtain⟨O,R,S⟩:=xm 0 _ _ _ _ F;obtain⟨H,D,U,_⟩:=qy G l _ _ G O;refine Eh D hd z ?_ (wS _ _ (S _ U)) R V;simp_all[execOp,Instr.alloc,zeroValue,typeInfo,newVar,newRow]
 simp_all
def OI (D:Rel N w0 μ0 L μ loc st a w) {s:SV} {l:List SV} {u:Value} (h:F7 st s=some l) (k:fQ μ loc s u):ia μ loc l u.cells.toList/\∀x∈u.cells.toList,x.oneCell'=true:=by
 unfold F7 at h;split at h
 .injection h with h;subst h;obtain⟨F,rfl,B,q⟩:=k;simp_all[Value.cells,sd]
 .cases z:oJ st s with
  |false=>simp_all
  |true=>rw[z] at h;simp at h;subst h;obtain⟨B,q⟩:=U4 D z k;rw[q];exact⟨⟨_,[],rfl,k,rfl⟩,by simp_all⟩
def GV (U:Rel N w0 μ0 L μ loc st a w) {place:Nat->Option (Nat×Nat)} {ty:Nat->TypeId}:∀{q:List (Nat×Operand)} {S:List (Nat×List SV)} {cells O:List SV} {I:List Value},qF P ty st q=some S->GU place cells S=some O->ia μ loc cells I->(∀u∈I,u.oneCell'=true)->
  ∃ws:List Value,Instr.fill place I.toArray (q.map λp=>(p.1,a.eval p.2))=some ws.toArray/\ia μ loc O ws/\∀u∈ws,u.oneCell'=true
 |[],S,cells,O,I=>λG H R h4=>by simp_all[qF,GU,Instr.fill]
 |(i,x)::q,S,cells,O,I=>λG H R h4=>by
  simp[qF] at G;split at G
  .rename_i l rest hx D;injection G with G;subst G;obtain⟨sx,V,hl⟩:=dx.1 hx;obtain⟨hc,hone⟩:=OI U hl (aZ U V);simp only[GU] at H;split at H
   .cases H
   .rename_i F size Ms;split at H
    .rename_i z;have hlen :=by
      have:=qh hc;simpa[z.1] using this
     have hvl:=qh R;have B:=mu (mu (DC R F) hc) (DB R (F+size));obtain⟨ws,hw,hr,ho⟩:=GV U D H B (λu hu=>by grind);simp[bu,Instr.fill];have hsp:=Hy I (a.eval x).cells.toList F 0 aH;grind[Array.toList_zipIdx]
    simp_all
  simp_all
def CB:∀{D:List SV} {l:List oC} {B:List Value},wE st D=some l->ia μ loc D B->kP μ loc l B
 |[],l,B=>λh k=>by simp[wE,aM] at h;subst h;exact k
 |s::D,l,B=>λh ⟨u,O,e,F,I⟩=>by
  simp[wE] at h;split at h
  .rename_i c G q z;injection h with h;subst h;refine⟨u,O,e,?_,CB z I⟩;unfold ZK at q;cases H:oJ st s with
   |false=>simp_all
   |true=>
    rw[H] at q;split at q
    .injection q with q;subst q;exact F
    .injection q with q;subst q;exact F
    simp_all
  grind
def LC (V:Rel N w0 μ0 L μ loc st a w) {hh:Hint} {o:Oper} {d:Nat} {t:TypeId} {q:Array (Nat×Operand)} (hd:d<N) (F:o.dst=some d) (ho:o.op= .build t q) (h:vj P hh st d t q.toList=some st') (hK:mA N w0 μ0 L st' K):o.tU P a w K Q:=by
 unfold vj at h;split at h
 .rename_i U svs l hu hz;cases G:U.toList.all (λf=>(lF P f.type).isSome) with
  |false=>simp_all
  |true=>
   rw[G] at h;simp only[aj] at h;split at h
   .rename_i ps R;split at h
    .rename_i cs O;injection h with h;subst h;obtain⟨sv2,hf,I⟩:=dx.1 O;obtain⟨vs,z,B⟩:=dx.1 hz;unfold yw at z;split at z
     .rename_i i hi;simp only[cv] at z;obtain⟨v,hzv,rfl⟩:=z;obtain⟨h1,h2,h3⟩:=xm 0 _ _ _ _ B;obtain⟨loc',D,h4,_⟩:=qy V l _ _ V h1;obtain⟨ws,hw,hr,H⟩:=GV D R hf (h3 _ h4) h2;refine gm (v:= .agg ws.toArray) (w':=w) ?_ ?_
      .obtain⟨S⟩:=U;have Ms:=run_places (w:=w) _ G;have hpe:(λx=>Option.map (λf:Field=>(f.offset,(lF P f.type).getD 0)) S[x]?)=pJ P t:=by
        funext x;simp[pJ,wG,hu,GB];cases hx:S[x]? with
        |none=>rfl
        |some fd=>grind[Option.isSome_iff_exists]
       simp_all[execOp,Instr.build,zeroValue,typeInfo,bJ]
      .rw[F];exact hK _ _ _ _ (D.set (λi hi=>by simp_all) ⟨ws,rfl,CB I hr,H⟩)
     simp_all
    grind
   grind
 grind
def mP:∀{l:List Nat},distinct l=true->l.Nodup
 |[],_=>yD
 |x::l,h=>by simp[distinct,aK] at h;refine fM.2 ⟨λq=> ?_,mP h.2⟩;simp_all
def mR {q:Type}:∀{l:List (Nat×q)} {i:Nat} {v:q},find l i=some v->(i,v)∈l
 |[],_,_,h=>by simp[find] at h
 |(j,u)::l,i,v,h=>by simp[find] at h;cases z:Nat.beq j i with
  |true=>simp_all
  |false=>simp[z] at h;exact dF _ (mR h)
theorem Mm {z:Type}:∀{l:List (Nat×z)} {i:Nat},find l i=none->i∉l.map (·.1)
 |[],_,_=>by simp
 |(j,u)::l,i,h=>by simp[find] at h;cases q:Nat.beq j i with
  |true=>simp_all
  |false=>simp[q] at h;simp only[bu,aI,nC];exact⟨λe=>by simp_all,Mm h⟩
def jL {z:Type}:∀{l:List (Nat×z)} {i:Nat} {v:z},(l.map (·.1)).Nodup->(i,v)∈l->find l i=some v
 |[],_,_,_,h=>by simp at h
 |(j,u)::l,i,v,q,h=>by
  simp at q;simp[find];rcases aI.1 h with h|h
  .simp_all
  .have:j≠i:=λe=>by simp_all
   rw[Zz this];exact jL q.2 h
def tG (q:Nat->Bool):∀(k:Nat) (l:List Nat),(iW q k l).map (·.1)=l
 |_,[]=>rfl
 |k,id::l=>by simp[iW,tG _ _ l]
def CK (q:Nat->Bool):∀(k:Nat) (l:List Nat),k+l.length<=10000->∀p∈iW q k l,(q p.1=true->20000+k<=p.2)/\(q p.1=false->10000+k<=p.2/\p.2<20000)
 |_,[],_,p,h=>by simp[iW] at h
 |k,id::l,z,p,h=>by
  simp only[bw] at z;simp only[iW,aI] at h;rcases h with rfl|h
  .cases B:q id<;>simp[B]<;>omega
  .have:=CK q (k+1) l af p h;exact⟨λe=>by have:=this.1 e;omega,λe=>by have:=this.2 e;omega⟩
def MJ (q:Nat->Nat):∀(k:Nat) (l:List Nat),(qq q k l).map (·.1)=l
 |_,[]=>rfl
 |k,id::l=>by simp[qq,MJ q _ l]
def q9 (q:Nat->Nat):∀(k:Nat) (l:List Nat),∀p∈qq q k l,p.1∈l/\q p.1+k<=p.2/\p.2<q p.1+k+l.length
 |_,[],p,h=>by simp[qq] at h
 |k,id::l,p,h=>by
  simp only[qq,aI] at h;rcases h with rfl|h
  .simp
  .obtain⟨z,B,D⟩:=q9 q (k+1) l p h;exact⟨by simp[z],by omega,by simp only[bw];omega⟩
def ClOK (q:Nat->Nat) (n:Nat) (l:List Nat):Prop:=n<=10000/\∀id∈l,q id=9000/\n<=1000\/q id=10000\/q id=20000
def G9 (q:Nat->Nat):∀(k:Nat) (l:List Nat),ClOK q (k+l.length) l->((qq q k l).map (·.2)).Nodup
 |_,[],_=>by simp[qq]
 |k,id::l,z=>by
  simp only[qq,bu,fM];have B:ClOK q (k+1+l.length) l:=⟨by have:=z.1;simp only[bw] at this;omega,λi I=>by have:=z.2 i (by simp[I]);simp only[bw] at this;omega⟩
  refine⟨λO=> ?_,G9 q (k+1) l B⟩;obtain⟨p,R,e⟩:=aD.1 O;obtain⟨H,S,U⟩:=q9 q (k+1) l p R;have D:=z.2 id ai;have F:=z.2 p.1 (by simp[H]);have G:=z.1;simp only[bw] at D F G;omega
def MI (q:Nat->Bool):∀(k:Nat) (l:List Nat),qq (EI q) k l=iW q k l
 |_,[]=>rfl
 |k,id::l=>by simp only[qq,iW,MI q _ l,EI];cases q id<;>rfl
def xy (q:Nat->Bool):∀(k:Nat) (l:List Nat),k+l.length<=10000->((iW q k l).map (·.2)).Nodup
 |_,[],_=>by simp[iW]
 |k,id::l,F=>by simp only[bw] at F;simp only[iW,bu,fM];refine⟨λG=> ?_,xy q (k+1) l af⟩;obtain⟨p,H,e⟩:=aD.1 G;have:=CK q (k+1) l af p H;cases B:q p.1 with
  |true=>have D:=this.1 B;cases z:q id<;>simp[z] at e<;>omega
  |false=>have D:=this.2 B;cases z:q id<;>simp[z] at e<;>omega
def yt:∀(m:List (Nat×Nat)),(swap m).map (·.1)=m.map (·.2)
 |[]=>rfl
 |(a,b)::l=>by simp[swap,yt l]
def Be:∀{m:List (Nat×Nat)} {a b:Nat},(a,b)∈m->(b,a)∈swap m
 |(x,y)::l,a,b,h=>by
  rcases aI.1 h with h|h
  .injection h with q z;subst q;subst z;simp[swap]
  .simp only[swap];exact dF _ (Be h)
def Bu {loc l:Nat->Value} {G:Nat->Nat} {names:List Nat} (q:∀j∈names,l (G j)=loc j):∀{z:List oC} {D:List Value},SV.closed names (.cl 0 z)=true->kP μ loc z D->kP μ l (z.map (oC.pG G)) D
 |[],D,_,h=>h
 |c::z,D,B,⟨u,R,e,F,H⟩=>by simp only[SV.closed,gH,aK] at B;refine⟨u,R,e,?_,Bu q (by simpa[SV.closed] using B.2) H⟩;cases c with
  |v a=>exact F
  |p id=>obtain⟨b,I,O⟩:=F;exact⟨b,by rw[q id (by simpa using B.1)];exact I,O⟩
  |r id=>show u=fH (l (G id));rw[q id (by simpa using B.1)];exact F
def Kt {loc z:Nat->Value} {R:Nat->Nat} {names:List Nat} (l:∀j∈names,z (R j)=loc j) {s:SV} {v:Value} (F:s.closed names=true) (h:fQ μ loc s v):fQ μ z (s.pG R) v:=by induction s generalizing v with
 |two s t V H=>obtain⟨x,y,e,h,D⟩:=h;obtain⟨U,c2⟩:=lP.1 F;exact⟨x,y,e,V U h,H c2 D⟩
 |undef=>exact h
 |any=>exact h
 |pv x=>exact h
 |cp cs=>exact h
 |ptr j I=>obtain⟨b,B,D⟩:=h;exact⟨b,by rw[l j (by simpa[SV.closed] using F)];exact B,D⟩
 |row j=>show v=fH (z (R j));rw[l j (by simpa[SV.closed] using F)];exact h
 |rp j sz i I=>obtain⟨g,n,c,B,D⟩:=h;exact⟨g,n,c,by rw[l j (by simpa[SV.closed] using F)];exact B,D⟩
 |sub j sz lo hi=>obtain⟨A,n,c,S,c',B,D⟩:=h;exact⟨A,n,c,S,c',by rw[l j (by simpa[SV.closed] using F)];exact B,D⟩
 |cl f G=>obtain⟨O,e,B⟩:=h;exact⟨O,e,Bu l (by simpa[SV.closed] using F) B⟩
 |ag G=>obtain⟨O,e,B,D⟩:=h;exact⟨O,e,Bu l (by simpa[SV.closed] using F) B,D⟩
 |aq j q=>simp[SV.closed] at F
def Gb {loc l:Nat->Value} {F:Nat->Nat} {names:List Nat} (q:∀j∈names,l (F j)=loc j):∀{z:List SV} {B:List Value},z.all (SV.closed names)=true->ia μ loc z B->ia μ l (z.map (SV.pG F)) B
 |[],B,_,h=>h
 |c::z,B,D,⟨u,I,e,G,H⟩=>by simp only[gH,aK] at D;exact⟨u,I,e,Kt q D.1 G,Gb q D.2 H⟩
def Kc {n0 R:Nat} {L L':sI} {loc z:Nat->Value} {ρ:Nat->Nat} {names:List Nat} (hρ:∀j∈names,z (ρ j)=loc j) {id H:Nat} {o:Ob} (hc:o.closed names=true) (h:ni n0 L μ loc w id o) (hid:z H=loc id)
  (l:∀b,lE (loc id) b->F6 R L' H b) (hq:L'.q=L.q:=by rfl):ni R L' μ z w H (o.pG ρ):=by
 cases o with
 |box t cells=>obtain⟨b,I,B,ho,O,D,hs,S⟩:=h;exact⟨b,I,by simp_all,l b (by rw[B];exact sX.2 rfl),O,D,Gb hρ hc hs,S⟩
 |row e sz xs=>obtain⟨I,hw,G,D⟩:=h;exact⟨I,by simp_all,G,λg V=>by simp_all⟩
 |mp k e ks es=>obtain⟨b,dR,clock,B,ho,O,D,S,U,hB⟩:=h;exact⟨b,_,_,by simp_all,l b (by rw[B];exact wK.2 rfl),O,D,S,U,hB⟩
 |mr k e sz ks I=>simp[Ob.closed] at hc
 |rn e s k e' s' xs ys=>obtain⟨m,us,I,B,D,F,G,hk,U,h3,h4,h5,h6,h7⟩:=h;refine⟨m,us,I,by simp_all,λq hq=>⟨l q (by rw[B];exact kB.2 (.inl hq)),(D q hq).2⟩,F,G,hk,U,h3,λi zs hi=> ?_,h5,h6,h7⟩;obtain⟨u,cells,k1,k2,k3,k4,k5⟩:=h4 i zs hi;exact⟨u,cells,k1,k2,k3,k4,λg V=>⟨l g (by rw[B];exact kB.2 (.inr ⟨u,bf k1,V⟩)),(k5 g V).2⟩⟩
 |it s pos=>obtain⟨b,B,ho,O,D⟩:=h;exact⟨b,by simp_all,l b (by rw[B];exact sX.2 rfl),O,D⟩
 |lp xs=>obtain⟨us,B,S,U⟩:=h;exact⟨us,by simp_all,λg V=>by simp_all,by simp_all⟩
def EX {tm:Nat->Option Value}:∀(l:List Nat) (st:St) (loc q:Nat->Value),(∀i,i∉l->q i=loc i)->(∀i s,st.env i=some s->∃v,tm i=some v/\fQ μ loc s v)->∀i s,(fu l st).env i=some s->∃v,tm i=some v/\fQ μ q s v
 |[],st,loc,q,B,h,i,s,z=>by
  have :=funext λi=>B i ai
  rw[this];exact h i s z
 |id::l,st,loc,q,B,h,i,s,z=>by
  refine EX l _ (qB loc id (q id)) _ (λi D=> ?_) (λi s z=> ?_) i s z
  .grind[cN,cS]
  .simp[St.dA,cv] at z;grind[zw]
def Ho:∀(l:List Nat) (st:St) (loc q:Nat->Value),(∀i,i∉l->q i=loc i)->∀i B,(fu l st).ob i=some B->i∉l/\∃o,st.ob i=some o/\∀D L μ w,ni D L μ loc w i o->ni D L μ q w i B
 |[],st,loc,q,G,i,B,z=>by
  have :=funext λi=>G i ai
  rw[this];exact⟨ai,B,z,λ_ _ _ _ h=>h⟩
 |id::l,st,loc,q,G,i,B,z=>by
  obtain⟨I,R,F,H⟩:=Ho l _ (qB loc id (q id)) q (λi O=>by grind[cN,cS]) i _ z;by_cases e:id=i
  .simp_all[St.dA,c7]
  .simp[St.dA,bR _ _ e,cv] at F;obtain⟨o,z,rfl⟩:=F;exact⟨by grind,o,z,λD L μ w h=>H _ L _ w (Dw h (dg e))⟩
def D5 (F:Rel N w0 μ0 L μ loc st a w):∀{xs:List Operand} {z:List TypeId} {q:List SV},tW P h st xs z=some q->ia μ loc q (xs.map a.eval)
 |[],z,q,l=>by simp[tW,aM] at l;subst l;rfl
 |x::xs,z,q,l=>by
  simp[tW] at l;split at l
  .rename_i v G B D;injection l with l;subst l;refine⟨_,_,rfl,?_,D5 F D⟩;unfold Zy at B
   all_goals first
    |grind[aZ]
    |cases B
    |(cases H:isRef h x with
      |false=>simp_all
      |true=>grind[aZ])
  simp_all
def xx {ids:List Nat} {F:Nat->Nat}:∀{l:List (Nat×Nat)} {cL:List (Nat×Ob)},jN st ids F l=some cL->cL.map (·.1)=l.map (·.2)/\∀B D,(B,D)∈cL->∃id o,(id,B)∈l/\st.ob id=some o/\o.closed ids=true/\D=o.pG F
 |[],cL,z=>by simp_all[jN]
 |(id,B)::l,cL,z=>by
  simp[jN] at z;split at z
  .rename_i o R O q;cases I:o.closed ids with
   |false=>simp_all
   |true=>obtain⟨G,H⟩:=xx q;grind
  simp_all
def xe {names:List Nat} {H:Nat->Nat}:∀{l:List (Nat×Nat)} {cL q:List (Nat×Ob)},mM names H l cL=some q->cL.map (·.1)=l.map (·.2)/\q.map (·.1)=l.map (·.1)/\∀id G,(id,G)∈q->∃B o,(id,B)∈l/\(B,o)∈cL/\o.closed names=true/\G=o.pG H
 |[],[],q,z=>by simp_all[mM]
 |[],_::_,q,z=>by simp[mM] at z
 |_::_,[],q,z=>by simp[mM] at z
 |(id,B)::l,(F,o)::U,q,z=>by simp[mM] at z;cases D:(Nat.beq B F&&o.closed names) with
  |false=>simp_all
  |true=>simp[D,aj,cv] at z;obtain⟨r,I,rfl⟩:=z;simp only[aK] at D;have:=beq_iff.1 D.1;obtain⟨O,R,S⟩:=xe I;grind
theorem JT {l:Nat->Bool} {id:Nat} (h:l id=true->gE id=true):EI l id=10000\/EI l id=20000/\gE id=true:=by unfold EI;cases q:l id with
 |false=>exact .inl rfl
 |true=>exact .inr ⟨rfl,h q⟩
def Ue {st:St} {l:Nat->Bool} {id:Nat} (h:l id=true->gE id=true):Jz st l id=9000\/Jz st l id=10000\/Jz st l id=20000/\gE id=true:=by unfold Jz;cases Uo st id with
 |true=>exact .inl rfl
 |false=>exact .inr (JT h)
def OR {z:Nat->Option Ob} {B:SV} {v:Value} (h:fQ μ loc B v) (l:∀id t cells,z id=some (.box t cells)->∃b,loc id= .pointer (some ⟨b,0,none⟩)):fQ μ loc (Kj z B) v:=by
 unfold Kj;split
 .split
  .rename_i D;obtain⟨b,q⟩:=l _ _ _ D;exact⟨b,q,by have h:v=fH _:=h;rw[h,q];rfl⟩
  .exact h
 .exact h
def Bh:∀{l:List Nat},l.Nodup->distinct l=true
 |[],_=>rfl
 |x::l,h=>by have:=fM.1 h;simp[distinct,this.1,Bh this.2]
def Js {U:SV} {v:Value} {g:Nat} {pre B:List SV} (F:fQ μ loc U v) (l:Ro U=some (g,pre,B)):∃R O:List Value,ia μ loc pre R/\ia μ loc B O/\((g<2000000/\v= .func (.func g) R.toArray O.toArray)\/(2000000<=g/\R=[]/\∃u,O=[u]/\v=clV g [u])):=by
 unfold Ro at l;split at l
 .rename_i G D;cases z:Nat.blt G 1000000 with
  |false=>rw[z] at l;cases l
  |true=>
  rw[z] at l;simp only[aj,aM,bD] at l;obtain⟨rfl,rfl,rfl⟩:=l;simp only[fQ,rep] at F;obtain⟨I,e,H⟩:=F;exact⟨[],I,rfl,sd H, .inl ⟨eW (cz.mp z) (by decide),e⟩⟩
 .rename_i G D;obtain⟨I,e,H⟩:=F;cases z:Nat.blt G 1000000 with
  |true=>rw[z] at l;simp only[aj,aM,bD] at l;obtain⟨rfl,rfl,rfl⟩:=l;exact⟨[],I,rfl,sL H, .inl ⟨eW (cz.mp z) (by decide),by rw[e];simp only[clV,z,aj]⟩⟩
  |false=>rw[z] at l;simp only[au] at l;cases q:Nat.blt G 2000000 with
   |true=>rw[q] at l;simp only[aj,aM,bD] at l;obtain⟨rfl,rfl,rfl⟩:=l;exact⟨I,[],sL H,rfl, .inl ⟨kI (Nat.sub_le _ _) (cz.mp q),by rw[e];simp only[clV,z,q,aj,au]⟩⟩
   |false=>
    rw[q] at l;simp only[au] at l;split at l
    .rename_i V;simp only[aM,bD] at l;obtain⟨rfl,rfl,rfl⟩:=l;obtain⟨u,S,e1,h1,h2⟩:=H
     have:S=[]:=h2
     subst this e1;refine⟨[],[u],rfl,sL (caps:=[V]) ⟨u,[],rfl,h1,rfl⟩, .inr ⟨?_,rfl,u,rfl,e⟩⟩;cases Nat.lt_or_ge G 2000000 with
     |inl h=>rw[cz.mpr h] at q;cases q
     |inr h=>exact h
    .cases l
 .cases l
def AR (hR:Rel N w0 μ0 L μ loc st a w) (wI:iw L.q μ0 P cC) {o:Oper} {c:Call} {f:Operand} {st1:St} (hd:∀i,o.dst=some i->i<N) (ho:o.op= .call c) (hc:c.callee= .value f)
  {g:Nat} {args:List SV} {cl:Nat->Nat} {ps cs:List Value} (hall0:ia μ loc args (ps++(c.args.toList.map a.eval++cs))) (hcl:∀id,cl id=9000\/cl id=10000\/cl id=20000/\gE id=true)
  (Ym:(g<2000000/\a.eval f= .func (.func g) ps.toArray cs.toArray)\/(2000000<=g/\ps=[]/\∃v,cs=[v]/\a.eval f=clV g [v]))
  (hv:jW cC st g args cl o.dst=some st1) (hK:mA N w0 μ0 L st1 K):o.tU P a w K Q:=by
 unfold jW at hv;simp only[] at hv;generalize hids:gD st 200 (args.flatMap SV.ids) []=ids at hv;generalize hm:qq cl 0 ids=m at hv;generalize hmB:(m.filter λp=> !(given cl p.1))=mB at hv;cases zW:(distinct ids&&Nat.blt ids.length 10000&&args.all (SV.closed ids)&&(ids.all (λi=> !(given cl i))||(Nat.blt ids.length 1000&&ids.all λi=> !(given cl i)||iC i))) with
 |false=>rw[zW] at hv;cases hv
 |true=>
 simp only[zW,aj] at hv;simp only[aK] at zW;obtain⟨⟨⟨aaq,hlen⟩,aao⟩,hgiv⟩:=zW;have hlen:ids.length<10000:=by simpa[cz] using hlen
 have hgv:∀i∈ids,cl i=9000->ids.length<1000/\i<10000:=λi hi e=>by
  have hgi:given cl i=true:=by simp[given,e]
  rcases Bool.or_eq_true_iff.1 hgiv with h|h
  .have:=cF.1 h i hi;simp[hgi] at this
  .obtain⟨h1,h2⟩:=lP.1 h;have h2:=cF.1 h2 i hi;simp only[hgi,di,ja,iC,cz] at h2;exact⟨cz.mp h1,h2⟩
 have hnd:=mP aaq;have hm1:m.map (·.1)=ids:=by rw[<-hm];exact MJ _ _ _
 have hin1:∀p∈m,p.1∈ids:=λp z=>by rw[<-hm1];exact aD.2 ⟨p,z,rfl⟩
 have N2:∀p∈m,(cl p.1=20000->20000<=p.2)/\(cl p.1=10000->10000<=p.2/\p.2<20000)/\(cl p.1=9000->9000<=p.2/\p.2<10000):=by intro p z;have h0:=hin1 p z;rw[<-hm] at z;obtain⟨_,h1,h2⟩:=q9 cl 0 ids p z;refine⟨λe=>by omega,λe=>by omega,λe=> ?_⟩;have:=(hgv _ h0 e).1;omega
 have hmb:∀p,p∈mB↔p∈m/\cl p.1≠9000:=λp=>by
  rw[<-hmB,cE];refine and_congr_right λ_=>⟨λh e=> ?_,λh=> ?_⟩
  .unfold given at h;rw[e] at h;cases h
  .cases hg:given cl p.1 with
   |false=>rfl
   |true=>exact absurd (beq_iff.1 hg) h
 have hnn:(m.map (·.2)).Nodup:=by
  rw[<-hm];refine G9 cl 0 ids ⟨af,λid hid=> ?_⟩;rcases hcl id with e|e|⟨e,_⟩
  .exact .inl ⟨e,by have:=(hgv id hid e).1;omega⟩
  .exact .inr (.inl e)
  .exact .inr (.inr e)
 have hget:∀id l,(id,l)∈m->find m id=some l:=λid l z=>jL (by rw[hm1];exact hnd) z
 have U:∀id l,(id,l)∈m->find (swap m) l=some id:=λid l z=>jL (by rw[yt];exact hnn) (Be z)
 have hex:∀id∈ids,∃l,(id,l)∈m:=λid hid=>by rw[<-hm1] at hid;obtain⟨p,z,rfl⟩:=aD.1 hid;exact⟨p.2,z⟩
 let I:Nat->Value:=λl=>match find (swap m) l with
  |some id=>loc id
  |none=>loc l
 have O:∀id l,(id,l)∈m->I l=loc id:=λid l z=>by simp only[I,U id l z]
 have hren:∀id l,(id,l)∈m->iD m id=l:=λid l z=>by simp[iD,hget id l z]
 have hren2:∀id l,(id,l)∈m->iD (swap m) l=id:=λid l z=>by simp[iD,U id l z]
 have hρ:∀j∈ids,I (iD m j)=loc j:=λj hj=>by obtain⟨l,z⟩:=hex j hj;rw[hren j l z,O j l z]
 split at hv
 .rename_i cL RA;obtain⟨Yn,Ui⟩:=xx RA;have hlnd:(cL.map (·.1)).Nodup:=by rw[Yn];exact hnn
  cases hr:cC g (args.map (SV.pG (iD m))) cL with
  |none=>rw[hr] at hv;cases hv
  |some rl=>
  obtain⟨r,R⟩:=rl;rw[hr] at hv;simp only[] at hv;generalize hnw:newNames (o.dst.getD 0) 0 (R.drop mB.length)=nw at hv;generalize hmm:mB++nw=mm at hv;cases NZ:(Nat.ble nw.length 8&&distinct (mm.map (·.1))&&distinct (mm.map (·.2))&&nw.all (λx=>Nat.blt x.1 10000)&&nw.all (λx=>Nat.ble 25000 x.2)) with
  |false=>rw[NZ] at hv;cases hv
  |true=>
  simp only[NZ,aj] at hv;simp only[aK,cF] at NZ;obtain⟨⟨⟨⟨_,hd1⟩,hd2⟩,hd3⟩,hd4⟩:=NZ;have hn1:=mP hd1;have hn2:=mP hd2;have hgetM:∀id l,(id,l)∈mm->find mm id=some l:=λid l z=>jL hn1 z
  have Uj:∀id l,(id,l)∈mm->find (swap mm) l=some id:=λid l z=>jL (by rw[yt];exact hn2) (Be z)
  have hrenM:∀id l,(id,l)∈mm->iD (swap mm) l=id:=λid l z=>by simp[iD,Uj id l z]
  have hpart:∀p∈mm,(p∈m/\cl p.1≠9000)\/p∈nw:=λp z=>by rw[<-hmm] at z;exact(bA.1 z).imp (hmb p).1 λh=>h
  have hnw25:∀p∈nw,25000<=p.2:=λp z=>by simpa using hd4 p z
  have hnwn:∀p∈nw,p.2∉cL.map (·.1):=λp z B=>by
   rw[Yn] at B;obtain⟨q,hq,e⟩:=aD.1 B;by_cases hg9:cl q.1=9000
   .have:=((N2 q hq).2.2 hg9).2;have:=hnw25 p z;omega
   .have:(mB.map (·.2)++nw.map (·.2)).Nodup:=by rw[<-bZ,hmm];exact hn2
    exact(iE.1 this).2.2 _ (aD.2 ⟨q,(hmb q).2 ⟨hq,hg9⟩,e⟩) _ (aD.2 ⟨p,z,rfl⟩) rfl
  have hnwi:∀p∈nw,p.1<10000:=λp z=>by simpa[cz] using hd3 p z
  split at hv
  .rename_i back aan;obtain⟨hb1,hb2,hb3⟩:=xe aan;have hbnd:(R.map (·.1)).Nodup:=by rw[hb1];exact hn2
   have hall:=Gb hρ aao hall0;have hobs:∀i oi,find cL i=some oi->ni w.heap.size (gZ L.q I (cL.map (·.1))) μ I w i oi:=by
    intro i oi hi;obtain⟨id,S,z,qC,hoc,rfl⟩:=Ui i oi (mR hi);refine Kc hρ hoc (hR.obs id _ qC) (O id i z) (λb hb=> .inr (.inr ⟨loc id,?_,hb⟩))
    have:i∈cL.map (·.1):=by rw[Yn];exact aD.2 ⟨_,z,rfl⟩
    simp only[gZ,aB this,O id i z]
   have hapC:VE I cL:=by intro i j oi oj hi hj hij q hq;obtain⟨id,S,z,qC,_⟩:=Ui i oi (mR hi);obtain⟨id',ob',F,Ey,_⟩:=Ui j oj (mR hj);rw[O id i z] at hq;rw[O id' j F];refine hR.apart id id' S ob' qC Ey (λe=>hij ?_) q hq;subst e;have:=(hget id i z).symm.trans (hget id j F);injection this
   have hgo:(∀v w',(∃V G,fF L.q μ I (cL.map (·.1)) r R w v V G w')->K (a.put o.dst v) w')->o.tU P a w K Q:=λhK'=>by
    rcases wI g _ _ r _ hr w μ I (ps++(c.args.toList.map a.eval++cs)) hR.base.1 hR.xI hobs hapC hall with⟨hg,he,hC⟩|⟨hg,_,as,v0,Ag,hY⟩
    .rcases Ym with⟨_,Ym⟩|⟨hg2,_⟩
     .refine ada (R:=λv w'=>∃V G,fF L.q μ I (cL.map (·.1)) r R w v V G w') ho hc Ym rfl he (hC.mono ?_) hK';rintro e w' ⟨v,V,G,rfl,hP⟩;exact⟨v,rfl,V,G,hP⟩
     .omega
    .rcases Ym with⟨hg2,_⟩|⟨_,rfl,v1,rfl,Ym⟩
     .omega
     .rw[dS] at Ag;obtain⟨e1,e2⟩:=List.append_inj' Ag rfl;simp only[cg,c9] at e2;subst e1 e2;rw[<-Ym] at hY;refine adb (R:=λv w'=>∃V G,fF L.q μ I (cL.map (·.1)) r R w v V G w') ho hc (hY.mono ?_) hK';rintro e w' ⟨v,V,G,rfl,hP⟩;exact⟨v,rfl,V,G,hP⟩
   refine hgo ?_;rintro v w' ⟨V,G,hP⟩;let H:Nat->Value:=λi=>match find mm i with
    |some l=>G l
    |none=>loc i
   have Ug:∀id l,(id,l)∈mm->H id=G l:=λid l z=>by simp only[H,hgetM id l z]
   have Wa:∀i,i∉ids.filter (λi=> !(stays cl i))++nw.map (·.1)->H i=loc i:=by intro i hi;cases hfi:find mm i with
    |none=>simp only[H,hfi]
    |some l=>
     have z:=mR hfi;rcases hpart _ z with⟨F,_⟩|F
     .have D:i∈ids:=hin1 _ F;have hmv0:cl i=10000:=by
       cases B:stays cl i with
       |true=>exact beq_iff.1 B
       |false=>exact absurd (cT _ (cE.2 ⟨D,by simp[B]⟩)) hi
      have hr2:=(N2 _ F).2.1 hmv0;rw[Ug i l z,hP.fix l (by rw[Yn];exact aD.2 ⟨_,F,rfl⟩) hr2.1 hr2.2];exact O i l F
     .exact absurd (gQ _ (aD.2 ⟨_,F,rfl⟩)) hi
   have hlb:∀b,Mz (gZ L.q I (cL.map (·.1))) b->∃id S,id∈ids/\st.ob id=some S/\lE (loc id) b:=by
    rintro b ⟨l,x,B,Tf⟩;simp only[gZ] at B;split at B
    .rename_i D;injection B with B;subst B;rw[Yn] at D;obtain⟨p,z,rfl⟩:=aD.1 D;rw[O p.1 p.2 z] at Tf;obtain⟨q,hq,e⟩:=aD.1 (show p.2∈cL.map (·.1) by rw[Yn];exact aD.2 ⟨_,z,rfl⟩);obtain⟨id,S,k1,k2,_⟩:=Ui q.1 q.2 hq;rw[e] at k1;have:=(U p.1 p.2 z).symm.trans (U id p.2 k1);injection this with this;exact⟨p.1,S,by rw[<-hm1];exact aD.2 ⟨_,z,rfl⟩,by rw[this];exact k2,Tf⟩
    .cases B
   have holdob:∀i oi,st.ob i=some oi->i∉ids->ni w0.heap.size L V loc w' i oi:=by
    intro i oi hi hni;refine(hR.obs i oi hi).keep hP.ext.1 (λb hb=> ?_);obtain⟨_,hlt,Cr⟩:=(hR.obs i oi hi).block b hb;refine⟨hP.keep b hlt (λhl=> ?_),λj=> ?_⟩
    .obtain⟨id,S,h1,h2,h3⟩:=hlb b hl;exact hR.apart id i S oi h2 hi (λe=>hni (by rw[<-e];exact h1)) b h3 hb
    .cases hj:V b j with
     |none=>rfl
     |some x=>
      rcases hP.ext.2 b j x hj with B|B|B
      .rw[Cr j] at B;cases B
      .omega
      .obtain⟨id,S,h1,h2,h3⟩:=hlb b B.cL;exact absurd hb (hR.apart id i S oi h2 hi (λe=>hni (by rw[<-e];exact h1)) b h3)
   have hgb:∀b,Uf (gZ L.q I (cL.map (·.1))) b->∃id S,id∈ids/\cl id=9000/\st.ob id=some S/\lE (loc id) b:=by
    rintro b ⟨l,x,h9,h10,B,Tf⟩;simp only[gZ] at B;split at B
    .rename_i D;injection B with B;subst B;rw[Yn] at D;obtain⟨p,z,rfl⟩:=aD.1 D;have hc9:cl p.1=9000:=by
      rcases hcl p.1 with e|e|⟨e,_⟩
      .exact e
      .have:=(N2 p z).2.1 e;omega
      .have:=(N2 p z).1 e;omega
     rw[O p.1 p.2 z] at Tf;obtain⟨q,hq,e⟩:=aD.1 (show p.2∈cL.map (·.1) by rw[Yn];exact aD.2 ⟨_,z,rfl⟩);obtain⟨id,S,k1,k2,_⟩:=Ui q.1 q.2 hq;rw[e] at k1;have:=(U p.1 p.2 z).symm.trans (U id p.2 k1);injection this with this;exact⟨p.1,S,hin1 p z,hc9,by rw[this];exact k2,Tf⟩
    .cases B
   have hgn:∀b,Uf (gZ L.q I (cL.map (·.1))) b->w0.heap.size<=b\/Uf L b:=λb hb=>by obtain⟨id,S,h1,h2,h3,h4⟩:=hgb b hb;exact hR.Bg (hgv id h1 h2).2 ((hR.obs id S h3).block b h4).1
   have hback':∀id o',find back id=some o'->∃l o,(id,l)∈mm/\find R l=some o/\o.closed (mm.map (·.2))=true/\o'=o.pG (iD (swap mm)):=by intro id o' hfb;obtain⟨l,o,h1,h2,h3,h4⟩:=hb3 id o' (mR hfb);exact⟨l,o,h1,jL hbnd h2,h3,h4⟩
   have RD:∀id l S b,(id,l)∈mm->find R l=some S->lE (G l) b->w.heap.size<=b\/Uf (gZ L.q I (cL.map (·.1))) b\/((id,l)∈m/\lE (loc id) b):=by
    intro id l S b z hfo hb;rcases((hP.obs l S hfo).block b hb).1 with B|B|⟨x,B,Tf⟩
    .exact .inl B
    .exact .inr (.inl B)
    .right;right;simp only[gZ] at B;split at B
     .rename_i D;rcases hpart _ z with⟨F,_⟩|F
      .injection B with B;subst B;rw[O id l F] at Tf;exact⟨F,Tf⟩
      .exact absurd D (hnwn _ F)
     .cases B
   have hobin:∀id l,(id,l)∈m->∃S,st.ob id=some S:=by intro id l z;obtain⟨q,hq,e⟩:=aD.1 (show l∈cL.map (·.1) by rw[Yn];exact aD.2 ⟨_,z,rfl⟩);obtain⟨id',S,k1,k2,_⟩:=Ui q.1 q.2 hq;rw[e] at k1;have:=(U id l z).symm.trans (U id' l k1);injection this with this;exact⟨S,by rw[this];exact k2⟩
   have hidm:∀i,i∉mm.map (·.1)->i∉ids.filter (λi=> !(stays cl i))++nw.map (·.1)->i∉ids:=λi hi hn B=>by
    obtain⟨l,z⟩:=hex i B;by_cases h9:cl i=9000
    .exact hn (cT _ (cE.2 ⟨B,by unfold stays;rw[h9];rfl⟩))
    .exact hi (by rw[<-hmm];exact aD.2 ⟨_,cT _ ((hmb (i,l)).2 ⟨z,h9⟩),rfl⟩)
   have RC:∀i oi,((find back i).orElse λ_=>(fu (ids.filter (λi=> !(stays cl i))++nw.map (·.1)) st).ob i)=some oi->ni w0.heap.size L V H w' i oi/\((∃l o,(i,l)∈mm/\find R l=some o)\/(i∉mm.map (·.1)/\i∉ids/\∃o,st.ob i=some o)):=by intro i oi hi;cases hfb:find back i with
    |some o'=>
     rw[hfb] at hi;simp at hi;subst hi;obtain⟨l,S,z,hfo,hcl,rfl⟩:=hback' i o' hfb;refine⟨Kc (names:=mm.map (·.2)) (λj hj=> ?_) hcl (hP.obs l S hfo) (Ug i l z) (λb hb=> ?_), .inl ⟨l,S,z,hfo⟩⟩
     .obtain⟨q,hq,rfl⟩:=aD.1 hj;rw[hrenM q.1 q.2 hq,Ug q.1 q.2 hq]
     .rcases RD i l S b z hfo hb with B|B|⟨F,B⟩
      .exact .inl (eE hR.grown B)
      .exact(hgn b B).imp (λh=>h) .inl
      .obtain⟨ob0,hob0⟩:=hobin i l F;exact((hR.obs i ob0 hob0).block b B).1
    |none=>
     rw[hfb] at hi;have hni:i∉mm.map (·.1):=by rw[<-hb2];exact Mm hfb
     have hi':(fu (ids.filter (λi=> !(stays cl i))++nw.map (·.1)) st).ob i=some oi:=by simpa using hi
     obtain⟨hnp,S,qC,hk⟩:=Ho _ st loc H Wa i oi hi';exact⟨hk _ _ _ _ (holdob i S qC (hidm i hni hnp)), .inr ⟨hni,hidm i hni hnp,S,qC⟩⟩
   have hrel:Rel N w0 μ0 L V H { env:=(fu (ids.filter (λi=> !(stays cl i))++nw.map (·.1)) st).env,ob:=λi=>(find back i).orElse λ_=>(fu (ids.filter (λi=> !(stays cl i))++nw.map (·.1)) st).ob i } a w':=by
    refine⟨hR.small,hR.names,?_,hR.size,hR.defers,?_,hP.xI,⟨hR.base.1.trans hP.ext.1,?_⟩,λi oi hi=>(RC i oi hi).1,?_,?_,hP.os.trans hR.os,hP.tape.trans hR.tape,hP.output.trans hR.output,eE hR.grown hP.grown,λq=>eE (hR.drawn q) (hP.drawn q)⟩
    .intro id x B h9 hlt;rw[Wa id (λD=> ?_)]
     .exact hR.fix id x B h9 hlt
     .rcases bA.1 D with D|D
      .obtain⟨hmi,hms⟩:=cE.1 D;rcases hcl id with e|e|⟨_,hmt⟩
       .have:=(hgv id hmi e).2;omega
       .simp[stays,e] at hms
       .simp only[gE,gA,aK] at hmt;rcases hmt with hh|hh
        .have:id<10000:=by simpa[cz] using hh
         omega
        .have:=ff hh.1;omega
      .obtain⟨p,z,rfl⟩:=aD.1 D;have:=hnwi p z;omega
    .exact EX (tm:=λi=>a.tmps[i]?) _ st loc H Wa (λi s hs=>by
      obtain⟨u,hu,hr⟩:=hR.env i s hs
      exact⟨u,hu,Ga hP.ext.1 hr⟩)
    .intro b j x B;rcases hP.ext.2 b j x B with B|B|B
     .exact hR.base.2 b j x B
     .exact .inr (.inl (eE hR.grown B))
     .exact .inr (hgn b B)
    .intro i j oi oj hi hj hij q hq;have U6:∀k ok,k∉mm.map (·.1)->k∉ids->st.ob k=some ok->∀q,lE (H k) q->lE (loc k) q/\q<w.heap.size:=by
      intro k ok hk hki hok q hq
      have:H k=loc k:=Wa k (λhm=>by
       rcases bA.1 hm with hm|hm
       .exact hki (cE.1 hm).1
       .exact hk (by rw[<-hmm,bZ];exact gQ _ hm))
      rw[this] at hq;exact⟨hq,((hR.obs k ok hok).block q hq).2.1⟩
     have mixed:∀i l o j oj q,(i,l)∈mm->find R l=some o->j∉mm.map (·.1)->j∉ids->st.ob j=some oj->lE (H i) q->lE (H j) q->False:=by
      intro i l o j oj q z hfo hj hji hoj hqi Mt;obtain⟨hqj',hlt⟩:=U6 j oj hj hji hoj q Mt;rw[Ug i l z] at hqi;rcases RD i l o q z hfo hqi with B|B|⟨F,B⟩
      .omega
      .obtain⟨id,S,h1,_,h3,h4⟩:=hgb q B;exact hR.apart id j S oj h3 hoj (λe=>hji (by rw[<-e];exact h1)) q h4 hqj'
      .obtain⟨ob0,hob0⟩:=hobin i l F;exact hR.apart i j ob0 oj hob0 hoj (λe=>hj (by rw[<-e];exact aD.2 ⟨_,z,rfl⟩)) q B hqj'
     rcases(RC i oi hi).2 with⟨l,o,z,hfo⟩|⟨hni,hni',S,qC⟩
     .rcases(RC j oj hj).2 with⟨nm',o',F,hfo'⟩|⟨hnj,hnj',ob',Ey⟩
      .rw[Ug i l z] at hq;rw[Ug j nm' F];refine hP.apart l nm' o o' hfo hfo' (λe=>hij ?_) q hq;subst e;have:=(Uj i l z).symm.trans (Uj j l F);injection this
      .exact λMt=>mixed i l o j ob' q z hfo hnj hnj' Ey hq Mt
     .rcases(RC j oj hj).2 with⟨nm',o',F,hfo'⟩|⟨hnj,hnj',ob',Ey⟩
      .exact λMt=>mixed j nm' o' i S q F hfo' hni hni' qC Mt hq
      .obtain⟨hqi,_⟩:=U6 i S hni hni' qC q hq;intro Mt;obtain⟨Mt,_⟩:=U6 j ob' hnj hnj' Ey q Mt;exact hR.apart i j S ob' qC Ey hij q hqi Mt
    .intro b hb hl;refine(hP.keep b (eW hb hR.grown) (λhl'=> ?_)).trans (hR.keep b hb hl);obtain⟨id,S,_,h2,h3⟩:=hlb b hl';rcases((hR.obs id S h2).block b h3).1 with B|B|⟨x,B,Tf⟩
     .omega
     .exact hl B.cL
     .exact hl ⟨id,x,B,Tf⟩
   have fin:∀sv,fQ V H sv v->st1=St.set { env:=(fu (ids.filter (λi=> !(stays cl i))++nw.map (·.1)) st).env,ob:=λi=>(find back i).orElse λ_=>(fu (ids.filter (λi=> !(stays cl i))++nw.map (·.1)) st).ob i } o.dst sv->K (a.put o.dst v) w':=λsv hs e=>by subst e;exact hK _ _ V H (hrel.set hd hs)
   split at hv
   .rename_i x;cases hcx:(vE x).closed (mm.map (·.2)) with
    |false=>rw[hcx] at hv;cases hv
    |true=>
    simp only[hcx,aj,aM] at hv;refine fin _ ?_ hv.symm;obtain⟨h1,_⟩:fQ V G (vE x) v/\True:=by
     rcases hP.res with B|⟨_,_,_,_,e1,_⟩|⟨x',e1,h1,_⟩|⟨_,_,_,_,e1,_⟩
     .simp[rep,cI] at B
     .cases e1
     .simp only[AV.gM.injEq,cg,c9,cR] at e1;subst e1;exact⟨h1,trivial⟩
     .simp at e1
    refine OR (Kt (λj hj=> ?_) hcx h1) (λid t cells hb=> ?_)
    .obtain⟨q,hq,rfl⟩:=aD.1 hj;rw[hrenM q.1 q.2 hq,Ug q.1 q.2 hq]
    .obtain⟨hok,_⟩:=RC id (.box t cells) (by rw[hb];rfl);obtain⟨b,vs,hl,_⟩:=hok;exact⟨b,hl⟩
   .cases Wg:r.jF with
    |false=>rw[Wg] at hv;cases hv
    |true=>
    simp only[Wg,aj,aM] at hv;exact fin (.pv r) (hP.pure Wg) hv.symm
  .cases hv
 .cases hv
theorem AS (R:Rel N w0 μ0 L μ loc st a w) (F:iw L.q μ0 P cC) {o:Oper} {c:Call} {f:Operand} {I:St} (hd:∀i,o.dst=some i->i<N) (ho:o.op= .call c) (hc:c.callee= .value f)
  (q:jX P h cC st c f o.dst=some I) (hK:mA N w0 μ0 L I K):o.tU P a w K Q:=by
 unfold jX at q;split at q
 .rename_i g pre z O hf hvs;obtain⟨sf,hsf,V⟩:=dx.1 hf;obtain⟨ps,cs,hps,S,U⟩:=Js (aZ R hsf) V;refine AR R F hd ho hc (cl:=EI (ij (o.dst.any h.stay.contains) st (pH (pre++(O++z))))) (mu hps (mu (D5 R hvs) S)) (λid=> ?_) U ?_ hK
  .exact .inr (JT λH=>by
    simp only[ij,aK] at H
    exact H.1.1.2)
  unfold jW;simp only[] at q⊢;generalize gD st 200 ((pre++(O++z)).flatMap SV.ids) []=ids at q⊢;generalize Lm:ij (o.dst.any h.stay.contains) st (pH (pre++(O++z)))=D at q⊢;rw[MI];have hng:ids.all (λi=> !(given (EI D) i))=true:=cF.2 λi _=>by unfold given EI;cases D i<;>rfl
  have G:((iW D 0 ids).filter λp=> !(given (EI D) p.1))=iW D 0 ids:=yE.2 λp _=>by unfold given EI;cases D p.1<;>rfl
  have hpg:(ids.filter λi=> !(stays (EI D) i))=ids.filter D:=lQ λi _=>by unfold stays EI;cases D i<;>rfl
  rw[hng,G,hpg,uA,rz];generalize H:iW D 0 ids=m at q⊢;cases l:(distinct ids&&Nat.blt ids.length 10000&&(pre++(O++z)).all (SV.closed ids)) with
  |false=>rw[l] at q;cases q
  |true=>
  rw[l,aj] at q;simp only[aj];simp only[aK] at l;have hlen:ids.length<10000:=by simpa[cz] using l.1.2
  split at q
  .rename_i cL hl
   try simp only[hl]
   split at q
   .rename_i r B hr
    try simp only[hr]
    split at q
    .rename_i back hb;have hlb:B.length=m.length:=by
      have:=aR List.length (xe hb).1;simpa using this
     have e:B.drop m.length=[]:=by rw[<-hlb];exact rA
     have h1:distinct (m.map (·.1))=true:=by rw[<-H,tG];exact l.1.1
     have h2:distinct (m.map (·.2))=true:=Bh (by rw[<-H];exact xy D 0 ids af);simp only[e,newNames,dN,h1,h2,yF,jH,aj,hb,eY];split
     .simp[AV.jF,AV.Wk] at q
     .exact q
    .cases q
   .cases q
  .cases q
 .cases q
def AG (H:Rel N w0 μ0 L μ loc st a w) {G:List Nat} {d:Nat}:∀{xs:List Operand} {D:List TypeId} {j:Nat} {F:List SV},(∀x∈mS P G d j xs D,fH (loc x.1)= .slice none 0 0)->Cx P G d st j xs D=some F->ia μ loc F (xs.map a.eval)
 |[],D,j,F,_,z=>by simp[Cx] at z;subst z;rfl
 |x::xs,D,j,F,B,z=>by
  simp only[Cx] at z;split at z
  .rename_i v V l R;injection z with z;subst z;cases q:(Dl x&&G.contains j) with
   |false=>rw[mS,q,au] at B;refine⟨_,_,rfl,?_,AG H B R⟩;unfold argG at l;rw[q,au] at l;split at l<;>first|(injection l with l;subst l;rename_i S;exact aZ H S)|cases l
   |true=>
    simp only[aK] at q;unfold argG at l;rw[q.1,q.2,jH,aj] at l;obtain⟨⟨e,sz⟩,O,l⟩:=dx.1 l;rw[mS,q.1,q.2,jH,aj,O] at B;refine⟨_,_,rfl,?_,AG H (λy U=>B y (dF _ U)) R⟩;injection l with l;subst l;have I:=B _ (fN ..);unfold Dl at q;split at q
    .show Value.slice none 0 0=fH _;exact I.symm
    .cases q.1
  .cases z
mutual
theorem AV.sq:∀(a b:AV),AV.same a b=true->a=b
 | .bool a,b=>by cases b<;>simp[AV.same]
 | .int k a,b=>by cases b<;>simp[AV.same]
 | .str a,b=>by cases b<;>simp[AV.same]
 | .dy s xs,b=>by cases b<;>simp only[AV.same,aK,dB,nD];rintro⟨h1,h2⟩;rw[beq_iff.1 h1,BD _ _ h2]
 | .agg a,b=>by cases b<;>simp only[AV.same,dB,nD];intro h;rw[ot _ _ h]
 | .fn f a,b=>by cases b<;>simp only[AV.same,aK,dB,nD];rintro⟨h1,h2⟩;rw[beq_iff.1 h1,ot _ _ h2]
 | .gM a,b=>by cases b<;>simp only[AV.same,dB,nD];intro h;rw[ot _ _ h]
 | .ref a,b=>by cases b<;>simp only[AV.same,dB,nD];intro h;rw[ot _ _ h]
 | .mp a b,c=>by cases c<;>simp only[AV.same,aK,dB,nD];rintro⟨h1,h2⟩;rw[ot _ _ h1,ot _ _ h2]
 | .self n,b=>by cases b<;>simp only[AV.same,dB,nD];intro h;rw[beq_iff.1 h]
 | .qz,b=>by cases b<;>simp[AV.same]
 | .tH,b=>by cases b<;>simp[AV.same]
 | .hole,b=>by cases b<;>simp[AV.same]
theorem ot:∀(a b:List AV),sk a b=true->a=b
 |[],[]=>λ_=>rfl
 |[],_::_=>λh=>by simp[sk] at h
 |_::_,[]=>λh=>by simp[sk] at h
 |x::l,y::m=>λh=>by simp only[sk,aK] at h;rw[AV.sq x y h.1,ot l m h.2]
theorem BD:∀(a b:List (List AV)),BC a b=true->a=b
 |[],[]=>λ_=>rfl
 |[],_::_=>λh=>by simp[BC] at h
 |_::_,[]=>λh=>by simp[BC] at h
 |x::l,y::m=>λh=>by simp only[BC,aK] at h;rw[ot x y h.1,BD l m h.2]
end
mutual
theorem AV.mZ:∀a:AV,AV.same a a=true
 | .bool a=>by simp[AV.same]
 | .int k a=>by simp[AV.same]
 | .str a=>by simp[AV.same]
 | .dy s xs=>by simp[AV.same,gz,zA xs]
 | .agg a=>by simp[AV.same,mG a]
 | .fn f a=>by simp[AV.same,gz,mG a]
 | .gM a=>by simp[AV.same,mG a]
 | .ref a=>by simp[AV.same,mG a]
 | .mp a b=>by simp[AV.same,mG a,mG b]
 | .self n=>by simp[AV.same,gz]
 | .qz=>by simp[AV.same]
 | .tH=>by simp[AV.same]
 | .hole=>by simp[AV.same]
theorem mG:∀a:List AV,sk a a=true
 |[]=>rfl
 |x::l=>by simp[sk,AV.mZ x,mG l]
theorem zA:∀a:List (List AV),BC a a=true
 |[]=>rfl
 |x::l=>by simp[BC,mG x,zA l]
end
def oC.sq {a b:oC} (h:a.same b=true):a=b:=by
 cases a<;>cases b<;>simp[oC.same,dB] at h
 .rw[AV.sq _ _ h]
 .simp_all
 simp_all
def oC.mZ (a:oC):a.same a=true:=by cases a<;>simp[oC.same,AV.mZ]
def Bz:∀{a b:List oC},sn a b=true->a=b
 |[],[]=>λ_=>rfl
 |[],_::_=>λh=>by simp[sn] at h
 |_::_,[]=>λh=>by simp[sn] at h
 |x::l,y::m=>λh=>by simp only[sn,aK] at h;rw[oC.sq h.1,Bz h.2]
def CW:∀a:List oC,sn a a=true
 |[]=>rfl
 |x::l=>by simp[sn,oC.mZ x,CW l]
def Ak.sq {a b:Ak} (h:a.same b=true):a=b:=by
 cases a<;>cases b<;>simp only[Ak.same,dB] at h
 .rfl
 .rw[beq_iff.1 h]
 .rw[beq_iff.1 h]
def Ak.mZ (a:Ak):a.same a=true:=by cases a<;>simp[Ak.same,gz]
def SV.sq {a b:SV} (h:a.same b=true):a=b:=by induction a generalizing b with
 |two s x q l=>cases b<;>simp only[SV.same,aK,dB] at h;rw[q h.1,l h.2]
 |undef=>cases b<;>simp only[SV.same,dB] at h;rfl
 |any=>cases b<;>simp only[SV.same,dB] at h;rfl
 |pv x=>cases b<;>simp only[SV.same,dB] at h;rw[AV.sq _ _ h]
 |ptr x y=>cases b<;>simp only[SV.same,aK,dB] at h;rw[beq_iff.1 h.1,beq_iff.1 h.2]
 |row x=>cases b<;>simp only[SV.same,dB] at h;rw[beq_iff.1 h]
 |rp x y z u=>cases b<;>simp only[SV.same,aK,dB] at h;rw[beq_iff.1 h.1.1.1,beq_iff.1 h.1.1.2,beq_iff.1 h.1.2,beq_iff.1 h.2]
 |sub x y z u=>cases b<;>simp only[SV.same,aK,dB] at h;rw[beq_iff.1 h.1.1.1,beq_iff.1 h.1.1.2,beq_iff.1 h.1.2,beq_iff.1 h.2]
 |cp x=>cases b<;>simp only[SV.same,dB] at h;rw[ot _ _ h]
 |cl f x=>cases b<;>simp only[SV.same,aK,dB] at h;rw[beq_iff.1 h.1,Bz h.2]
 |ag x=>cases b<;>simp only[SV.same,dB] at h;rw[Bz h]
 |aq x y=>cases b<;>simp only[SV.same,aK,dB] at h;rw[beq_iff.1 h.1,Ak.sq h.2]
def SV.mZ (a:SV):a.same a=true:=by induction a<;>simp[SV.same,AV.mZ,gz,mG,CW,Ak.mZ, *]
theorem KE:∀{a b:List SV},wV a b=true->a=b
 |[],[]=>λ_=>rfl
 |[],_::_=>λh=>by simp[wV] at h
 |_::_,[]=>λh=>by simp[wV] at h
 |x::l,y::m=>λh=>by simp[wV,aK] at h;rw[SV.sq h.1,KE h.2]
def E8:∀a:List SV,wV a a=true
 |[]=>rfl
 |x::l=>by simp[wV,SV.mZ x,E8 l]
theorem Cc:∀{a b:List (Option (List (List AV)))},qS a b=true->a=b
 |[],[]=>λ_=>rfl
 |[],_::_=>λh=>by simp[qS] at h
 |none::_,[]=>λh=>by simp[qS] at h
 |some _::_,[]=>λh=>by simp[qS] at h
 |some x::l,some y::m=>λh=>by simp[qS,aK] at h;rw[BD _ _ h.1,Cc h.2]
 |none::l,none::m=>λh=>by simp[qS] at h;rw[Cc h]
 |some _::_,none::_=>λh=>by simp[qS] at h
 |none::_,some _::_=>λh=>by simp[qS] at h
def BB:∀a:List (Option (List (List AV))),qS a a=true
 |[]=>rfl
 |some x::l=>by simp[qS,zA x,BB l]
 |none::l=>by simp[qS,BB l]
def Ob.sq {a b:Ob} (h:a.same b=true):a=b:=by
 cases a<;>cases b<;>simp[Ob.same,dB] at h
 .grind[beq_iff,KE]
 .grind[beq_iff,BD]
 .grind[beq_iff,ot]
 .grind[beq_iff,ot,Cc]
 .simp_all
 .rw[ot _ _ h]
 grind[beq_iff,BD,Cc]
def Ob.mZ (a:Ob):a.same a=true:=by cases a<;>simp[Ob.same,zA,mG,E8,BB]
def KD:∀{a b:List (Nat×Ob)},vh a b=true->a=b
 |[],[]=>λ_=>rfl
 |[],_::_=>λh=>by simp[vh] at h
 |_::_,[]=>λh=>by simp[vh] at h
 |(i,x)::l,(j,y)::m=>λh=>by simp only[vh,aK] at h;rw[beq_iff.1 h.1.1,Ob.sq h.1.2,KD h.2]
def E7:∀a:List (Nat×Ob),vh a a=true
 |[]=>rfl
 |(i,x)::l=>by simp[vh,gz,Ob.mZ x,E7 l]
def oC.vT {z l:Nat->Nat} {ids:List Nat} (h:∀j∈ids,l (z j)=j):∀{cs:List oC},SV.closed ids (.cl 0 cs)=true->(cs.map (oC.pG z)).map (oC.pG l)=cs
 |[],_=>rfl
 |c::cs,q=>by simp[SV.closed,gH,aK] at q;simp only[bu];rw[oC.vT h (by simpa[SV.closed] using q.2)];grind[oC.pG]
def SV.vT {B q:Nat->Nat} {ids:List Nat} (h:∀j∈ids,q (B j)=j) {s:SV} (G:s.closed ids=true):(s.pG B).pG q=s:=by induction s with
 |two s b I D=>simp_all[SV.pG,SV.closed]
 |ptr j z=>simp_all[SV.pG,SV.closed]
 |row j=>simp_all[SV.pG,SV.closed]
 |rp j F i z=>simp_all[SV.pG,SV.closed]
 |sub j F O H=>simp_all[SV.pG,SV.closed]
 |cl f l=>simp only[SV.pG];rw[oC.vT h (by assumption)]
 |ag l=>simp only[SV.pG];rw[oC.vT h (by assumption)]
 |_=>rfl
def tY {q:Nat->Nat} {ids names:List Nat} (h:∀j∈ids,q j∈names):∀{cs:List oC},SV.closed ids (.cl 0 cs)=true->SV.closed names (.cl 0 (cs.map (oC.pG q)))=true
 |[],_=>rfl
 |c::cs,l=>by simp only[SV.closed,gH,aK] at l;have z:=tY h (cs:=cs) (by simpa[SV.closed] using l.2);simp only[SV.closed,bu,gH,aK];refine⟨?_,by simpa[SV.closed] using z⟩;cases c with
  |v a=>rfl
  |p id=>simpa[oC.pG] using h id (by simpa using l.1)
  |r id=>simpa[oC.pG] using h id (by simpa using l.1)
def SV.Dc {F:Nat->Nat} {ids names:List Nat} (h:∀j∈ids,F j∈names) {s:SV} (z:s.closed ids=true):(s.pG F).closed names=true:=by induction s with
 |two s b H B=>obtain⟨G,c2⟩:=lP.1 z;simp only[SV.pG,SV.closed];exact lP.2 ⟨H G,B c2⟩
 |ptr j D=>simpa[SV.pG,SV.closed] using h j (by simpa[SV.closed] using z)
 |row j=>simpa[SV.pG,SV.closed] using h j (by simpa[SV.closed] using z)
 |rp j I i D=>simpa[SV.pG,SV.closed] using h j (by simpa[SV.closed] using z)
 |sub j I R O=>simpa[SV.pG,SV.closed] using h j (by simpa[SV.closed] using z)
 |cl f l=>have:=tY h (cs:=l) (by simpa[SV.closed] using z);simpa[SV.pG,SV.closed] using this
 |ag l=>have:=tY h (cs:=l) (by simpa[SV.closed] using z);simpa[SV.pG,SV.closed] using this
 |aq j q=>simp[SV.closed] at z
 |_=>rfl
def Ob.vT {z l:Nat->Nat} {ids:List Nat} (h:∀j∈ids,l (z j)=j) {o:Ob} (q:o.closed ids=true):(o.pG z).pG l=o:=by cases o with
 |box t cells=>simp only[Ob.pG,fk];congr 1;simp only[Ob.closed,cF] at q;exact(gR λs B=>SV.vT h (q s B)).trans (pT _)
 |_=>rfl
def Ob.Dc {q:Nat->Nat} {ids names:List Nat} (h:∀j∈ids,q j∈names) {o:Ob} (l:o.closed ids=true):(o.pG q).closed names=true:=by cases o with
 |box t cells=>simp only[Ob.closed,cF] at l;simp only[Ob.pG,Ob.closed,cF,aD];rintro _ ⟨s,z,rfl⟩;exact SV.Dc h (l s z)
 |mr k e s B D=>simp[Ob.closed] at l
 |_=>rfl
def L9 {ids names:List Nat} {ρ ρ':Nat->Nat} (H:∀j∈ids,ρ' (ρ j)=j) (I:∀j∈ids,ρ j∈names):∀{l:List (Nat×Nat)} {cL:List (Nat×Ob)},jN st ids ρ l=some cL->∃q,mM names ρ' l cL=some q/\∀i o,find q i=some o->st.ob i=some o
 |[],cL,z=>by simp only[jN,aM] at z;subst z;exact⟨[],rfl,λi o h=>by simp[find] at h⟩
 |(id,U)::l,cL,z=>by
  simp only[jN] at z;split at z
  .rename_i o os S G
   obtain⟨D,z⟩:=(show o.closed ids=true/\some ((U,o.pG ρ)::os)=some cL from by cases D:o.closed ids with
    |false=>rw[D] at z;cases z
    |true=>rw[D] at z;exact⟨rfl,z⟩)
   injection z with z;subst z;obtain⟨q,O,R⟩:=L9 H I G;refine⟨(id,(o.pG ρ).pG ρ')::q,?_,λi V F=> ?_⟩
   .simp only[mM,gz,Ob.Dc I D,jH,aj,O,cV]
   .simp only[find] at F;cases B:Nat.beq id i with
    |true=>simp only[B,aj,aM] at F;rw[<-beq_iff.1 B,S,<-F,Ob.vT H D]
    |false=>simp only[B,au] at F;exact R i V F
  .cases z
def QG {c:Call} {f:Operand} {r:AV} {d:Option Nat} (hst:d.any h.stay.contains=true) (B:sK P h cC st c f=some r):jX P h cC st c f d=some (st.set d (.pv r)):=by
 unfold sK at B;split at B
 .rename_i g args l;unfold uj at l;split at l
  .rename_i g' pre z vs hf hvs;simp only[aM,bD] at l;obtain⟨rfl,rfl⟩:=l;have Lm:ij (d.any h.stay.contains) st (pH (pre++(vs++z)))=λ_=>false:=by
    funext id;simp only[ij,hst,di,Bool.and_false]
   have O:gD st 200 ((pre++(vs++z)).flatMap SV.ids) []=jB st (pre++(vs++z)):=rfl;generalize jB st (pre++(vs++z))=ids at B O;have hm:iW (λ_=>false) 0 ids=jO ids:=rfl;cases q:(distinct ids&&Nat.blt ids.length 10000&&(pre++(vs++z)).all (SV.closed ids)) with
   |false=>rw[q] at B;cases B
   |true=>
   simp only[q,aj] at B;have F:=q;simp only[aK] at F;obtain⟨⟨aaq,R⟩,aao⟩:=F;have R:ids.length<10000:=by simpa[cz] using R
   have hnd:=mP aaq;have hm1:(jO ids).map (·.1)=ids:=tG _ _ _;have hnn:((jO ids).map (·.2)).Nodup:=xy _ 0 ids af;have I:∀id D,(id,D)∈jO ids->find (jO ids) id=some D:=λid D H=>jL (by rw[hm1];exact hnd) H
   have S:∀id D,(id,D)∈jO ids->find (swap (jO ids)) D=some id:=λid D H=>jL (by rw[yt];exact hnn) (Be H)
   have hex:∀id∈ids,∃D,(id,D)∈jO ids:=λid hid=>by rw[<-hm1] at hid;obtain⟨p,H,rfl⟩:=aD.1 hid;exact⟨p.2,H⟩
   split at B
   .rename_i cL G;split at B
    .rename_i r' U hr;cases hs:(vh U cL&&r'.jF) with
     |false=>rw[hs] at B;cases B
     |true=>
      rw[hs] at B;simp only[aj,aM] at B;subst B;simp only[aK] at hs;have e:=KD hs.1;subst e
      obtain⟨V,hb,hg⟩:=L9 (ids:=ids) (names:=(jO ids).map (·.2)) (ρ:=iD (jO ids)) (ρ':=iD (swap (jO ids))) (λj hj=>by
       obtain⟨D,H⟩:=hex j hj
       simp[iD,I j D H,S j D H]) (λj hj=>by
       obtain⟨D,H⟩:=hex j hj;simp only[iD,I j D H,nE]
       exact aD.2 ⟨(j,D),H,rfl⟩) G
      unfold jX;simp only[hf,hvs,Lm,O,hm,q,aj,G,hr,hb,hs.2];have e1:fu (ids.filter λ_=>false) st=st:=by have e0:(ids.filter λ_=>false)=[]:=yG.2 (λ_ _=>by decide);rw[e0];rfl
      rw[e1];congr 2;congr 1;funext i;cases hfi:find V i with
      |none=>rfl
      |some o=>rw[hg i o hfi];rfl
    .cases B
   .cases B
  .cases l
 .cases B
def Kl (H:Rel N w0 μ0 L μ loc st a w) {b:Bool}:∀{xs:List Operand} {G:List TypeId} {D:List AV},r6 P b st xs G=some D->cI μ D (xs.map a.eval):=by intro xs;induction xs with
 |nil=>simp_all[r6,dM]
 |cons x xs O=>
  intro G D q;simp[r6] at q;split at q
  .rename_i v R l B;injection q with q;subst q;refine cK ?_ (O B);unfold OV at l;cases z:(b&&Dl x) with
   |true=>
    rw[z] at l;simp at l;subst l;have:=(lP.1 z).2;unfold Dl at this;split at this
    .rfl
    simp_all
   |false=>rw[z] at l;obtain⟨s,I,F⟩:=dx.1 l;have:=aZ H I;cases s<;>simp[iU] at F;subst F;exact this
  simp_all
def xA:∀{D:List AV} {l:List (Nat×TypeId×Nat)} {z:List oC} {B:List Value},sZ D l=some z->(∀x∈l,fH (loc x.1)= .slice none 0 0)->cI μ D B->kP μ loc z B
 |[],l,z,B,q,_,O=>by simp_all[sZ,cI,kP]
 |a::D,l,z,B,q,I,O=>by
  obtain⟨u,R,rfl,G,H⟩:=O;have other:∀{k':List _},sZ _ l=some _->kP _ _ (.v a::k') _:=λF=>⟨u,R,rfl,G,xA F I H⟩
  cases a with
  |tH=>cases l with
   |nil=>simp[sZ] at q
   |cons x l=>simp[sZ,cv] at q;obtain⟨k',F,rfl⟩:=q;rw[rep] at G;refine⟨u,R,rfl,?_,xA F (λy S=>I y (by simp[S])) H⟩;show u=fH _;simp_all
  |_=>simp[sZ,cv] at q;grind
def QE (hR:Rel N w0 μ0 L μ loc st a w) (q:iw L.q μ0 P cC) {o:Oper} {c:Call} {f:Operand} {B:St} {d:Nat} {V:List Nat} (z:o.dst=some d) (hd:∀i,o.dst=some i->i<N) (ho:o.op= .call c) (hc:c.callee= .value f)
  (l:Cz P h cC st c f d V=some B) (hK:mA N w0 μ0 L B K):o.tU P a w K Q:=by
 unfold Cz at l;simp only[] at l;split at l
 .rename_i g pre U vs hf S;cases F:(mS P V d 0 c.args.toList c.argTypes.toList).all (λx=>Nat.blt x.1 10000) with
  |false=>rw[F] at l;cases l
  |true=>
  rw[F,aj] at l;obtain⟨loc2,D,h3,_⟩:=qy hR _ _ _ hR (λx hx=>cz.mp (cF.1 F x hx));obtain⟨sf,R,I⟩:=dx.1 hf;obtain⟨ps,cs,O,G,H⟩:=Js (aZ D R) I
  exact AR D q hd ho hc (mu O (mu (AG D h3 S) G)) (λid=>Ue λhm=>by
   simp only[ij,aK] at hm
   exact hm.1.1.2) H (z▸l) hK
 .cases l
theorem Lv (R:Rel N w0 μ0 L μ loc st a w) (G:iw L.q μ0 P cC) {o:Oper} {c:Call} {f:Operand} {st1:St} (hd:∀i,o.dst=some i->i<N) (ho:o.op= .call c) (hc:c.callee= .value f)
  (D:iI P h cC st c f o.dst=some st1) (hK:mA N w0 μ0 L st1 K):o.tU P a w K Q:=by
 unfold iI at D;split at D
 .rename_i d z;split at D
  .rename_i gv _;exact QE R G z hd ho hc D hK
  split at D
  .rename_i g caps vs hf hvs;obtain⟨cs,Ym,hcs⟩:=Jt R hf;have main:∀{r:AV},cC g ((vs++caps).map .pv) []=some (r,[])->(∀v O B q,fF L.q μ loc [] r [] w v B q O->Rel N w0 μ0 L B loc st a O->K (a.put o.dst v) O)->o.tU P a w K Q:=λ{r} hr hk=>by
    obtain⟨he,hC⟩:=iw.noY (G g _ [] _ [] hr w μ loc (c.args.toList.map a.eval++cs) R.base.1 R.xI (by simp[find]) (by intro i j oi oj V;simp[find] at V) (sd (oy (Kl R hvs) hcs))) λxs=>by simp[find]
    refine IK (R:=λv O=>∃B q,fF L.q μ loc [] r [] w v B q O) (r:=r) (A9:=[]) ho hc Ym rfl he (hC.mono ?_) ?_
    .simp
    .rintro v O ⟨B,q,F⟩;exact hk v O B q F (R.grow (Re F.ext) F.xI (D7 F) F.drawn)
   split at D
   .rename_i e sz xs hr;cases hn:(wO h d).isSome with
    |true=>simp_all
    |false=>
    rw[hn] at D;simp only[au,aM] at D;subst D;refine main hr λv O B q F h1=> ?_
    obtain⟨us,U,hrc,S⟩:∃us,O.ownsRow 0 e sz v xs.length us/\cW B sz xs us/\∀g,bI v=some g->w.heap.size<=g/\∀j,B g j=none:=by
     rcases F.res with hx|⟨_,_,_,_,e1,_⟩|⟨_,e1,_⟩|⟨e2,sz2,xs2,us,e1,k1,k2,k3⟩
     .simp_all[rep,cI]
     .cases e1
     .simp at e1
     .simp only[AV.gM.injEq,cg,AV.self.injEq,AV.dy.injEq,c9] at e1;obtain⟨rfl,rfl,rfl⟩:=e1;exact⟨us,k1,k2,λg H=>⟨(k3 g H).1.resolve_right λ⟨_,_,_,_,hx,_⟩=>by simp[gZ] at hx,(k3 g H).2.1⟩⟩
    have hdN:=hd d z;have hin:∀g,lE v g->bI v=some g:=λg H=>by
     rcases H with H|⟨us',e1,_⟩
     .exact H
     .subst e1;rcases U.2 with⟨e2,_⟩|⟨_,_,_,e2,_⟩<;>cases e2
    have h2:=h1.new (id:=d) (o:= .row e _ _) (.inl (eW hdN R.small)) ⟨us,by rw[cN];omega,hrc,λg H=>by
      rw[cN] at H;obtain⟨k1,k2⟩:=S g (hin g H)
      exact⟨.inl (eE R.grown k1),k2⟩⟩ (λj oj hj _ g H hb=>by
     have k1:=(S g (hin g H)).1;have:=((R.obs j _ hj).block g hb).2.1
     omega)
    rw[z];refine hK _ _ _ _ (h2.set (λi V=>(fB V)▸hdN) ?_);show v=fH _;rw[cN];rcases U.2 with⟨e2,_⟩|⟨_,_,_,e2,_⟩<;>rw[e2]<;>rfl
   .rename_i cs' hr;split at D
    .injection D with D;subst D;refine main hr λv O B q F h1=> ?_
     have I:=F.pure rfl;rw[z];exact hK _ _ _ _ (h1.set (λi V=>hd i (z.trans V)) I)
    .rename_i l _ hl;split at D
     .rename_i ks hks;cases hb:l.all (λx=>Nat.blt x.1 10000) with
      |false=>simp_all
      |true=>
      rw[hb] at D;simp at D;subst D;refine main hr λv O B q F h1=> ?_
      have I:=F.pure rfl;obtain⟨vs',rfl,hra,hone⟩:=I;obtain⟨loc2,h2,h3,_⟩:=qy h1 l _ _ h1 (λx hx=>cz.mp (cF.1 hb x hx));rw[z];exact hK _ _ _ _ (h2.set (λi V=>hd i (z.trans V)) ⟨_,rfl,xA hks h3 hra,hone⟩)
     simp_all
    simp_all
   simp_all
  simp_all
 simp_all
theorem Nv (B:Rel N w0 μ0 L μ loc st a w) (l:iw L.q μ0 P cC) {o:Oper} {c:Call} {f:Operand} {r:AV} (F:∀i,o.dst=some i->i<N) (G:o.op= .call c) (D:c.callee= .value f) (q:o.dst.any h.stay.contains=true)
  (H:sK P h cC st c f=some r) (z:mA N w0 μ0 L (st.set o.dst (.pv r)) K):o.tU P a w K Q:=
 AS B l F G D (QG q H) z
def Ub (z:Rel N w0 μ0 L μ loc st a w) (wI:iw L.q μ0 P cC) {o:Oper} {v:SV} (H:∀i,o.dst=some i->i<N) (l:dW P h cC o st=some v) (F:mA N w0 μ0 L (st.set o.dst v) K):o.tU P a w K Q:=by
 unfold dW at l;split at l
 .rename_i t len D I;cases V:(o.dst.any h.rows.contains||o.dst.any h.fP.contains) with
  |true=>simp_all
  |false=>simp only[V,au] at l;cases hl:lu P t len D.toList st with
   |none=>simp_all
   |some x=>grind[T9]
 .rename_i c I;split at l
  .rename_i f hc;replace l:=F5 l;cases R:(o.dst.any h.stay.contains&&wide st c f) with
   |true=>rw[R] at l;simp only[aj,cv] at l;obtain⟨r,hr,rfl⟩:=l;rw[aK] at R;grind[Nv]
   |false=>
   rw[R] at l;replace l:=F5 l;split at l
   .rename_i g q vs hf hvs;split at l
    .rename_i r hr;cases hp:((!(c.args.toList.any (lC st))||r.plain)&&r.jF) with
     |true=>simp only[hp,aj,aM] at l;subst l;rw[aK] at hp;grind[Ja,Bool.or_comm]
     |false=>grind
    simp_all
   simp_all
  .exact pN z H (G1 z I l) F
 .rename_i t x k ok I;exact pN z H (vS z (F5 l)) F
 .rename_i t D I;exact pN z H (Rv z I (F5 l)) F
 .rename_i t x I;exact pN z H (vS z (F5 l)) F
 .rename_i g first q I
  cases O:first.isEmpty with
  |false=>
   simp[O] at l;cases G:(q.isEmpty&&o.dst.any h.fP.contains&&Nat.blt g 1000000) with
   |false=>simp_all
   |true=>
   rw[G] at l;simp only[aK] at G;have hc0 :=by simpa using G.1.1
   have hg :=cz.mp G.2;have run:(execOp a.eval o).run P w= .ok (.value (.func (.func g) (first.toList.map a.eval).toArray #[])) w:=by
    unfold execOp;rw[I,hc0];have e:first.map a.eval=(first.toList.map a.eval).toArray:=by grind
    simp[Instr.makeFunc,e]
   cases B:qK st first.toList with
   |none=>simp_all
   |some vs=>
    simp[B] at l;subst l;refine pN z H ⟨_,run,(show fQ _ _ (.cl _ _) _ from⟨_,?_,Ea z B⟩)⟩ F;have h1:Nat.blt (g+1000000) 1000000=false:=by cases V:Nat.blt _ _ with
     |false=>rfl
     |true=>have:=cz.mp V;omega
    have h2:Nat.blt (g+1000000) _=true:=cz.mpr (Nat.add_lt_add_right hg _);simp[clV,h1,h2,au,aj,lR]
  |true=>
   simp[O] at l;have hf0 :=by simpa using O
   have run:(execOp a.eval o).run P w= .ok (.value (.func (.func g) #[] (q.toList.map a.eval).toArray)) w:=by
    unfold execOp;rw[I,hf0];have e:q.map a.eval=(q.toList.map a.eval).toArray:=by grind
    simp[Instr.makeFunc,e]
   cases S:o.dst.any h.fP.contains with
   |true=>
    simp[S] at l;cases U:Nat.blt g 1000000 with
    |false=>simp_all
    |true=>
    rw[U] at l;cases B:qK st q.toList with
    |none=>simp_all
    |some vs=>simp[B] at l;subst l;exact pN z H ⟨_,run,(show fQ _ _ (.cl g _) _ from⟨_,by simp[clV,U,aj],Ea z B⟩)⟩ F
   |false=>
   simp[S] at l;cases B:tX st q.toList with
   |none=>simp_all
   |some vs=>simp[B] at l;subst l;have hall:=Eb z B;refine pN z H ⟨_,run,?_⟩ F;show rep _ _ _;rw[rep];simp_all
 .have key:eU P o st=some v:=by
   split at l
   .grind
   .grind
   .exact l
  exact pN z H (vS z key) F
 .exact pN z H (vS z l) F
def Ya (G:Rel N w0 μ0 L μ loc st a w) (wI:iw L.q μ0 P cC) {o:Oper} (S:∀i,o.dst=some i->i<N) (B:mD P h cC o st=some st') (I:mA N w0 μ0 L st' K):o.tU P a w K Q:=by
 unfold mD at B;split at B
 .rename_i d q D;split at B
  .rename_i e s hs;split at B
   .injection B with B;subst B;exact eff_nil G (S d q) q D I
   .cases B
  .cases B
 .rename_i d x hnc q D;split at B
  .rename_i id R;cases U:h.mvs.contains d with
   |true=>rw[U] at B;exact Oz G (S d q) q D R B I
   |false=>
   rw[U] at B;simp only[au] at B;split at B
   .rename_i st1 hp;split at B
    .rename_i v hv1;injection B with B;subst B;obtain⟨μ1,_,h1⟩:=G.cZ hp;exact pN h1 S (Dj h1 (.inr D) hv1) (by rw[q];exact I)
    .cases B
   .cases B
  .cases B
 .rename_i d t x q D;split at B
  .rename_i cs R hagg;injection B with B;subst B;have V:=aZ G R;simp only[fQ,rep] at V;obtain⟨vs,V,hall,hone⟩:=V;refine Eh (v:= .agg vs.toArray) G (S d q) q ?_ (by simpa[Value.cells] using sd hall) (by assumption) I;unfold execOp;rw[D];simp[Instr.box,newVar,newRow,V,Value.cells]
  .rename_i cs R hagg;cases hm:(SV.ag cs).mentions d with
   |true=>rw[hm] at B;cases B
   |false=>
   rw[hm] at B;simp only[au,aM] at B;subst B;have V:=SE (x:= .pointer (some ⟨w.heap.size,0,none⟩)) hm (aZ G R);obtain⟨vs,V,hall,hone⟩:=V;refine Eh (v:= .agg vs.toArray) G (S d q) q ?_ (by simp_all[Value.cells,sL]) (by assumption) I;unfold execOp;rw[D];simp[Instr.box,newVar,newRow,V,Value.cells]
  .rename_i v hnot R hagg;split at B
   .rename_i hone;injection B with B;subst B;have V:=aZ G R;obtain⟨h1,hc1⟩:=U4 G hone V;refine Eh (v:=a.eval x) G (S d q) q ?_ (by rw[hc1];exact⟨_,[],rfl,zw V,rfl⟩) (by rw[hc1];simpa using h1) I;unfold execOp;rw[D];simp[Instr.box,newVar,newRow]
   .cases B
  .cases B
 .rename_i d t q D;cases hrw:h.rows.contains d with
  |true=>
   rw[hrw] at B;simp only[aj] at B;split at B
   .rename_i svs l hz;injection B with B;subst B;exact LA G (S d q) q D hz I
   .cases B
  |false=>
  rw[hrw] at B;simp only[au] at B;split at B
  .rename_i z hz;injection B with B;subst B;obtain⟨i,v,hi,hzv,hc⟩:=Nc (μ:=μ) hz;refine Eh (v:=v) G (S d q) q ?_ (sd hc.1) hc.2 I;unfold execOp;rw[D];simp[Instr.alloc,zeroValue,typeInfo,hi,hzv,newVar,newRow]
  .cases B
 .rename_i d t l c q D;split at B
  .rename_i e s kl nl kc nc hs hl hc;split at B
   .rename_i z i hz hi;split at B
    .rename_i F;injection B with B;subst B;exact Z1 G (S d q) q D hs hl hc hz hi F I
    .cases B
   .cases B
  .cases B
 .rename_i d t len parts q D;cases hby:h.fP.contains d with
  |true=>rw[hby] at B;exact QV G (S d q) q D B I
  |false=>
  rw[hby] at B;simp only[au] at B;split at B
  .rename_i e s xs hl;split at B
   .injection B with B;subst B;exact NG G (S d q) q D hl I
   .rename_i k e' s' hn;cases hb:(Nat.blt k s&&xs.all (qE k)) with
    |false=>rw[hb] at B;cases B
    |true=>rw[hb] at B;simp only[aj,aM] at B;subst B;obtain⟨b1,b2⟩:=lP.1 hb;exact LB G (S d q) q D hl (cz.mp b1) b2 I
  .cases B
 .rename_i t x y q D;split at B
  .rename_i id sz i off j R hy;exact Sv G q D R hy B I
  .rename_i id off j sz n R hy;exact QO G q D R hy B I
  .rename_i sa sv _ hnr R hy;exact Yb G q D R hy B I
  .cases B
 .rename_i d t r q D;split at B
  .rename_i k e hu;cases hb:vn P st r with
   |false=>simp_all
   |true=>
    rw[hb] at B;simp only[aj] at B;cases hrw:h.rows.contains d with
    |true=>
     rw[hrw] at B;simp only[aj] at B;split at B
     .split at B
      .injection B with B;subst B;exact T2 G (S d q) q D hu hb I
      .cases B
     .cases B
    |false=>
    rw[hrw] at B;simp only[au,aM] at B;subst B;exact QW G (S d q) q D hu hb I
  simp_all
 .rename_i t m k x q D;cases hrm:qv h m with
  |true=>rw[hrm] at B;exact QX G q (.inl D) B I
  |false=>rw[hrm] at B;exact Ei G q (.inl D) B I
 .rename_i t m k x q D;cases hrm:qv h m with
  |true=>rw[hrm] at B;exact QX G q (.inr D) B I
  |false=>rw[hrm] at B;exact Ei G q (.inr D) B I
 .rename_i d t m k q D;cases hrm:qv h m with
  |true=>rw[hrm] at B;exact X7 G (S d q) q D B I
  |false=>rw[hrm] at B;cases B
 .rename_i d t x q D;split at B
  .rename_i s ht R;injection B with B;subst B;exact X9 G (S d q) q D ht R I
  .cases B
 .rename_i d x q D;split at B
  .rename_i id R;split at B
   .rename_i s pos qC;refine Z2 G (S d q) q D R qC ?_;grind
   .cases B
  .cases B
 .rename_i d t parts q D;cases hrw:h.rows.contains d with
  |false=>rw[hrw] at B;cases B
  |true=>rw[hrw] at B;exact LC G (S d q) q D B I
 .rename_i d t x q D;cases Th:h.take.contains d with
  |false=>rw[Th] at B;cases B
  |true=>rw[Th] at B;exact L1 G (S d q) q D B I
 .rename_i d g first caps q D
  cases hfi:first.isEmpty with
  |false=>rw[hfi] at B;cases B
  |true=>
   rw[hfi] at B;simp only[aj] at B;split at B
   .rename_i st1 hp;simp only[cv] at B;obtain⟨vs,hcs,rfl⟩:=B;exact NH G (S d q) q D hfi hp hcs I
   .cases B
 .rename_i d c D;split at B
  .rename_i hc;split at B
   .rename_i d' x y t t' q H O;split at B
    .rename_i e s id sy hs R hy;split at B
     .rename_i e' sz xs sz' ys i qC hel hi;split at B
      .rename_i F;obtain⟨rfl,rfl,rfl,rfl,hpos,hby,hlen,hz,U⟩:=F;injection B with B;subst B;have ho':o.op= .call { callee:= .builtin .append,args:= #[x,y],argTypes:= #[t,t] }:=by
        rw[D];obtain⟨cal,⟨as⟩,⟨ts⟩⟩:=c;simp only at hc H O;subst hc;subst H;subst O;rfl
       refine T0 G (S d' q) q ho' hs R hy qC hel hi hpos hby hlen hz ?_ I;simp only[gE,gA] at U;rcases U with hm|hm
       .left;simpa[cz] using hm
       simp_all
      simp_all
     .rename_i e' sz k e2 s2 xs zs sz' ys i qC hel hi;split at B
      .rename_i F;obtain⟨rfl,rfl,rfl,rfl,hpos,hby,hlen,hz,U,hall⟩:=F;injection B with B;subst B;have ho':o.op= .call { callee:= .builtin .append,args:= #[x,y],argTypes:= #[t,t] }:=by
        rw[D];obtain⟨cal,⟨as⟩,⟨ts⟩⟩:=c;simp only at hc H O;subst hc;subst H;subst O;rfl
       refine QU G (S d' q) q ho' hs R hy qC hel hi hpos hby hlen hz ?_ hall I;simp only[gE,gA] at U;rcases U with hm|hm
       .simp_all
       simp_all
      simp_all
     simp_all
    .rename_i e s id sy hs R hy;split at B
     .rename_i e' sz xs sz' ys i qC hel hi;split at B
      .rename_i F;obtain⟨rfl,rfl,rfl,rfl,hpos,hby,hlen,hz,U,hne⟩:=F;injection B with B;subst B;have ho':o.op= .call { callee:= .builtin .append,args:= #[x,y],argTypes:= #[t,t] }:=by
        rw[D];obtain⟨cal,⟨as⟩,⟨ts⟩⟩:=c;subst hc;subst H;subst O;rfl
       refine QT G (S _ q) q ho' hs R hy qC hel hi hpos hby hlen hz ?_ hne I;simp[gE,gA] at U;rcases U with hm|hm
       .simp_all
       simp_all
      simp_all
     simp_all
    simp_all
   simp_all
  .grind[T1]
  .rename_i hc;split at B
   .rename_i x t q H O;split at B
    .rename_i e s id sz lo hi hs R;split at B
     .rename_i e' sz' xs z qC hz;split at B
      .rename_i F;injection B with B;subst B;exact X6 G q D hc H O hs R qC hz F I
      .cases B
     .cases B
    .exact NI G q D hc H O B I
    .cases B
   .cases B
  .rename_i f hc;cases how:o.dst.any h.owns.contains with
   |true=>grind[Lv]
   |false=>
   rw[how] at B;replace B:=F5 B;cases hw:wide st c f with
   |true=>simp only[hw,aj] at B;grind[AS]
   |false=>
   cases N3:c.args.toList.any (λx=>(pE h st x).isSome) with
   |true=>simp only[N3,aj] at B;grind[Lw]
   |false=>
   simp only[N3] at B;split at B
   .rename_i st1 hp;split at B
    .split at B
     .rename_i r hr;cases NY:(c.args.toList.any (lC st1)|| !r.jF) with
      |true=>grind
      |false=>obtain⟨μ1,h1⟩:=F9 G hp;rw[jT] at NY;grind[Ja]
     simp_all
    simp_all
   simp_all
  simp_all
 simp_all
def rZ:∀{l:List SV} {μ:Mu} {loc:Nat->Value} {st st':St} {a:Act} {w:World},Rel N w0 μ0 L μ loc st a w->pq l st=some st'->∃B,μ.le B/\Rel N w0 μ0 L B loc st' a w
 |[],μ,loc,st,st',a,w,D,q=>by simp only[pq,aM] at q;subst q;exact⟨μ,Mu.le.refl _,D⟩
 |s::l,μ,loc,st,st',a,w,D,q=>by
  unfold pq at q;split at q
  .rename_i e;cases e
  .rename_i id V e;injection e with e1 F;subst e1;subst F;obtain⟨st1,R,S⟩:=dx.1 q;obtain⟨μ1,I,G⟩:=D.cZ R;obtain⟨O,z,H⟩:=rZ G S;exact⟨O,I.trans z,H⟩
  .rename_i s' V U e;injection e with e1 F;subst e1;subst F;exact rZ D q
theorem SP (B:Rel N w0 μ0 L μ loc st a w) (l:iw L.q μ0 P cC) {o:Oper} (D:∀i,o.dst=some i->i<N) (q:step0 P h cC o st=some st') (z:mA N w0 μ0 L st' K):o.tU P a w K Q:=by
 unfold step0 at q;split at q
 .rename_i v F;injection q with q;subst q;exact Ub B l D F z
 .exact Ya B l D q z
def Bn:∀{l:List Nat} {st st':St} {μ:Mu} {loc:Nat->Value} {a:Act} {w:World},Rel N w0 μ0 L μ loc st a w->mX l st=some st'->∃q,μ.le q/\Rel N w0 μ0 L q loc st' a w
 |[],st,st',μ,loc,a,w,B,F=>by simp only[mX,aM] at F;subst F;exact⟨μ,Mu.le.refl _,B⟩
 |t::l,st,st',μ,loc,a,w,B,F=>by
  simp only[mX] at F;obtain⟨O,z,S⟩:=dx.1 F;obtain⟨U,I,G⟩:∃q,μ.le q/\Rel N w0 μ0 L q loc O a w:=by
   unfold qt at z;split at z
   .exact B.cZ z
   .exact B.cZ z
   .split at z
    .exact rZ B z
    .cases z
   .injection z with z;subst z;exact⟨μ,Mu.le.refl _,B⟩
  obtain⟨R,D,H⟩:=Bn G S;exact⟨R,I.trans D,H⟩
def KI (G:Rel N w0 μ0 L μ loc st a w) (l:iw L.q μ0 P cC) {o:Oper} (H:∀i,o.dst=some i->i<N) (z:step P h cC o st=some st') (F:mA N w0 μ0 L st' K):o.tU P a w K Q:=by unfold step at z;obtain⟨I,B,D⟩:=dx.1 z;obtain⟨O,_,q⟩:=Bn G B;exact SP q l H D F
def zS (H:Rel N w0 μ0 L μ loc st a w) {B:Array Oper} {o:Oper} {b:Bool} (l:ql B o st=some b):Region.wanted o (yielded B a.tmps)=b:=by
 unfold ql at l;unfold Region.wanted;split at l
 .rename_i D;injection l with l;subst l;rw[D]
 .rename_i j I D;rw[D];simp only;split at l
  .rename_i d q;split at l
   .rename_i t F;injection l with l;subst l;obtain⟨v,G,z⟩:=H.env d _ F;simp only[fQ,rep] at z;subst z;simp[yielded,q,G]
   .rename_i F;injection l with l;subst l;obtain⟨v,G,z⟩:=H.env d _ F;have z:v=undef:=z;subst z;simp[yielded,q,G,undef]
   .cases l
  .cases l
def O4 (B:iw L.q μ0 P cC) {I:Array Oper}:∀{l:List Oper} {st:St} {μ:Mu} {loc:Nat->Value} {a:Act} {w:World},Rel N w0 μ0 L μ loc st a w->(∀o∈l,∀i,o.dst=some i->i<N)->qR P h cC I l st=some st'->
  (∀U w' O z,Rel N w0 μ0 L O z st' U w'->Q .normal U w')->∀F,Wd F->wpListIn F 0 P I Q l a w:=by
 intro l;induction l with
 |nil=>intro st μ loc a w H _ q R F G;simp only[qR,aM] at q;subst q;exact R _ _ _ _ H
 |cons o l ih=>
  intro st μ loc a w H S q R F G;simp only[qR] at q;split at q
  .rename_i b hw;have D:=zS H hw;unfold wpListIn;rw[D];cases b with
   |true=>simp only[aj] at q;simp only[fZ];cases hs:step P h cC o st with
    |none=>simp[hs] at q
    |some st1=>simp[hs] at q;exact KI H B (S o ai) hs (λU w' O z h1=>ih h1 (λp V=>S p (by simp[V])) q R F G) F G
   |false=>simp only[au] at q;simp only[dB,eF];exact⟨λf _=>G.fn f,ih (H.set (S o ai) (show fQ μ loc .undef undef from rfl)) (λp V=>S p (by simp[V])) q R F G⟩
  .cases q
end
