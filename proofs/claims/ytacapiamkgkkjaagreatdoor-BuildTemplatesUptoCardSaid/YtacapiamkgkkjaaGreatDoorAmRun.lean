/- THE ABSTRACT MACHINE. -/
import Derived.Test.YtacapiamkgkkjaaGreatDoorAmEff
set_option linter.all false
namespace Go.AM
open Go.RowKit
def Hz (μ:Mu) (w:World):Prop:=∀b j v,μ b j=some v->IM w b j=some v
def gJ (q:Qp) (loc:Nat->Value) (names:List Nat):tG:=⟨λid=>if id∈names then some (loc id) else none,q⟩
def Xz (loc:Nat->Value) (cM:List (Nat×Ob)):Prop:=∀i j l q,find cM i=some l->find cM j=some q->i≠j->∀g,mb (loc i) g->¬mb (loc j) g
structure eo (q:Qp) (μ:Mu) (loc:Nat->Value) (names:List Nat) (r:AV) (BN:List (Nat×Ob)) (w:World) (v:Value) (μ':Mu) (loc':Nat->Value) (w':World):Prop where
 ext:μ.extL w.heap.size (gJ q loc names) μ'
 yx:Hz μ' w'
 res:rep μ' r v\/(∃n A m c,r= .self n/\10000∈names/\loc' 10000= .slice A m c/\n<=m/\v= .slice A n c)\/
  (∃x,r= .gy [.gy [.self 0, .lY,x]]/\gb μ' loc' (xz x) v/\(xz x).closed (BN.map (·.1))=true)\/
  ∃e sz xs vs,r= .gy [.gy [.self e, .dK sz xs]]/\w'.ownsRow 0 e sz v xs.length vs/\de μ' sz xs vs/\∀g,bH v=some g->(w.heap.size<=g\/V0 (gJ q loc names) g)/\(∀j,μ' g j=none)/\∀id o,find BN id=some o->¬mb (loc' id) g
 obs:∀id o,find BN id=some o->mS w.heap.size (gJ q loc names) μ' loc' w' id o
 apart:Xz loc' BN
 keep:∀b,b<w.heap.size->¬NU (gJ q loc names) b->w'.heap[b]? =w.heap[b]?
 fix:∀id,id∈names->10000<=id->id<20000->loc' id=loc id
 os:w'.os=w.os
 tape:w'.tape=w.tape
 output:w'.output=w.output
 grown:w.heap.size<=w'.heap.size
 drawn:q->w.drawn<=w'.drawn
def SZ {n:Nat} {q:Qp} {loc:Nat->Value} {μ l:Mu} (h:μ.extL n (gJ q loc []) l):μ.ext n l:=⟨h.1,λb j v z=>by
 rcases h.2 b j v z with h|h|⟨_,_,_,_,B,_⟩
 .simp_all
 .omega
 .simp[gJ] at B⟩
def eo.pure {q:Qp} {μ:Mu} {loc:Nat->Value} {names:List Nat} {r:AV} {l:List (Nat×Ob)} {w:World} {v:Value} {B:Mu} {z:Nat->Value} {F:World} (h:eo q μ loc names r l w v B z F) (D:r.jT=true):rep B r v:=by
 rcases h.res with h|⟨n,A,m,c,rfl,_⟩|⟨x,rfl,_⟩|⟨e,G,xs,H,rfl,_⟩<;>try cases D
 .exact h
def Qj {r:AV} (h:r.plain=true):r.jT=true:=by cases r with
 |self n=>cases h
 |gy z=>
  have:z.any AV.Yg=false:=by rw[mD];intro x q l;have:=cv.1 (h) x q;cases x<;>simp[AV.Yg,AV.scalar] at l this
  simp[AV.jT,this]
 |_=>rfl
def JY (P:Program) (u:Value) (args:Array Value) (w:World) (R:Ending->World->Prop):Prop:=
 ∃(l:Nat) (f:FuncId) (z:Array Value) (q body:Code),u= .func (.yield l) #[] #[]/\(Instr.yield l args).run P w= .ok (.round l f z q body) w/\∀F,Wd F->RoundIn F (0-1) P l f z q body w R
def iD (q:Qp) (B:Mu) (P:Program) (cr:eX):Prop:=∀g args cM r l,cr g args cM=some (r,l)->∀(w:World) (μ:Mu) (loc:Nat->Value) (F:List Value),B.le μ->Hz μ w->
 (∀id o,find cM id=some o->mS w.heap.size (gJ q loc (cM.map (·.1))) μ loc w id o)->Xz loc cM->iq μ loc args F->
 (g<2000000/\(∀H,(callFunc g F.toArray).run P H= .ok (.enter g F.toArray) H)/\
  Calls P g F.toArray w λe G=>∃v D z,e= .returned v/\eo q μ loc (cM.map (·.1)) r l w v D z G)\/
 (2000000<=g/\(∃xs,find cM 10000=some (.lp xs))/\∃as v,F=as++[v]/\
  JY P (clV g [v]) as.toArray w λe G=>∃v D z,e= .returned v/\eo q μ loc (cM.map (·.1)) r l w v D z G)
def iD.noY {A B C R:Prop} {cM:List (Nat×Ob)} {D:Prop} (h:(A/\B/\C)\/(D/\(∃xs,find cM 10000=some (.lp xs))/\R)) (l:∀xs,find cM 10000≠some (.lp xs)):B/\C:=by simp_all
def iD.mono {q:Qp} {B D:Mu} {P:Program} {cr:eX} (h:iD q B P cr) (F:B.le D):iD q D P cr:=
 λg args cM r z G w μ loc H l=>h g _ _ r _ G w _ _ _ (F.trans l)
section
variable {P:Program} {N:Nat} {w0:World} {μ0:Mu} {L:tG} {μ:Mu} {loc:Nat->Value} {st st':St} {a:Act} {w:World} {Q:Exit->Act->World->Prop} {K:Act->World->Prop} {h:Hint} {cr:eX}
def GX {l:Type} {c:Bool} {x:Option l} {v:l} (h:(bif c then none else x)=some v):x=some v:=by grind
theorem ry {l:Type} {j i:Nat} {x v:l} (q:find [(j,x)] i=some v):i=j:=by grind[find,beq_iff]
def wI (O:Rel N w0 μ0 L μ loc st a w) {q:Mu} (l:μ.le q):∀{z:List pq} {D:List AV} {B:List Value},kY st z=some D->lM μ loc z B->
  (∀id,pq.r id∈z->∀b j x,mb (loc id) b->IM w b j=some x->q b j=some x)->cH q D B
 |[],D,B,h,k,_=>by simp[kY,aW] at h;subst h;assumption
 | .v a::z,D,B,h,⟨u,_,e,H,I⟩,G=>by subst e;simp[kY,cu] at h;obtain⟨vs',U,rfl⟩:=h;exact cC (yZ l _ _ H) (wI O l U I λid R=>G _ (by simp[R]))
 | .r _::z,D,B,h,⟨u,_,e,H,I⟩,G=>by
  subst e;simp[kY] at h;split at h
  .rename_i v vs' U V;injection h with h;subst h;obtain⟨ob,S,F⟩:=dB.1 U;refine cC ?_ (wI O l V I λid R=>G _ (by simp[R]));have e :=H;rw[e];exact RT (O.obs _ _ S) F l (λb j x hb hc=>G _ ai b j x hb hc)
  grind
 | .p _::z,D,B,h,_,_=>by simp[kY] at h
theorem WC (O:Rel N w0 μ0 L μ loc st a w) {s:SV} {v:AV} {u:Value} (l:nj st s=some v) (I:gb μ loc s u) {F:Mu} (B:μ.le F)
  (z:∀id∈s.QB,∀b j x,mb (loc id) b->IM w b j=some x->F b j=some x):rep F v u:=by
 cases s with
 |pv x=>simp[nj,aW] at l;subst l;exact yZ B _ _ I
 |row id=>obtain⟨ob,D,H⟩:=dB.1 l;have e :=I;rw[e];exact RT (O.obs _ _ D) H B (λb j x hb R=>z _ (by simp[SV.QB,SV.ids]) b j x hb R)
 |ag cs=>simp[nj,cu] at l;obtain⟨vs,hv,rfl⟩:=l;obtain⟨us,rfl,R,h1⟩:=I;exact⟨us,rfl,wI O B hv R (λid hi=>z _ (fC.2 ⟨_,hi,rfl⟩)),h1⟩
 |aq id q=>cases q with
  |full=>simp[nj] at l
  |bs n=>simp[nj] at l
  |nr i=>
   simp[nj] at l;split at l
   .rename_i e sz k U s' xs ys D;split at l
    .rename_i zs hy;obtain⟨m,us,vs,S,hm,V,hrc,hk,h2,h3,h4,h5,h6,h7⟩:=O.obs _ _ D;obtain⟨u',cells,k1,k2,k3,k4,k5⟩:=h4 i _ hy;obtain⟨m',us',e1,_,G⟩:=I;rw[S] at e1;have U:=aU Array.toList (Value.tuple.inj e1);obtain⟨rfl,rfl⟩:=U;have hu:u'=u:=by
      rcases G _ k1 with G|G
      .subst G;rcases k3.2 with⟨e1,_⟩|⟨g,cap,cur,e1,_⟩<;>simp[undef] at e1
      .exact G
     grind[B5,SV.QB,kT]
    simp_all
   simp_all
 |_=>simp[nj] at l
def BM {id:Nat}:∀{l:List pq} {z:List AV},kY st l=some z->id∈(SV.ag l).ids->∃G,st.ob id=some G
 |[],_,_,h=>by simp[SV.ids] at h
 | .v a::l,z,h,q=>by simp[kY,cu] at h;obtain⟨D,F,rfl⟩:=h;exact BM F (by assumption)
 | .r j::l,z,h,q=>by
  simp[kY] at h;split at h
  .rename_i v D F B;simp only[SV.ids,List.filterMap_cons,aJ] at q;rcases q with rfl|q
   .grind[Option.bind_eq_some_iff]
   .exact BM B (by assumption)
  grind
 | .p j::l,z,h,_=>by simp[kY] at h
def lend_ob {s:SV} {v:AV} (h:nj st s=some v) {id:Nat} (l:id∈s.QB):∃z,st.ob id=some z:=by cases s with
 |pv x=>simp[SV.QB,SV.ids] at l
 |row j=>simp[SV.QB,SV.ids] at l;obtain⟨z,B,_⟩:=dB.1 (h);simp_all
 |ag F=>simp[nj,cu] at h;obtain⟨G,D,_⟩:=h;exact BM D l
 |aq j q=>simp[SV.QB] at l;cases q with
  |full=>simp[nj] at h
  |bs n=>simp[nj] at h
  |nr i=>grind[nj]
 |_=>simp[nj] at h
def Dl (F:Rel N w0 μ0 L μ loc st a w) {l:Mu} (D:μ.le l) {xs:List Operand} {q:List TypeId} {z:List AV} (h:j8 P st xs q=some z)
  (B:∀x∈xs,∀t s v,bw P t st x=some s->nj st s=some v->∀id∈s.QB,∀b j x,mb (loc id) b->IM w b j=some x->l b j=some x):cH l z (xs.map a.eval):=by
 induction xs generalizing q z with
 |nil=>simp_all[j8,dO]
 |cons x xs H=>
  simp[j8] at h;split at h
  .cases G:bw P (q.headD 0) st x with
   |none=>simp_all
   |some I=>grind[cC,WC,aZ]
  grind
def aaP {μ q:Mu} {r:AV} {v:Value} (h:r.plain=true) (k:rep μ r v):rep q r v:=by
 have sc:∀(r) (v),r.scalar=true->rep μ r v->rep q r v:=λr v h k=>by cases r<;>simp[AV.scalar] at h<;>simpa[rep] using k
 cases r with
 |gy G=>obtain⟨B,e,l⟩:=k;refine⟨B,e,?_⟩;simp[AV.plain] at h;clear e;induction G generalizing B with
  |nil=>assumption
  |cons x xs R=>obtain⟨u,F,rfl,I,O⟩:=l;simp_all[cC]
 |bool b=>assumption
 |int b n=>assumption
 |str s=>assumption
 |dK U xs=>grind[AV.plain]
 |agg D=>grind[AV.plain]
 |fn f z=>grind[AV.plain]
 |ref D=>grind[AV.plain]
 |mp S H=>grind[AV.plain]
 |self n=>assumption
 |lY=>assumption
 |ux=>assumption
 |hole=>assumption
def ER {D:Mu} {B:Nat->Value} {r:AV} {l:List (Nat×Ob)} {u:Value} {F:World} {q:Qp} (z:eo q μ loc [] r l w u D B F):Below w.heap.size w F:=
 ⟨z.os,z.tape,z.output,z.grown,λb G=>z.keep b G (by rintro⟨id,v,h,_⟩;simp[gJ] at h)⟩
def JT {o:Oper} {c:Call} {f:Operand} {g:Nat} {z l:List Value} {r:AV} {BN:List (Nat×Ob)} (ho:o.op= .call c) (hc:c.callee= .value f) (hf:a.eval f= .func (.func g) #[] l.toArray)
  (U:c.args.toList.map a.eval=z) (he:∀I,(callFunc g (z++l).toArray).run P I= .ok (.enter g (z++l).toArray) I)
  {R:Value->World->Prop} (q:Calls P g (z++l).toArray w λe B=>∃v,e= .returned v/\R v B) (V:∀v B,R v B->K (a.put o.dst v) B):o.uK P a w K Q:=by
 have D:c.args.map a.eval=z.toArray:=by grind
 refine MH (λc' S=>by simp_all) (x:= .enter g (z++l).toArray) (w':=w) ?_ λF H=> ?_
 .simp_all[execOp,resolve,Deferred.ofValue,invoke]
 .refine⟨H.one,?_⟩;have G:CallsIn _ (0-1) P g _ w _:=u7.2 q;have O :=by
   have:=H;rw[<-this] at G;exact G
  refine O.mono ?_;simp_all
def afF {o:Oper} {c:Call} {f:Operand} {g:Nat} {B z l:List Value} (ho:o.op= .call c) (hc:c.callee= .value f) (hf:a.eval f= .func (.func g) B.toArray l.toArray)
  (V:c.args.toList.map a.eval=z) (he:∀O,(callFunc g (B++(z++l)).toArray).run P O= .ok (.enter g (B++(z++l)).toArray) O)
  {R:Value->World->Prop} (q:Calls P g (B++(z++l)).toArray w λe D=>∃v,e= .returned v/\R v D) (hK:∀v D,R v D->K (a.put o.dst v) D):o.uK P a w K Q:=by
 have G:c.args.map a.eval=z.toArray:=by grind
 refine MH (λc' U=>by simp_all) (x:= .enter g (B++(z++l)).toArray) (w':=w) ?_ λF I=> ?_
 .simp_all[execOp,resolve,Deferred.ofValue,invoke]
 .refine⟨I.one,?_⟩;have H:CallsIn _ (0-1) P g _ w _:=u7.2 q;have S :=by
   have:=I;rw[<-this] at H;exact H
  refine S.mono ?_;simp_all
def JY.mono {u:Value} {args:Array Value} {R z:Ending->World->Prop} (h:JY P u args w R) (S:∀e D,R e D->z e D):JY P u args w z:=by obtain⟨l,f,B,q,body,G,H,I⟩:=h;exact⟨l,f,_,_,_,G,H,λF O=>(I F O).mono S⟩
def afG {o:Oper} {c:Call} {f:Operand} (ho:o.op= .call c) (V:c.callee= .value f) {R:Value->World->Prop}
  (O:JY P (a.eval f) (c.args.toList.map a.eval).toArray w λe D=>∃v,e= .returned v/\R v D) (U:∀v D,R v D->K (a.put o.dst v) D):o.uK P a w K Q:=by
 obtain⟨l,g,B,q,body,hf,I,z⟩:=O;have G:c.args.map a.eval=(c.args.toList.map a.eval).toArray:=by grind
 refine MH (λc' S=>by simp_all) (x:= .round l g B q body) (w':=w) ?_ λF H=> ?_
 .simp_all[execOp,resolve,Deferred.ofValue,invoke]
 .refine⟨H.one,(z F H).mono ?_⟩;simp_all
def KG (z:Rel N w0 μ0 L μ loc st a w) {f:Operand} {g:Nat} {l:List AV} (h:bw P 0 st f=some (.pv (.fn g l))):∃q:List Value,a.eval f= .func (.func g) #[] q.toArray/\cH μ l q:=by have:=aZ z h;assumption
theorem UF {x:Operand} (h:lZ st x=false) {t:TypeId} {s:SV} {v:AV} (e:bw P t st x=some s) (l:nj st s=some v):s.QB=[]:=by cases x with
 |tmp i=>simp[bw] at e;cases s with
  |pv x=>rfl
  |row j=>simp[lZ,e] at h
  |ag z=>simp[lZ,e] at h
  |aq j q=>simp[lZ,e] at h
  |_=>simp[nj] at l
 |const v=>simp[bw] at e;cases B:ofConst P t v<;>simp_all;subst e;rfl
 |func f=>simp[bw] at e;subst e;rfl
 |global g=>simp[bw] at e
theorem Km (G:Rel N w0 μ0 L μ loc st a w) (B:iD L.q μ0 P cr) {o:Oper} {c:Call} {f:Operand} {g:Nat} {O vs:List AV} {r:AV} (hd:∀i,o.dst=some i->i<N) (ho:o.op= .call c) (hc:c.callee= .value f)
  (hf:bw P 0 st f=some (.pv (.fn g O))) (hvs:j8 P st c.args.toList c.argTypes.toList=some vs) (hr:cr g ((vs++O).map .pv) []=some (r,[]))
  (hp:(r.plain|| !(c.args.toList.any (lZ st)))=true) (hns:r.jT=true) (hK:ng N w0 μ0 L (st.set o.dst (.pv r)) K):o.uK P a w K Q:=by
 obtain⟨cs,hfe,hcs⟩:=KG G hf;cases V2:c.args.toList.any (lZ st) with
 |false=>
  have z:=Dl G (Mu.le.refl _) hvs (λx hx t s v e hl id hi=>by grind[UF]);obtain⟨he,hC⟩:=iD.noY (B g _ _ r _ hr w _ loc _ G.base.1 G.yx (by simp[find]) (by intro i j oi oj hi;simp[find] at hi) (sZ (oV z hcs))) λxs=>by simp[find]
  refine JT (R:=λv w'=>∃D q,eo L.q μ loc [] r [] w v D q w') (r:=r) (BN:=[]) ho hc hfe rfl he (hC.mono ?_) ?_
  .simp
  .rintro v w' ⟨D,q,H⟩;exact hK _ _ _ _ ((G.grow (SZ H.ext) H.yx (ER H) H.drawn).set hd (H.pure hns))
 |true=>
  have I :=by simpa[V2] using hp
  let l :=λb=>∃id ob,st.ob id=some ob/\mb (loc id) b
  have:∀b,Decidable (l b):=λb=>Classical.propDecidable _
  let F :=λb j=>if l b then IM w b j else μ b j
  have S:μ.le F:=λb j v hv=>by
   by_cases hb:l b
   .obtain⟨id,ob,U,KO⟩:=hb;have:=((G.obs _ _ U).block b KO).2.2 j;simp_all
   grind
  have V:Hz F w:=λb j v hv=>by
   by_cases hb:l b
   .simpa[F,hb] using hv
   .exact G.yx b j v (by grind)
  have z:=Dl G S hvs (λx hx t s v e hl id hi b j u hb R=>by
   obtain⟨ob,U⟩:=lend_ob hl hi;have hrow:l b:=⟨id,ob,U,hb⟩
   simpa[F,hrow] using R)
  obtain⟨he,hC⟩:=iD.noY (B g _ _ r _ hr w _ loc _ (G.base.1.trans S) V (by simp[find]) (by intro i j oi oj hi;simp[find] at hi) (sZ (oV z (gq S _ _ hcs)))) λxs=>by simp[find]
  refine JT (R:=λv w'=>∃D q,eo L.q F loc [] r [] w v D q w') (r:=r) (BN:=[]) ho hc hfe rfl he (hC.mono ?_) ?_
  .simp
  .rintro v w' ⟨D,q,H⟩;exact hK _ _ _ _ ((G.X1 (ER H) H.drawn).set hd (aaP I (H.pure hns)))
def EU (G:Rel N w0 μ0 L μ loc st a w) {xs:List Operand} {D:List AV} (h:uN st xs=some D):cH μ D (xs.map a.eval):=by induction xs generalizing D with
 |nil=>simp_all[uN,dO]
 |cons x xs I=>cases x with
  |tmp i=>
   simp[uN] at h;split at h
   .rename_i v F B l;injection h with h;subst h;obtain⟨u,z,q⟩:=G.env i _ B
    have:a.eval (.tmp i)=u:=by simp[Act.eval,z]
    exact cC (by rw[this];exact q) (I l)
   .rename_i U F B l;injection h with h;subst h;obtain⟨u,z,q⟩:=G.env i _ B
    have:a.eval (.tmp i)=u:=by simp[Act.eval,z]
    obtain⟨b,R,S,e,H,O⟩:=q;exact cC (by rw[this];exact⟨b,_,S,e,H.1,H.2,O⟩) (I l)
   grind
  |_=>simp[uN] at h
def ET (G:Rel N w0 μ0 L μ loc st a w) {xs:List Operand} {F:List pq} (h:rK st xs=some F):lM μ loc F (xs.map a.eval):=by induction xs generalizing F with
 |nil=>simp[rK] at h;subst h;rfl
 |cons x xs H=>cases x with
  |tmp i=>
   simp[rK] at h;split at h
   .rename_i v D B l;injection h with h;subst h;obtain⟨u,z,q⟩:=G.env i _ B
    have:a.eval (.tmp i)=u:=by simp[Act.eval,z]
    exact⟨_,_,rfl,by rw[this];exact q,H l⟩
   .rename_i O D B l;injection h with h;subst h;obtain⟨u,z,q⟩:=G.env i _ B
    have:a.eval (.tmp i)=u:=by simp[Act.eval,z]
    obtain⟨b,U,V,e,I,S⟩:=q;refine⟨_,_,rfl,?_,H l⟩;rw[this];exact⟨b,_,V,e,I.1,I.2,S⟩
   .rename_i id D B l;injection h with h;subst h;obtain⟨u,z,q⟩:=G.env i _ B
    have:a.eval (.tmp i)=u:=by simp[Act.eval,z]
    obtain⟨b,R,h2⟩:=q;exact⟨_,_,rfl,⟨b,R,by simp_all⟩,H l⟩
   grind
  |_=>simp[rK] at h
def O9 (G:Rel N w0 μ0 L μ loc st a w) {o:Oper} {g:Nat} {first l:Array Operand} {d:Nat} {I:List AV} (hd:d<N) (z:o.dst=some d) (R:o.op= .makeFunc (.func g) first l) (F:first.isEmpty=true)
  (S:xN st l.toList=some st') (B:uN st' l.toList=some I) (V:ng N w0 μ0 L (st'.set (some d) (.pv (.fn g I))) K):o.uK P a w K Q:=by
 obtain⟨U,O,q⟩:=M6 G G S;have H:=EU q B;have D :=by simpa using F
 refine qe q (λi hi=>by simp_all) ⟨.func (.func g) #[] (l.toList.map a.eval).toArray,?_,?_⟩ (by rw[z];omega)
 .unfold execOp;rw[R,D];have e:l.map a.eval=(l.toList.map a.eval).toArray:=by grind
  simp[Instr.makeFunc,e]
 .show rep _ _ _;rw[rep];simp_all
theorem FH (q:Rel N w0 μ0 L μ loc st a w) {xs:List Operand} (h:ni.iC st xs=some st'):∃l,Rel N w0 μ0 L l loc st' a w:=by induction xs generalizing st μ with
 |nil=>grind[ni.iC]
 |cons x xs H=>cases x with
  |tmp i=>
   simp[ni.iC] at h;split at h
   .rename_i id G;cases z:st.dh id with
    |none=>simp_all
    |some B=>obtain⟨D,_,F⟩:=q.dh z;grind
   grind
  |_=>grind[ni.iC]
def G1 (q:Rel N w0 μ0 L μ loc st a w) {xs:List Operand} (h:ni.jV st xs=some st'):∃l,Rel N w0 μ0 L l loc st' a w:=by grind[ni.jV,FH]
def Rel.addOb (l:Rel N w0 μ0 L μ loc st a w) {id:Nat} {o:Ob} (B:st.ob id=none) (R:mS w0.heap.size L μ loc w id o)
  (I:∀j F,st.ob j=some F->∀g,mb (loc id) g->¬mb (loc j) g):Rel N w0 μ0 L μ loc { st with ob:=put st.ob id (some o) } a w:=by
 refine⟨l.small,l.names,l.fix,l.size,l.defers,l.env,l.yx,l.base,?_,?_,l.keep,l.os,l.tape,l.output,l.grown,l.drawn⟩
 .intro i S q;by_cases e:id=i
  .simp_all[di]
  .exact l.obs i _ (by simp_all[bS])
 .intro i j S F q D z g O;by_cases G:id=i
  .simp_all[bS]
  .simp[bS _ _ G] at q;by_cases H:id=j
   .grind
   .simp[bS _ _ H] at D;exact l.apart i j _ _ q D z g O
def M4 (O:Rel N w0 μ0 L μ loc st a w) {locC:Nat->Value}:∀{xs:List Operand} {H:List TypeId} {F:List SV} {ids:List Nat},Fp P h st xs H=some (F,ids)->(∀id∈ids,locC 10000=loc id)->iq μ locC F (xs.map a.eval):=by intro xs;induction xs with
 |nil=>intro H F ids B _;obtain⟨rfl,rfl⟩:=B;rfl
 |cons x xs R=>
  intro H F ids B z;simp[Fp] at B;split at B
  .rename_i id I D l q;obtain⟨rfl,rfl⟩:=B;refine⟨_,_,rfl,?_,R q (λi V=>z i (by simp[V]))⟩;show a.eval x=fO _;rw[z id ai];cases x with
   |tmp t=>simp only[qb] at l;cases S:h.ga.contains t with
    |false=>simp_all
    |true=>
     simp only[S] at l;split at l
     .rename_i id' U;injection l with l;subst l;obtain⟨v,B,hr⟩:=O.env t _ U
      have:a.eval (.tmp t)=v:=by simp[Act.eval,B]
      rw[this];exact hr
     simp_all
   |_=>simp[qb] at l
  .rename_i I D l q;split at B
   .rename_i v G;obtain⟨rfl,rfl⟩:=B;exact⟨_,_,rfl,fS O G,R q z⟩
   simp_all
  simp_all
theorem MQ (R:Rel N w0 μ0 L μ loc st a w) (xA:iD L.q μ0 P cr) {o:Oper} {c:Call} {f:Operand} {st1:St} (hd:∀i,o.dst=some i->i<N) (ho:o.op= .call c) (hc:c.callee= .value f)
  (U:qD P h cr st c f o.dst=some st1) (hK:ng N w0 μ0 L st1 K):o.uK P a w K Q:=by
 unfold qD at U;split at U
 .rename_i g caps vs id hf hvs;split at U
  .rename_i e sz xs qF;split at U
   .rename_i r' nm D F B hr;cases hb:(Nat.beq e D&&Nat.beq sz F&&Nat.beq nm 10000) with
    |false=>simp_all
    |true=>
     simp only[hb,aj] at U;simp only[aT] at hb;obtain⟨cs,hfe,hcs⟩:=KG R hf;let z:Nat->Value:=λ_=>loc id
     have hok:=R.obs id _ qF;have hargs:=M4 R (locC:=z) hvs (λi hi=>by grind);have Tl:∀i oi,find [(10000,Ob.row e sz xs)] i=some oi->mS w.heap.size (gJ L.q z ([(10000,Ob.row e sz xs)].map (·.1))) μ z w i oi:=by intro i oi hi;simp only[find] at hi;cases V:Nat.beq 10000 i with
      |false=>simp_all
      |true=>simp only[V,aj,aW] at hi;subst hi;have:=beq_iff.1 V;subst this;obtain⟨us,G,hrc,hm⟩:=hok;refine⟨us,G,hrc,λq O=>⟨.inr (.inr ⟨loc id,by rfl,O⟩),(hm q O).2⟩⟩
     obtain⟨he,hC⟩:=iD.noY (xA g _ _ r' _ hr w μ z (c.args.toList.map a.eval++cs) R.base.1 R.yx Tl (by
      intro i j oi oj hi hj hij
      grind[ry]) (mU hargs (sZ hcs))) λxs h=>by simp[find] at h
     refine JT (R:=λv w'=>∃μ' I,eo L.q μ z ([(10000,Ob.row e sz xs)].map (·.1)) r' [(nm,Ob.row D F B)] w v μ' I w') (r:=r') (BN:=[]) ho hc hfe rfl he (hC.mono ?_) ?_
     .simp
     .rintro v w' ⟨μ',I,H⟩;have hlb:∀b,NU (gJ L.q z ([(10000,Ob.row e sz xs)].map (·.1))) b->mb (loc id) b:=by
       rintro b ⟨i,x,l,Tj⟩;simp only[gJ] at l;split at l
       .grind
       .cases l
      have hng:∀b,¬V0 (gJ L.q z ([(10000,Ob.row e sz xs)].map (·.1))) b:=by
       rintro b ⟨i,x,h9,h10,l,_⟩;simp only[gJ] at l;split at l
       .simp_all
       .cases l
      have h1:=(R.drop id).world (w':=w') (μ':=μ') H.ext.1 (λb j x l=>by
        rcases H.ext.2 b j x l with l|l|l
        .simp_all
        .exact .inr (.inl (fk R.grown l))
        simp_all) H.yx (λk ok hk b hbk=>by
        by_cases D:id=k
        .simp_all[di]
        .simp only[bS _ _ D] at hk;obtain⟨_,hlt,Di⟩:=(R.obs k ok hk).block b hbk;refine⟨H.keep b hlt (λhl=>R.apart id k _ ok qF hk D b (hlb b hl) hbk),λj=> ?_⟩;cases hj:μ' b j with
         |none=>rfl
         |some x=>
          rcases H.ext.2 b j x hj with l|l|l
          .simp_all
          .omega
          simp_all) (λb V hl=>H.keep b (fo V R.grown) (λhl'=>by
        have hbb:=hlb b hl';rcases(hok.block b hbb).1 with l|l|⟨x,l,Tj⟩
        .omega
        .exact hl l.cM
        .exact hl ⟨id,x,l,Tj⟩)) H.os H.tape H.output H.grown H.drawn
      have hnm:I nm=loc id:=by have:=beq_iff.1 hb.2;exact H.fix nm (by simp[this]) af af
      obtain⟨us,G,hrc,hm⟩:=H.obs nm (.row D F B) (by simp[find,kD]);rw[hnm] at G hm;split at U
      .rename_i n;cases RY:(Nat.ble n B.length&&gO id) with
       |false=>simp_all
       |true=>
       simp only[RY,aj,aW] at U;subst U;simp only[aT] at RY;have hnl:n<=B.length:=fD RY.1;obtain⟨A,m,cp,S,hnm',hvv⟩:∃A m cp,I 10000= .slice A m cp/\n<=m/\v= .slice A n cp:=by
        rcases H.res with l|⟨n',A,m,cp,e1,_,h1,h2,h3⟩|⟨_,e1,_⟩|⟨_,_,_,_,e1,_⟩
        .rw[rep] at l;simp_all
        .grind
        .cases e1
        simp_all
       have e10:=beq_iff.1 hb.2;rw[e10] at hnm;rw[hnm] at S;have hid:id<10000\/20000<=id:=by have NP:=RY.2;simp only[gO,gC] at NP;rcases NP with hm|hm<;>simp_all
       have hblk:∀q,mb v q↔mb (loc id) q:=λq=>by rw[hvv,S,fP,fP];cases A<;>rfl
       have h2:=h1.new (id:=id) (val:=v) (o:= .row D F (B.take n)) hid ?_ (λj oj hj hne q O=>by
        simp only[bS _ _ (cU hne)] at hj
        exact R.apart id j _ oj qF hj (cU hne) q ((hblk q).1 O))
       .have heq:(St.new { env:=st.env,ob:=put st.ob id none } id (.row D F (B.take n)))=st.new id (.row D F (B.take n)):=by
         simp only[St.new,St.dD];congr 1;funext k;by_cases D:id=k
         .subst D;simp[di]
         .simp only[bS _ _ D]
        rw[heq] at h2;exact hK _ _ _ _ (h2.set hd (sv:= .row id) (LQ (by rw[hvv];rfl)))
       .have hlen:(B.take n).length=n:=aH;have aap:=jk hrc n;refine⟨us.take (n *F),⟨by rw[cK aap],?_⟩,aap,λq O=> ?_⟩
        .rw[cI,hlen,hvv];rcases G.2 with⟨e1,e2⟩|⟨q,cap,cur,e1,k1,k2,k3,k4,k5,k6⟩
         .grind
         .rw[S] at e1;simp only[Value.slice.injEq] at e1;obtain⟨rfl,rfl,rfl⟩:=e1;refine .inr ⟨q,cp,cur,rfl,k1,k2,by omega,k4,k5,?_⟩;rw[<-k6,qj,r5 (kC _ hnl)]
        .rw[cI,hblk q] at O;exact⟨(hok.block q O).1,(hm q O).2⟩
      .cases Pt:r'.plain with
       |false=>simp_all
       |true=>
       simp[Pt,aj,aW] at U;subst U;have GF:mS _ L _ _ _ _ (.row _ _ _):=⟨us,G,hrc,λq O=>⟨(hok.block q O).1,(hm q O).2⟩⟩
       have h2:=h1.addOb (by simp[di]) GF (λj oj hj q O=>by
        by_cases D:id=j
        .simp_all[di]
        .simp[bS _ _ D] at hj
         exact R.apart _ j _ _ qF hj D q O)
       have heq:({ env:=st.env,ob:=put (put st.ob id none) id (some (.row D F B)) }:St)={ env:=st.env,ob:=put st.ob id (some (.row D F B)) }:=by
        congr 1;funext k;by_cases D:id=k
        .subst D;simp[di]
        .simp[bS _ _ D]
       rw[heq] at h2;exact hK _ _ _ _ (h2.set hd (H.pure (Qj Pt)))
   simp_all
  simp_all
 simp_all
def Tc {B:Nat} {z:List (Nat×Nat×TypeId×Nat)} {id:Nat} {e:TypeId} {D:Nat} {loc:Nat->Value}:∃val,fO val= .slice none 0 0/\(∀g,¬mb val g)/\mS B L μ (rD loc id val) w id (KH z id e D):=by
 have r:∃val,fO val= .slice _ 0 0/\(∀g,¬mb val g)/\mS B L μ (rD loc id val) w _ (.row e D []):=
  ⟨_,rfl,λg l=>by simp[mb,bH] at l,[],⟨ai, .inl ⟨cI _ _ _,rfl⟩⟩,rfl,λg l=>by simp_all[cI,mb,bH]⟩
 unfold KH;split
 .rename_i k H I _;cases F:Nat.blt k _ with
  |false=>exact r
  |true=>refine⟨_,rfl,λg l=> ?_,_,[],[],cI _ _ _,λq G=>(by simp[bH] at G),⟨ai, .inl ⟨rfl,rfl⟩⟩,rfl,⟨cQ.mp F,ai⟩,rfl,rfl,by simp,by simp,by simp,ai⟩;simp_all[kT,bH]
 omega
def rA (R:Rel N w0 μ0 L μ loc st a w) {F:List (Nat×Nat×TypeId×Nat)}:∀(l:List (Nat×TypeId×Nat)) (st:St) (loc:Nat->Value),Rel N w0 μ0 L μ loc st a w->(∀x∈l,x.1<10000)->
  ∃q,Rel N w0 μ0 L μ q (iT F l st) a w/\(∀x∈l,fO (q x.1)= .slice none 0 0)/\∀i,fO (loc i)= .slice none 0 0->fO (q i)= .slice none 0 0
 |[],st,loc,h,_=>⟨_,h,by simp,λ_ h=>h⟩
 |(id,e,s)::l,st,loc,h,G=>by
  obtain⟨val,V,B,D⟩:=Tc;have H:=h.new (.inl (G (id,e,s) ai)) D (λj oj hj _ g S=>absurd S (B g));obtain⟨q,I,U,O⟩:=rA R l _ _ H (λx z=>G x (by simp[z]));refine⟨_,I,λx z=> ?_,λi hi=>O i ?_⟩
  .rcases aJ.1 z with rfl|z
   .simp_all[cI]
   grind
  grind[cI,cZ]
def ya {d:Nat} {pz:List Nat}:∀(j:Nat) (R:List TypeId) (G:List Value) (z:List SV) (l:List (Nat×TypeId×Nat)),oy P pz d j R G=some (z,l)->
  (∀x∈l,x.1<10000)/\(∀u∈G,u.oneCell'=true)/\∀(loc:Nat->Value),(∀x∈l,fO (loc x.1)= .slice none 0 0)->iq μ loc z G
 |j,[],[],z,l,q=>by simp only[oy,aW,ck] at q;obtain⟨rfl,rfl⟩:=q;exact⟨ai,by simp,λ_ _=>rfl⟩
 |j,[],_::_,z,l,q=>by simp[oy] at q
 |j,_::_,[],z,l,q=>by simp[oy] at q
 |j,t::R,v::G,z,l,q=>by
  simp only[oy] at q;split at q
  .rename_i F l' B;obtain⟨i1,i2,U⟩:=ya (j+1) R G F _ B;split at q
   .rename_i e s hs;cases I:(Nat.blt 0 s&&Nat.blt (5000+16 *d+j) 10000) with
    |false=>simp_all
    |true=>
     simp[I] at q;obtain⟨rfl,rfl⟩:=q;simp at I;have V :=by have:=I.2;simpa[cQ] using this
     refine⟨λx S=> ?_,λu D=> ?_,λloc O=> ?_⟩
     .grind
     .rcases aJ.1 D with rfl|D
      .rfl
      simp_all
     .exact⟨_,_,rfl,(by show _=fO _;simp_all),U _ (λx S=>O x (by simp[S]))⟩
   .simp at q;obtain⟨av,H,rfl,rfl⟩:=q;have hr:=xM (μ:=μ) H;refine⟨i1,λu D=> ?_,λloc O=>⟨_,_,rfl,hr,U _ O⟩⟩;rcases aJ.1 D with rfl|D
    .unfold ofConst at H;split at H<;>first|rfl|cases H
    simp_all
  simp_all
def MS (G:Rel N w0 μ0 L μ loc st a w) {o:Oper} {d:Nat} {t:TypeId} {B:List SV} {l:List (Nat×TypeId×Nat)} (hd:d<N) (z:o.dst=some d) (ho:o.op= .alloc t)
  (hz:((zg P t).bind λI=>oy P ((find h.Qb d).getD []) d 0 (tV P 8 t) I)=some (B,l)) (V:ng N w0 μ0 L (((iT h.nest l st).new d (.box t (B.map (SV.dD d)))).set (some d) (.ptr d 0)) K):o.uK P a w K Q:=by
 obtain⟨I,q,F⟩:=dB.1 hz;unfold zg at q;split at q
 .simp at q;obtain⟨v,hzv,rfl⟩:=q;obtain⟨O,R,S⟩:=ya 0 _ _ _ _ F;obtain⟨H,D,U,_⟩:=rA G l _ _ G O;refine EZ D hd z ?_ (xO _ _ (S _ U)) R V;simp_all[execOp,Instr.alloc,zeroValue,typeInfo,newVar,newRow]
 simp_all
def Qg (D:Rel N w0 μ0 L μ loc st a w) {s:SV} {l:List SV} {u:Value} (h:GZ st s=some l) (k:gb μ loc s u):iq μ loc l u.cells.toList/\∀x∈u.cells.toList,x.oneCell'=true:=by
 unfold GZ at h;split at h
 .injection h with h;subst h;obtain⟨F,rfl,B,q⟩:=k;simp_all[Value.cells,sZ]
 .cases z:pH st s with
  |false=>simp_all
  |true=>rw[z] at h;simp at h;subst h;obtain⟨B,q⟩:=WY D z k;rw[q];exact⟨⟨_,[],rfl,k,rfl⟩,by simp_all⟩
def H7 (U:Rel N w0 μ0 L μ loc st a w) {place:Nat->Option (Nat×Nat)} {ty:Nat->TypeId}:∀{q:List (Nat×Operand)} {S:List (Nat×List SV)} {cells O:List SV} {I:List Value},rH P ty st q=some S->H6 place cells S=some O->iq μ loc cells I->(∀u∈I,u.oneCell'=true)->
  ∃ws:List Value,Instr.fill place I.toArray (q.map λp=>(p.1,a.eval p.2))=some ws.toArray/\iq μ loc O ws/\∀u∈ws,u.oneCell'=true
 |[],S,cells,O,I=>λG H R h4=>by simp_all[rH,H6,Instr.fill]
 |(i,x)::q,S,cells,O,I=>λG H R h4=>by
  simp[rH] at G;split at G
  .rename_i l rest hx D;injection G with G;subst G;obtain⟨sx,V,hl⟩:=dB.1 hx;obtain⟨hc,hone⟩:=Qg U hl (aZ U V);simp only[H6] at H;split at H
   .cases H
   .rename_i F size Pt;split at H
    .rename_i z;have hlen :=by
      have:=qJ hc;simpa[z.1] using this
     have hvl:=qJ R;have B:=mU (mU (Ef R F) hc) (Ee R (F+size));obtain⟨ws,hw,hr,ho⟩:=H7 U D H B (λu hu=>by grind);simp[bM,Instr.fill];have hsp:=IS I (a.eval x).cells.toList F 0 aH;grind[Array.toList_zipIdx]
    simp_all
  simp_all
def Dd:∀{D:List SV} {l:List pq} {B:List Value},xw st D=some l->iq μ loc D B->lM μ loc l B
 |[],l,B=>λh k=>by simp[xw,aW] at h;subst h;exact k
 |s::D,l,B=>λh ⟨u,O,e,F,I⟩=>by
  simp[xw] at h;split at h
  .rename_i c G q z;injection h with h;subst h;refine⟨u,O,e,?_,Dd z I⟩;unfold abT at q;cases H:pH st s with
   |false=>simp_all
   |true=>
    rw[H] at q;split at q
    .injection q with q;subst q;exact F
    .injection q with q;subst q;exact F
    simp_all
  grind
def MU (V:Rel N w0 μ0 L μ loc st a w) {hh:Hint} {o:Oper} {d:Nat} {t:TypeId} {q:Array (Nat×Operand)} (hd:d<N) (F:o.dst=some d) (ho:o.op= .build t q) (h:vQ P hh st d t q.toList=some st') (hK:ng N w0 μ0 L st' K):o.uK P a w K Q:=by
 unfold vQ at h;split at h
 .rename_i U svs l hu hz;cases G:U.toList.all (λf=>(mh P f.type).isSome) with
  |false=>simp_all
  |true=>
   rw[G] at h;simp only[aj] at h;split at h
   .rename_i ps R;split at h
    .rename_i cs O;injection h with h;subst h;obtain⟨sv2,hf,I⟩:=dB.1 O;obtain⟨vs,z,B⟩:=dB.1 hz;unfold zg at z;split at z
     .rename_i i hi;simp only[cu] at z;obtain⟨v,hzv,rfl⟩:=z;obtain⟨h1,h2,h3⟩:=ya 0 _ _ _ _ B;obtain⟨loc',D,h4,_⟩:=rA V l _ _ V h1;obtain⟨ws,hw,hr,H⟩:=H7 D R hf (h3 _ h4) h2;refine gD (v:= .agg ws.toArray) (w':=w) ?_ ?_
      .obtain⟨S⟩:=U;have Pt:=run_places (w:=w) _ G;have hpe:(λx=>Option.map (λf:Field=>(f.offset,(mh P f.type).getD 0)) S[x]?)=qd P t:=by
        funext x;simp[qd,xy,hu,HG];cases hx:S[x]? with
        |none=>rfl
        |some fd=>grind[Option.isSome_iff_exists]
       simp_all[execOp,Instr.build,zeroValue,typeInfo,bz]
      .rw[F];exact hK _ _ _ _ (D.set (λi hi=>by simp_all) ⟨ws,rfl,Dd I hr,H⟩)
     simp_all
    grind
   grind
 grind
def nG:∀{l:List Nat},distinct l=true->l.Nodup
 |[],_=>qk
 |x::l,h=>by simp[distinct,aT] at h;refine gF.2 ⟨λq=> ?_,nG h.2⟩;simp_all
def nJ {q:Type}:∀{l:List (Nat×q)} {i:Nat} {v:q},find l i=some v->(i,v)∈l
 |[],_,_,h=>by simp[find] at h
 |(j,u)::l,i,v,h=>by simp[find] at h;cases z:Nat.beq j i with
  |true=>simp_all
  |false=>simp[z] at h;exact dF _ (nJ h)
def NH {z:Type}:∀{l:List (Nat×z)} {i:Nat},find l i=none->i∉l.map (·.1)
 |[],_,_=>by simp
 |(j,u)::l,i,h=>by simp[find] at h;cases q:Nat.beq j i with
  |true=>simp_all
  |false=>simp[q] at h;simp only[bM,aJ,not_or];exact⟨λe=>by simp_all,NH h⟩
def j7 {z:Type}:∀{l:List (Nat×z)} {i:Nat} {v:z},(l.map (·.1)).Nodup->(i,v)∈l->find l i=some v
 |[],_,_,_,h=>by simp at h
 |(j,u)::l,i,v,q,h=>by
  simp at q;simp[find];rcases aJ.1 h with h|h
  .simp_all
  .have:j≠i:=λe=>by simp_all
   rw[abI this];exact j7 q.2 h
def uw (q:Nat->Bool):∀(k:Nat) (l:List Nat),(jj q k l).map (·.1)=l
 |_,[]=>rfl
 |k,id::l=>by simp[jj,uw _ _ l]
def Dr (q:Nat->Bool):∀(k:Nat) (l:List Nat),k+l.length<=10000->∀p∈jj q k l,(q p.1=true->20000+k<=p.2)/\(q p.1=false->10000+k<=p.2/\p.2<20000)
 |_,[],_,p,h=>by simp[jj] at h
 |k,id::l,z,p,h=>by
  simp at z;simp[jj,aJ] at h;rcases h with rfl|h
  .grind
  .have:=Dr _ _ l af p h;grind
def N6 (q:Nat->Nat):∀(k:Nat) (l:List Nat),(qU q k l).map (·.1)=l
 |_,[]=>rfl
 |k,id::l=>by simp[qU,N6 _ _ l]
def r9 (q:Nat->Nat):∀(k:Nat) (l:List Nat),∀p∈qU q k l,p.1∈l/\q p.1+k<=p.2/\p.2<q p.1+k+l.length
 |_,[],p,h=>by simp[qU] at h
 |k,id::l,p,h=>by
  simp[qU,aJ] at h;rcases h with rfl|h
  .simp
  .obtain⟨z,B,D⟩:=r9 _ _ l p h;grind
def ClOK (q:Nat->Nat) (n:Nat) (l:List Nat):Prop:=n<=10000/\∀id∈l,q id=9000/\n<=1000\/q id=10000\/q id=20000
def Ir (z:Nat->Nat):∀(k:Nat) (l:List Nat),ClOK z (k+l.length) l->((qU z k l).map (·.2)).Nodup
 |_,[],_=>by simp[qU]
 |k,id::l,q=>by
  simp only[qU,bM,gF];have B:ClOK z (k+1+l.length) l:=⟨by have:=q.1;grind,λi F=>by have:=q.2 i (by simp[F]);grind⟩
  refine⟨λG=> ?_,Ir _ _ l B⟩;obtain⟨p,H,e⟩:=aG.1 G;obtain⟨D,S,U⟩:=r9 _ _ l p H;have I:=q.2 id ai;have O:=q.2 p.1 (by simp[D]);have R:=q.1;grind
def N5 (q:Nat->Bool):∀(k:Nat) (l:List Nat),qU (Ft q) k l=jj q k l
 |_,[]=>rfl
 |k,id::l=>by simp[qU,jj,N5 _ _ l,Ft];grind
theorem yh (D:Nat->Bool):∀(k:Nat) (l:List Nat),k+l.length<=10000->((jj D k l).map (·.2)).Nodup
 |_,[],_=>by simp[jj]
 |k,id::l,q=>by simp at q;simp only[jj,bM,gF];refine⟨λz=> ?_,yh _ _ l af⟩;obtain⟨p,B,e⟩:=aG.1 z;have:=Dr _ _ l af p B;grind
def zf:∀(m:List (Nat×Nat)),(swap m).map (·.1)=m.map (·.2)
 |[]=>rfl
 |(a,b)::l=>by simp[swap,zf l]
def BQ:∀{m:List (Nat×Nat)} {a b:Nat},(a,b)∈m->(b,a)∈swap m
 |(x,y)::l,a,b,h=>by
  rcases aJ.1 h with h|h
  .simp_all[swap]
  .exact dF _ (BQ h)
def B2 {loc l:Nat->Value} {G:Nat->Nat} {names:List Nat} (q:∀j∈names,l (G j)=loc j):∀{z:List pq} {B:List Value},SV.closed names (.cl 0 z)=true->lM μ loc z B->lM μ l (z.map (pq.qV G)) B
 |[],B,_,h=>h
 |c::z,B,F,⟨u,O,e,D,H⟩=>by simp[SV.closed,jG,aT] at F;refine⟨u,O,e,?_,B2 q (by simpa[SV.closed] using F.2) H⟩;cases c with
  |v a=>exact D
  |p id=>obtain⟨b,R,I⟩:=D;exact⟨b,by simp_all,I⟩
  |r id=>show u=fO _;rw[q _ (by simp_all)];exact D
def LL {loc z:Nat->Value} {R:Nat->Nat} {names:List Nat} (B:∀j∈names,z (R j)=loc j) {s:SV} {v:Value} (G:s.closed names=true) (h:gb μ loc s v):gb μ z (s.qV R) v:=by induction s generalizing v with
 |two s t V H=>obtain⟨x,y,e,h,l⟩:=h;obtain⟨U,c2⟩:=ql.1 G;exact⟨x,y,e,V U h,H c2 l⟩
 |undef=>exact h
 |any=>exact h
 |pv x=>exact h
 |cp cs=>exact h
 |ptr j I=>obtain⟨b,D,l⟩:=h;exact⟨b,by simp_all[SV.closed],l⟩
 |row j=>show v=fO _;rw[B j (by simpa[SV.closed] using G)];exact h
 |rp j sz i I=>obtain⟨g,n,c,D,l⟩:=h;exact⟨g,n,c,by simp_all[SV.closed],l⟩
 |sub j sz lo hi=>obtain⟨A,n,c,S,c',D,l⟩:=h;exact⟨A,n,c,S,c',by simp_all[SV.closed],l⟩
 |cl f F=>obtain⟨O,e,D⟩:=h;exact⟨O,e,B2 B (by assumption) D⟩
 |ag F=>obtain⟨O,e,D,l⟩:=h;exact⟨O,e,B2 B (by assumption) D,l⟩
 |aq j q=>simp[SV.closed] at G
def G3 {loc l:Nat->Value} {F:Nat->Nat} {names:List Nat} (q:∀j∈names,l (F j)=loc j):∀{z:List SV} {B:List Value},z.all (SV.closed names)=true->iq μ loc z B->iq μ l (z.map (SV.qV F)) B
 |[],B,_,h=>h
 |c::z,B,D,⟨u,I,e,G,H⟩=>by simp only[jG,aT] at D;exact⟨u,I,e,LL q D.1 G,G3 q D.2 H⟩
def Ls {n0 R:Nat} {L L':tG} {loc z:Nat->Value} {ρ:Nat->Nat} {names:List Nat} (hρ:∀j∈names,z (ρ j)=loc j) {id H:Nat} {o:Ob} (hc:o.closed names=true) (h:mS n0 L μ loc w id o) (hid:z H=loc id)
  (l:∀b,mb (loc id) b->GY R L' H b) (hq:L'.q=L.q:=by rfl):mS R L' μ z w H (o.qV ρ):=by
 cases o with
 |box t cells=>obtain⟨b,I,B,ho,O,D,hs,S⟩:=h;exact⟨b,I,by simp_all,l b (by rw[B];exact tW.2 rfl),O,D,G3 hρ hc hs,S⟩
 |row e sz xs=>obtain⟨I,hw,G,D⟩:=h;exact⟨I,by simp_all,G,λg V=>by simp_all⟩
 |mp k e ks es=>obtain⟨b,dR,clock,B,ho,O,D,S,U,hB⟩:=h;exact⟨b,_,_,by simp_all,l b (by rw[B];exact xE.2 rfl),O,D,S,U,hB⟩
 |mr k e sz ks I=>simp[Ob.closed] at hc
 |rn e s k e' s' xs ys=>obtain⟨m,us,I,B,D,F,G,hk,U,h3,h4,h5,h6,h7⟩:=h;refine⟨m,us,I,by simp_all,λq hq=>⟨l q (by rw[B];exact kT.2 (.inl hq)),(D q hq).2⟩,F,G,hk,U,h3,λi zs hi=> ?_,h5,h6,h7⟩;obtain⟨u,cells,k1,k2,k3,k4,k5⟩:=h4 i zs hi;exact⟨u,cells,k1,k2,k3,k4,λg V=>⟨l g (by rw[B];exact kT.2 (.inr ⟨u,aP k1,V⟩)),(k5 g V).2⟩⟩
 |it s pos=>obtain⟨b,B,ho,O,D⟩:=h;exact⟨b,by simp_all,l b (by rw[B];exact tW.2 rfl),O,D⟩
 |lp xs=>obtain⟨us,B,S,U⟩:=h;exact⟨us,by simp_all,λg V=>by simp_all,by simp_all⟩
def FI {tm:Nat->Option Value}:∀(l:List Nat) (st:St) (loc q:Nat->Value),(∀i,i∉l->q i=loc i)->(∀i s,st.env i=some s->∃v,tm i=some v/\gb μ loc s v)->∀i s,(fJ l st).env i=some s->∃v,tm i=some v/\gb μ q s v
 |[],st,loc,q,B,h,i,s,z=>by
  have :=funext λi=>B i ai
  rw[this];exact h i s z
 |id::l,st,loc,q,B,h,i,s,z=>by
  refine FI l _ (rD loc id (q id)) _ (λi D=> ?_) (λi s z=> ?_) i s z
  .grind[cI,cZ]
  .simp[St.dD,cu] at z;grind[As]
def IE:∀(l:List Nat) (st:St) (loc q:Nat->Value),(∀i,i∉l->q i=loc i)->∀i B,(fJ l st).ob i=some B->i∉l/\∃o,st.ob i=some o/\∀D L μ w,mS D L μ loc w i o->mS D L μ q w i B
 |[],st,loc,q,G,i,B,z=>by
  have :=funext λi=>G i ai
  rw[this];exact⟨ai,B,z,λ_ _ _ _ h=>h⟩
 |id::l,st,loc,q,G,i,B,z=>by
  obtain⟨I,R,F,H⟩:=IE l _ (rD loc id (q id)) q (λi O=>by grind[cI,cZ]) i _ z;by_cases e:id=i
  .simp_all[St.dD,di]
  .simp[St.dD,bS _ _ e,cu] at F;obtain⟨o,z,rfl⟩:=F;exact⟨by grind,o,z,λD L μ w h=>H _ L _ w (D9 h (cU e))⟩
def EM (F:Rel N w0 μ0 L μ loc st a w):∀{xs:List Operand} {z:List TypeId} {q:List SV},uM P h st xs z=some q->iq μ loc q (xs.map a.eval)
 |[],z,q,l=>by simp[uM,aW] at l;subst l;rfl
 |x::xs,z,q,l=>by
  simp[uM] at l;split at l
  .rename_i v G B D;injection l with l;subst l;refine⟨_,_,rfl,?_,EM F D⟩;unfold abG at B
   all_goals first
    |grind[aZ]
    |cases B
    |(cases H:isRef h x with
      |false=>simp_all
      |true=>grind[aZ])
  simp_all
def yf {ids:List Nat} {F:Nat->Nat}:∀{l:List (Nat×Nat)} {cM:List (Nat×Ob)},kg st ids F l=some cM->cM.map (·.1)=l.map (·.2)/\∀B D,(B,D)∈cM->∃id o,(id,B)∈l/\st.ob id=some o/\o.closed ids=true/\D=o.qV F
 |[],cM,z=>by simp_all[kg]
 |(id,B)::l,cM,z=>by
  simp[kg] at z;split at z
  .rename_i o R O q;cases I:o.closed ids with
   |false=>simp_all
   |true=>obtain⟨G,H⟩:=yf q;grind
  simp_all
def x6 {names:List Nat} {H:Nat->Nat}:∀{l:List (Nat×Nat)} {cM q:List (Nat×Ob)},nF names H l cM=some q->cM.map (·.1)=l.map (·.2)/\q.map (·.1)=l.map (·.1)/\∀id G,(id,G)∈q->∃B o,(id,B)∈l/\(B,o)∈cM/\o.closed names=true/\G=o.qV H
 |[],[],q,z=>by simp_all[nF]
 |[],_::_,q,z=>by simp[nF] at z
 |_::_,[],q,z=>by simp[nF] at z
 |(id,B)::l,(F,o)::U,q,z=>by simp[nF] at z;cases D:(Nat.beq B F&&o.closed names) with
  |false=>simp_all
  |true=>simp[D,aj,cu] at z;obtain⟨r,I,rfl⟩:=z;simp only[aT] at D;have:=beq_iff.1 D.1;obtain⟨O,R,S⟩:=x6 I;grind
def Lb {l:Nat->Bool} {id:Nat} (h:l id=true->gO id=true):Ft l id=10000\/Ft l id=20000/\gO id=true:=by unfold Ft;grind
def VZ {st:St} {l:Nat->Bool} {id:Nat} (h:l id=true->gO id=true):KN st l id=9000\/KN st l id=10000\/KN st l id=20000/\gO id=true:=by unfold KN;cases We _ _ with
 |true=>simp
 |false=>exact .inr (Lb h)
def Qq {z:Nat->Option Ob} {B:SV} {v:Value} (h:gb μ loc B v) (l:∀id t cells,z id=some (.box t cells)->∃b,loc id= .pointer (some ⟨b,0,none⟩)):gb μ loc (LB z B) v:=by
 unfold LB;split
 .split
  .rename_i D;obtain⟨b,q⟩:=l _ _ _ D;exact⟨b,q,by rw[h,q];rfl⟩
  omega
 omega
def BT:∀{l:List Nat},l.Nodup->distinct l=true
 |[],_=>rfl
 |x::l,h=>by have:=gF.1 h;simp[distinct,this.1,BT this.2]
def KF {R:SV} {v:Value} {g:Nat} {pre z:List SV} (D:gb μ loc R v) (l:S9 R=some (g,pre,z)):∃O I:List Value,iq μ loc pre O/\iq μ loc z I/\((g<2000000/\v= .func (.func g) O.toArray I.toArray)\/(2000000<=g/\O=[]/\∃u,I=[u]/\v=clV g [u])):=by
 unfold S9 at l;split at l
 .rename_i U H;cases B:Nat.blt U 1000000 with
  |false=>simp_all
  |true=>
  rw[B] at l;obtain⟨rfl,rfl,rfl⟩:=l;obtain⟨G,e,F⟩:=D;exact⟨[],G,rfl,sZ F, .inl ⟨fo (cQ.mp B) (by decide),e⟩⟩
 .obtain⟨G,e,F⟩:=D;cases B:Nat.blt _ _ with
  |true=>rw[B] at l;obtain⟨rfl,rfl,rfl⟩:=l;exact⟨[],G,rfl,tJ F, .inl ⟨fo (cQ.mp B) (by decide),by simp_all[clV]⟩⟩
  |false=>rw[B] at l;cases q:Nat.blt _ _ with
   |true=>rw[q] at l;simp at l;obtain⟨rfl,rfl,rfl⟩:=l;exact⟨G,[],tJ F,rfl, .inl ⟨n9 (Nat.sub_le _ _) (cQ.mp q),by simp_all[clV]⟩⟩
   |false=>
    rw[q] at l;split at l
    .rename_i S;obtain⟨rfl,rfl,rfl⟩:=l;obtain⟨u,us',e1,V,h2⟩:=F;have :=h2;subst this e1;refine⟨[],_,rfl,tJ (caps:=[S]) ⟨u,[],rfl,V,rfl⟩, .inr ⟨?_,rfl,u,rfl,e⟩⟩;cases Nat.lt_or_ge _ _ with
     |inl h=>rw[cQ.mpr h] at q;grind
     |inr h=>exact h
    simp_all
 simp_all
def BB (V:Rel N w0 μ0 L μ loc st a w) (xA:iD L.q μ0 P cr) {o:Oper} {c:Call} {f:Operand} {st1:St} (hd:∀i,o.dst=some i->i<N) (ho:o.op= .call c) (hc:c.callee= .value f)
  {g:Nat} {args:List SV} {cl:Nat->Nat} {ps cs:List Value} (hall0:iq μ loc args (ps++(c.args.toList.map a.eval++cs))) (hcl:∀id,cl id=9000\/cl id=10000\/cl id=20000/\gO id=true)
  (hfe:(g<2000000/\a.eval f= .func (.func g) ps.toArray cs.toArray)\/(2000000<=g/\ps=[]/\∃v,cs=[v]/\a.eval f=clV g [v]))
  (hv:kF cr st g args cl o.dst=some st1) (hK:ng N w0 μ0 L st1 K):o.uK P a w K Q:=by
 unfold kF at hv;simp only[] at hv;generalize hids:gN st 200 (args.flatMap SV.ids) []=ids at hv;generalize hm:qU cl 0 ids=m at hv;generalize hmB:(m.filter λp=> !(given cl p.1))=mB at hv;cases AT:(distinct ids&&Nat.blt ids.length 10000&&args.all (SV.closed ids)&&(ids.all (λi=> !(given cl i))||(Nat.blt ids.length 1000&&ids.all λi=> !(given cl i)||iJ i))) with
 |false=>rw[AT] at hv;cases hv
 |true=>
 simp only[AT,aj] at hv;simp only[aT] at AT;obtain⟨⟨⟨hdis,hlen⟩,acE⟩,hgiv⟩:=AT;have hlen:ids.length<10000:=by simpa[cQ] using hlen
 have hgv:∀i∈ids,cl i=9000->ids.length<1000/\i<10000:=λi hi e=>by
  have hgi:given cl i=true:=by simp[given,e]
  rcases Bool.or_eq_true_iff.1 hgiv with h|h
  .have:=cv.1 h i hi;simp[hgi] at this
  .obtain⟨h1,h2⟩:=ql.1 h;have h2:=cv.1 h2 i hi;simp only[hgi,dr,lz,iJ,cQ] at h2;exact⟨cQ.mp h1,h2⟩
 have hnd:=nG hdis;have hm1:m.map (·.1)=ids:=by rw[<-hm];exact N6 _ _ _
 have acJ:∀p∈m,p.1∈ids:=λp z=>by rw[<-hm1];exact aG.2 ⟨p,z,rfl⟩
 have Pu:∀p∈m,(cl p.1=20000->20000<=p.2)/\(cl p.1=10000->10000<=p.2/\p.2<20000)/\(cl p.1=9000->9000<=p.2/\p.2<10000):=by intro p z;have h0:=acJ p z;rw[<-hm] at z;obtain⟨_,h1,h2⟩:=r9 cl 0 ids p z;refine⟨λe=>by omega,λe=>by omega,λe=> ?_⟩;have:=(hgv _ h0 e).1;omega
 have hmb:∀p,p∈mB↔p∈m/\cl p.1≠9000:=λp=>by
  rw[<-hmB,dw];refine and_congr_right λ_=>⟨λh e=> ?_,λh=> ?_⟩
  .unfold given at h;rw[e] at h;cases h
  .cases hg:given cl p.1 with
   |false=>rfl
   |true=>exact absurd (beq_iff.1 hg) h
 have hnn:(m.map (·.2)).Nodup:=by
  rw[<-hm];refine Ir cl 0 ids ⟨af,λid hid=> ?_⟩;rcases hcl id with e|e|⟨e,_⟩
  .exact .inl ⟨e,by have:=(hgv id hid e).1;omega⟩
  .exact .inr (.inl e)
  .omega
 have hget:∀id l,(id,l)∈m->find m id=some l:=λid l z=>j7 (by rw[hm1];exact hnd) z
 have U:∀id l,(id,l)∈m->find (swap m) l=some id:=λid l z=>j7 (by rw[zf];omega) (BQ z)
 have hex:∀id∈ids,∃l,(id,l)∈m:=λid hid=>by rw[<-hm1] at hid;obtain⟨p,z,rfl⟩:=aG.1 hid;exact⟨p.2,z⟩
 let G:Nat->Value:=λl=>match find (swap m) l with
  |some id=>loc id
  |none=>loc l
 have O:∀id l,(id,l)∈m->G l=loc id:=λid l z=>by simp only[G,U id l z]
 have hren:∀id l,(id,l)∈m->iV m id=l:=λid l z=>by simp[iV,hget id l z]
 have hren2:∀id l,(id,l)∈m->iV (swap m) l=id:=λid l z=>by simp[iV,U id l z]
 have hρ:∀j∈ids,G (iV m j)=loc j:=λj hj=>by obtain⟨l,z⟩:=hex j hj;rw[hren j l z,O j l z]
 split at hv
 .rename_i cM Tl;obtain⟨X9,V7⟩:=yf Tl;have hlnd:(cM.map (·.1)).Nodup:=by rw[X9];exact hnn
  cases hr:cr g (args.map (SV.qV (iV m))) cM with
  |none=>rw[hr] at hv;cases hv
  |some rl=>
  obtain⟨r,R⟩:=rl;rw[hr] at hv;simp only[] at hv;generalize hnw:newNames (o.dst.getD 0) 0 (R.drop mB.length)=nw at hv;generalize hmm:mB++nw=mm at hv;cases Pq:(Nat.ble nw.length 8&&distinct (mm.map (·.1))&&distinct (mm.map (·.2))&&nw.all (λx=>Nat.blt x.1 10000)&&nw.all (λx=>Nat.ble 25000 x.2)) with
  |false=>rw[Pq] at hv;cases hv
  |true=>
  simp only[Pq,aj] at hv;simp only[aT,cv] at Pq;obtain⟨⟨⟨⟨_,hd1⟩,hd2⟩,hd3⟩,hd4⟩:=Pq;have hn1:=nG hd1;have hn2:=nG hd2;have hgetM:∀id l,(id,l)∈mm->find mm id=some l:=λid l z=>j7 hn1 z
  have hswapM:∀id l,(id,l)∈mm->find (swap mm) l=some id:=λid l z=>j7 (by rw[zf];omega) (BQ z)
  have hrenM:∀id l,(id,l)∈mm->iV (swap mm) l=id:=λid l z=>by simp[iV,hswapM id l z]
  have hpart:∀p∈mm,(p∈m/\cl p.1≠9000)\/p∈nw:=λp z=>by rw[<-hmm] at z;exact(bf.1 z).imp (hmb p).1 λh=>h
  have hnw25:∀p∈nw,25000<=p.2:=λp z=>by simpa using hd4 p z
  have hnwn:∀p∈nw,p.2∉cM.map (·.1):=λp z B=>by
   rw[X9] at B;obtain⟨q,hq,e⟩:=aG.1 B;by_cases hg9:cl q.1=9000
   .have:=((Pu q hq).2.2 hg9).2;have:=hnw25 p z;omega
   .have:(mB.map (·.2)++nw.map (·.2)).Nodup:=by rw[<-cE,hmm];exact hn2
    exact(gW.1 this).2.2 _ (aG.2 ⟨q,(hmb q).2 ⟨hq,hg9⟩,e⟩) _ (aG.2 ⟨p,z,rfl⟩) rfl
  have hnwi:∀p∈nw,p.1<10000:=λp z=>by simpa[cQ] using hd3 p z
  split at hv
  .rename_i back acD;obtain⟨hb1,hb2,hb3⟩:=x6 acD;have hbnd:(R.map (·.1)).Nodup:=by rw[hb1];exact hn2
   have hall:=G3 hρ acE hall0;have hobs:∀i oi,find cM i=some oi->mS w.heap.size (gJ L.q G (cM.map (·.1))) μ G w i oi:=by
    intro i oi hi;obtain⟨id,S,z,qF,hoc,rfl⟩:=V7 i oi (nJ hi);refine Ls hρ hoc (V.obs id _ qF) (O id i z) (λb hb=> .inr (.inr ⟨loc id,?_,hb⟩))
    have:i∈cM.map (·.1):=by rw[X9];exact aG.2 ⟨_,z,rfl⟩
    simp only[gJ,aC this,O id i z]
   have hapC:Xz G cM:=by intro i j oi oj hi hj hij q hq;obtain⟨id,S,z,qF,_⟩:=V7 i oi (nJ hi);obtain⟨id',ob',H,GF,_⟩:=V7 j oj (nJ hj);rw[O id i z] at hq;rw[O id' j H];refine V.apart id id' S ob' qF GF (λe=>hij ?_) q hq;subst e;have:=(hget id i z).symm.trans (hget id j H);injection this
   have hgo:(∀v w',(∃μ' I,eo L.q μ G (cM.map (·.1)) r R w v μ' I w')->K (a.put o.dst v) w')->o.uK P a w K Q:=λhK'=>by
    rcases xA g _ _ r _ hr w μ G (ps++(c.args.toList.map a.eval++cs)) V.base.1 V.yx hobs hapC hall with⟨hg,he,hC⟩|⟨hg,_,as,v0,wD,hY⟩
    .rcases hfe with⟨_,hfe⟩|⟨hg2,_⟩
     .refine afF (R:=λv w'=>∃μ' I,eo L.q μ G (cM.map (·.1)) r R w v μ' I w') ho hc hfe rfl he (hC.mono ?_) hK';rintro e w' ⟨v,μ',I,rfl,hP⟩;exact⟨v,rfl,μ',I,hP⟩
     omega
    .rcases hfe with⟨hg2,_⟩|⟨_,rfl,v1,rfl,hfe⟩
     .omega
     .rw[dU] at wD;obtain⟨e1,e2⟩:=List.append_inj' wD rfl;simp only[c9,eN] at e2;subst e1 e2;rw[<-hfe] at hY;refine afG (R:=λv w'=>∃μ' I,eo L.q μ G (cM.map (·.1)) r R w v μ' I w') ho hc (hY.mono ?_) hK';rintro e w' ⟨v,μ',I,rfl,hP⟩;exact⟨v,rfl,μ',I,hP⟩
   refine hgo ?_;rintro v w' ⟨μ',I,hP⟩;let F:Nat->Value:=λi=>match find mm i with
    |some l=>I l
    |none=>loc i
   have aak:∀id l,(id,l)∈mm->F id=I l:=λid l z=>by simp only[F,hgetM id l z]
   have X3:∀i,i∉ids.filter (λi=> !(stays cl i))++nw.map (·.1)->F i=loc i:=by intro i hi;cases hfi:find mm i with
    |none=>simp only[F,hfi]
    |some l=>
     have z:=nJ hfi;rcases hpart _ z with⟨H,_⟩|H
     .have D:i∈ids:=acJ _ H;have hmv0:cl i=10000:=by
       cases B:stays cl i with
       |true=>exact beq_iff.1 B
       |false=>exact absurd (dx _ (dw.2 ⟨D,by simp[B]⟩)) hi
      have hr2:=(Pu _ H).2.1 hmv0;rw[aak i l z,hP.fix l (by rw[X9];exact aG.2 ⟨_,H,rfl⟩) hr2.1 hr2.2];exact O i l H
     .exact absurd (gX _ (aG.2 ⟨_,H,rfl⟩)) hi
   have hlb:∀b,NU (gJ L.q G (cM.map (·.1))) b->∃id S,id∈ids/\st.ob id=some S/\mb (loc id) b:=by
    rintro b ⟨l,x,B,Tj⟩;simp only[gJ] at B;split at B
    .rename_i D;injection B with B;subst B;rw[X9] at D;obtain⟨p,z,rfl⟩:=aG.1 D;rw[O p.1 p.2 z] at Tj;obtain⟨q,hq,e⟩:=aG.1 (show p.2∈cM.map (·.1) by rw[X9];exact aG.2 ⟨_,z,rfl⟩);obtain⟨id,S,k1,k2,_⟩:=V7 q.1 q.2 hq;rw[e] at k1;have:=(U p.1 p.2 z).symm.trans (U id p.2 k1);injection this with this;exact⟨p.1,S,by rw[<-hm1];exact aG.2 ⟨_,z,rfl⟩,by rw[this];exact k2,Tj⟩
    .cases B
   have holdob:∀i oi,st.ob i=some oi->i∉ids->mS w0.heap.size L μ' loc w' i oi:=by
    intro i oi hi hni;refine(V.obs i oi hi).keep hP.ext.1 (λb hb=> ?_);obtain⟨_,hlt,Di⟩:=(V.obs i oi hi).block b hb;refine⟨hP.keep b hlt (λhl=> ?_),λj=> ?_⟩
    .obtain⟨id,S,h1,h2,h3⟩:=hlb b hl;exact V.apart id i S oi h2 hi (λe=>hni (by rw[<-e];exact h1)) b h3 hb
    .cases hj:μ' b j with
     |none=>rfl
     |some x=>
      rcases hP.ext.2 b j x hj with B|B|B
      .rw[Di j] at B;cases B
      .omega
      .obtain⟨id,S,h1,h2,h3⟩:=hlb b B.cM;exact absurd hb (V.apart id i S oi h2 hi (λe=>hni (by rw[<-e];exact h1)) b h3)
   have hgb:∀b,V0 (gJ L.q G (cM.map (·.1))) b->∃id S,id∈ids/\cl id=9000/\st.ob id=some S/\mb (loc id) b:=by
    rintro b ⟨l,x,h9,h10,B,Tj⟩;simp only[gJ] at B;split at B
    .rename_i D;injection B with B;subst B;rw[X9] at D;obtain⟨p,z,rfl⟩:=aG.1 D;have hc9:cl p.1=9000:=by
      rcases hcl p.1 with e|e|⟨e,_⟩
      .exact e
      .have:=(Pu p z).2.1 e;omega
      .have:=(Pu p z).1 e;omega
     rw[O p.1 p.2 z] at Tj;obtain⟨q,hq,e⟩:=aG.1 (show p.2∈cM.map (·.1) by rw[X9];exact aG.2 ⟨_,z,rfl⟩);obtain⟨id,S,k1,k2,_⟩:=V7 q.1 q.2 hq;rw[e] at k1;have:=(U p.1 p.2 z).symm.trans (U id p.2 k1);injection this with this;exact⟨p.1,S,acJ p z,hc9,by rw[this];exact k2,Tj⟩
    .cases B
   have hgn:∀b,V0 (gJ L.q G (cM.map (·.1))) b->w0.heap.size<=b\/V0 L b:=λb hb=>by obtain⟨id,S,h1,h2,h3,h4⟩:=hgb b hb;exact V.BS (hgv id h1 h2).2 ((V.obs id S h3).block b h4).1
   have hback':∀id o',find back id=some o'->∃l o,(id,l)∈mm/\find R l=some o/\o.closed (mm.map (·.2))=true/\o'=o.qV (iV (swap mm)):=by intro id o' hfb;obtain⟨l,o,h1,h2,h3,h4⟩:=hb3 id o' (nJ hfb);exact⟨l,o,h1,j7 hbnd h2,h3,h4⟩
   have Tp:∀id l S b,(id,l)∈mm->find R l=some S->mb (I l) b->w.heap.size<=b\/V0 (gJ L.q G (cM.map (·.1))) b\/((id,l)∈m/\mb (loc id) b):=by
    intro id l S b z hfo hb;rcases((hP.obs l S hfo).block b hb).1 with B|B|⟨x,B,Tj⟩
    .omega
    .exact .inr (.inl B)
    .right;right;simp only[gJ] at B;split at B
     .rename_i D;rcases hpart _ z with⟨H,_⟩|H
      .injection B with B;subst B;rw[O id l H] at Tj;exact⟨H,Tj⟩
      .exact absurd D (hnwn _ H)
     .cases B
   have hobin:∀id l,(id,l)∈m->∃S,st.ob id=some S:=by intro id l z;obtain⟨q,hq,e⟩:=aG.1 (show l∈cM.map (·.1) by rw[X9];exact aG.2 ⟨_,z,rfl⟩);obtain⟨id',S,k1,k2,_⟩:=V7 q.1 q.2 hq;rw[e] at k1;have:=(U id l z).symm.trans (U id' l k1);injection this with this;exact⟨S,by rw[this];exact k2⟩
   have hidm:∀i,i∉mm.map (·.1)->i∉ids.filter (λi=> !(stays cl i))++nw.map (·.1)->i∉ids:=λi hi hn B=>by
    obtain⟨l,z⟩:=hex i B;by_cases h9:cl i=9000
    .exact hn (dx _ (dw.2 ⟨B,by unfold stays;rw[h9];rfl⟩))
    .exact hi (by rw[<-hmm];exact aG.2 ⟨_,dx _ ((hmb (i,l)).2 ⟨z,h9⟩),rfl⟩)
   have Tn:∀i oi,((find back i).orElse λ_=>(fJ (ids.filter (λi=> !(stays cl i))++nw.map (·.1)) st).ob i)=some oi->mS w0.heap.size L μ' F w' i oi/\((∃l o,(i,l)∈mm/\find R l=some o)\/(i∉mm.map (·.1)/\i∉ids/\∃o,st.ob i=some o)):=by intro i oi hi;cases hfb:find back i with
    |some o'=>
     rw[hfb] at hi;simp at hi;subst hi;obtain⟨l,S,z,hfo,hcl,rfl⟩:=hback' i o' hfb;refine⟨Ls (names:=mm.map (·.2)) (λj hj=> ?_) hcl (hP.obs l S hfo) (aak i l z) (λb hb=> ?_), .inl ⟨l,S,z,hfo⟩⟩
     .obtain⟨q,hq,rfl⟩:=aG.1 hj;rw[hrenM q.1 q.2 hq,aak q.1 q.2 hq]
     .rcases Tp i l S b z hfo hb with B|B|⟨H,B⟩
      .exact .inl (fk V.grown B)
      .exact(hgn b B).imp (λh=>h) .inl
      .obtain⟨ob0,hob0⟩:=hobin i l H;exact((V.obs i ob0 hob0).block b B).1
    |none=>
     rw[hfb] at hi;have hni:i∉mm.map (·.1):=by rw[<-hb2];exact NH hfb
     have hi':(fJ (ids.filter (λi=> !(stays cl i))++nw.map (·.1)) st).ob i=some oi:=by simpa using hi
     obtain⟨hnp,S,qF,hk⟩:=IE _ st loc F X3 i oi hi';exact⟨hk _ _ _ _ (holdob i S qF (hidm i hni hnp)), .inr ⟨hni,hidm i hni hnp,S,qF⟩⟩
   have hrel:Rel N w0 μ0 L μ' F { env:=(fJ (ids.filter (λi=> !(stays cl i))++nw.map (·.1)) st).env,ob:=λi=>(find back i).orElse λ_=>(fJ (ids.filter (λi=> !(stays cl i))++nw.map (·.1)) st).ob i } a w':=by
    refine⟨V.small,V.names,?_,V.size,V.defers,?_,hP.yx,⟨V.base.1.trans hP.ext.1,?_⟩,λi oi hi=>(Tn i oi hi).1,?_,?_,hP.os.trans V.os,hP.tape.trans V.tape,hP.output.trans V.output,fk V.grown hP.grown,λq=>fk (V.drawn q) (hP.drawn q)⟩
    .intro id x B h9 hlt;rw[X3 id (λD=> ?_)]
     .exact V.fix id x B h9 hlt
     .rcases bf.1 D with D|D
      .obtain⟨hmi,hms⟩:=dw.1 D;rcases hcl id with e|e|⟨_,hmt⟩
       .have:=(hgv id hmi e).2;omega
       .simp[stays,e] at hms
       .simp only[gO,gC,aT] at hmt;rcases hmt with hh|hh
        .have:id<10000:=by simpa[cQ] using hh
         omega
        .have:=fD hh.1;omega
      .obtain⟨p,z,rfl⟩:=aG.1 D;have:=hnwi p z;omega
    .exact FI (tm:=λi=>a.tmps[i]?) _ st loc F X3 (λi s hs=>by
      obtain⟨u,hu,hr⟩:=V.env i s hs
      exact⟨u,hu,G2 hP.ext.1 hr⟩)
    .intro b j x B;rcases hP.ext.2 b j x B with B|B|B
     .exact V.base.2 b j x B
     .exact .inr (.inl (fk V.grown B))
     .exact .inr (hgn b B)
    .intro i j oi oj hi hj hij q hq;have W0:∀k ok,k∉mm.map (·.1)->k∉ids->st.ob k=some ok->∀q,mb (F k) q->mb (loc k) q/\q<w.heap.size:=by
      intro k ok hk hki hok q hq
      have:F k=loc k:=X3 k (λhm=>by
       rcases bf.1 hm with hm|hm
       .exact hki (dw.1 hm).1
       .exact hk (by rw[<-hmm,cE];exact gX _ hm))
      rw[this] at hq;exact⟨hq,((V.obs k ok hok).block q hq).2.1⟩
     have mixed:∀i l o j oj q,(i,l)∈mm->find R l=some o->j∉mm.map (·.1)->j∉ids->st.ob j=some oj->mb (F i) q->mb (F j) q->False:=by
      intro i l o j oj q z hfo hj hji hoj hqi Va;obtain⟨hqj',hlt⟩:=W0 j oj hj hji hoj q Va;rw[aak i l z] at hqi;rcases Tp i l o q z hfo hqi with B|B|⟨H,B⟩
      .omega
      .obtain⟨id,S,h1,_,h3,h4⟩:=hgb q B;exact V.apart id j S oj h3 hoj (λe=>hji (by grind)) q h4 hqj'
      .obtain⟨ob0,hob0⟩:=hobin i l H;exact V.apart i j ob0 oj hob0 hoj (λe=>hj (by grind)) q B hqj'
     rcases(Tn i oi hi).2 with⟨l,o,z,hfo⟩|⟨hni,hni',S,qF⟩
     .rcases(Tn j oj hj).2 with⟨nm',o',H,hfo'⟩|⟨hnj,hnj',ob',GF⟩
      .rw[aak i l z] at hq;rw[aak j nm' H];refine hP.apart l nm' o o' hfo hfo' (λe=>hij ?_) q hq;grind
      grind
     .rcases(Tn j oj hj).2 with⟨nm',o',H,hfo'⟩|⟨hnj,hnj',ob',GF⟩
      .grind
      .obtain⟨hqi,_⟩:=W0 i S hni hni' qF q hq;intro Va;obtain⟨Va,_⟩:=W0 j ob' hnj hnj' GF q Va;exact V.apart i j S ob' qF GF hij q hqi Va
    .intro b hb hl;refine(hP.keep b (fo hb V.grown) (λhl'=> ?_)).trans (V.keep b hb hl);obtain⟨id,S,_,h2,h3⟩:=hlb b hl';rcases((V.obs id S h2).block b h3).1 with B|B|⟨x,B,Tj⟩
     .omega
     .exact hl B.cM
     .exact hl ⟨id,x,B,Tj⟩
   have fin:∀sv,gb μ' F sv v->st1=St.set { env:=(fJ (ids.filter (λi=> !(stays cl i))++nw.map (·.1)) st).env,ob:=λi=>(find back i).orElse λ_=>(fJ (ids.filter (λi=> !(stays cl i))++nw.map (·.1)) st).ob i } o.dst sv->K (a.put o.dst v) w':=λsv hs e=>by subst e;exact hK _ _ μ' F (hrel.set hd hs)
   split at hv
   .rename_i x;cases hcx:(xz x).closed _ with
    |false=>rw[hcx] at hv;cases hv
    |true=>
    simp only[hcx,aj,aW] at hv;refine fin _ ?_ hv.symm;obtain⟨h1,_⟩:gb _ _ _ v/\True:=by
     rcases hP.res with B|⟨_,_,_,_,e1,_⟩|⟨x',e1,h1,_⟩|⟨_,_,_,_,e1,_⟩
     .simp[rep,cH] at B
     .cases e1
     .simp at e1;subst e1;exact⟨h1,trivial⟩
     .simp at e1
    refine Qq (LL (λj hj=> ?_) hcx h1) (λid t cells hb=> ?_)
    .obtain⟨q,hq,rfl⟩:=aG.1 hj;grind
    .obtain⟨hok,_⟩:=Tn _ _ (by rw[hb];rfl);obtain⟨b,vs,hl,_⟩:=hok;exact⟨b,hl⟩
   .cases hns:r.jT with
    |false=>rw[hns] at hv;cases hv
    |true=>
    simp only[hns,aj,aW] at hv;exact fin (.pv r) (hP.pure hns) hv.symm
  simp_all
 simp_all
theorem BC (I:Rel N w0 μ0 L μ loc st a w) (D:iD L.q μ0 P cr) {o:Oper} {c:Call} {f:Operand} {H:St} (hd:∀i,o.dst=some i->i<N) (ho:o.op= .call c) (hc:c.callee= .value f)
  (q:kG P h cr st c f o.dst=some H) (hK:ng N w0 μ0 L H K):o.uK P a w K Q:=by
 unfold kG at q;split at q
 .rename_i g pre z vs hf hvs;obtain⟨sf,hsf,S⟩:=dB.1 hf;obtain⟨ps,cs,hps,O,R⟩:=KF (aZ I hsf) S;refine BB I D hd ho hc (cl:=Ft (iB (o.dst.any h.stay.contains) st (q7 (pre++(vs++z))))) (mU hps (mU (EM I hvs) O)) (λid=> ?_) R ?_ hK
  .simp_all[Lb,iB]
  unfold kF;simp only at q⊢;generalize gN _ _ _ _=ids at q⊢;generalize NP:iB _ _ _=B at q⊢;rw[N5];have V:ids.all (λi=> !(given (Ft B) i))=true:=cv.2 λi _=>by unfold given Ft;cases B i<;>rfl
  have G:((jj B 0 ids).filter λp=> !(given (Ft B) p.1))=jj _ 0 _:=zl.2 λp _=>by unfold given Ft;cases B _<;>rfl
  have hpg:(ids.filter λi=> !(stays (Ft B) i))=ids.filter B:=mE λi _=>by unfold stays Ft;cases B i<;>rfl
  rw[V,G,hpg,u9,zm];generalize hm:jj _ 0 _=m at q⊢;cases l:(distinct _&&Nat.blt _ _&&(pre++(vs++z)).all _) with
  |false=>grind
  |true=>
  rw[l,aj] at q;simp only[aj];simp at l;have hlen :=by simpa[cQ] using l.1.2
  split at q
  .split at q
   .rename_i r F hr;split at q
    .rename_i back hb;have U :=by
      have:=aU List.length (x6 hb).1;simpa using this
     have e:F.drop m.length=[]:=by rw[<-U];exact qm
     have h1:distinct (m.map (·.1))=true:=by rw[<-hm,uw];exact l.1.1
     have h2:distinct (m.map (·.2))=true:=BT (by grind[yh]);simp only[e,newNames,eP,h1,h2,hb,fN];split
     .simp[AV.jT,AV.Yg] at q
     .exact q
    simp_all
   omega
  omega
 simp_all
def Bw (O:Rel N w0 μ0 L μ loc st a w) {G:List Nat} {d:Nat}:∀{xs:List Operand} {D:List TypeId} {j:Nat} {F:List SV},(∀x∈nK P G d j xs D,fO (loc x.1)= .slice none 0 0)->C7 P G d st j xs D=some F->iq μ loc F (xs.map a.eval)
 |[],D,j,F,_,z=>by simp[C7] at z;subst z;rfl
 |x::xs,D,j,F,B,z=>by
  simp only[C7] at z;split at z
  .rename_i v S l I;injection z with z;subst z;cases q:(D1 x&&G.contains j) with
   |false=>rw[nK,q] at B;refine⟨_,_,rfl,?_,Bw O B I⟩;unfold argG at l;grind[aZ]
   |true=>
    simp only[aT] at q;unfold argG at l;rw[q.1,q.2] at l;obtain⟨⟨e,U⟩,H,l⟩:=dB.1 l;rw[nK,q.1,q.2,H] at B;refine⟨_,_,rfl,?_,Bw O (λy R=>B y (dF _ R)) I⟩;injection l with l;subst l;unfold D1 at q;split at q
    .show Value.slice _ 0 0=fO _;simp_all
    simp_all
  simp_all
mutual
theorem AV.td:∀(a b:AV),AV.same a b=true->a=b
 | .bool a,b=>by cases b<;>simp[AV.same]
 | .int k a,b=>by cases b<;>simp[AV.same]
 | .str a,b=>by cases b<;>simp[AV.same]
 | .dK s xs,b=>by cases b<;>simp only[AV.same,aT,eG,oa];rintro⟨h1,h2⟩;rw[beq_iff.1 h1,Cb _ _ h2]
 | .agg a,b=>by cases b<;>simp only[AV.same,eG,oa];intro h;rw[oQ _ _ h]
 | .fn f a,b=>by cases b<;>simp only[AV.same,aT,eG,oa];rintro⟨h1,h2⟩;rw[beq_iff.1 h1,oQ _ _ h2]
 | .gy a,b=>by cases b<;>simp only[AV.same,eG,oa];intro h;rw[oQ _ _ h]
 | .ref a,b=>by cases b<;>simp only[AV.same,eG,oa];intro h;rw[oQ _ _ h]
 | .mp a b,c=>by cases c<;>simp only[AV.same,aT,eG,oa];rintro⟨h1,h2⟩;rw[oQ _ _ h1,oQ _ _ h2]
 | .self n,b=>by cases b<;>simp only[AV.same,eG,oa];intro h;rw[beq_iff.1 h]
 | .lY,b=>by cases b<;>simp[AV.same]
 | .ux,b=>by cases b<;>simp[AV.same]
 | .hole,b=>by cases b<;>simp[AV.same]
theorem oQ:∀(a b:List AV),s9 a b=true->a=b
 |[],[]=>λ_=>rfl
 |[],_::_=>λh=>by simp[s9] at h
 |_::_,[]=>λh=>by simp[s9] at h
 |x::l,y::m=>λh=>by simp only[s9,aT] at h;rw[AV.td x y h.1,oQ l m h.2]
theorem Cb:∀(a b:List (List AV)),Ca a b=true->a=b
 |[],[]=>λ_=>rfl
 |[],_::_=>λh=>by simp[Ca] at h
 |_::_,[]=>λh=>by simp[Ca] at h
 |x::l,y::m=>λh=>by simp only[Ca,aT] at h;rw[oQ x y h.1,Cb l m h.2]
end
mutual
theorem AV.nT:∀a:AV,AV.same a a=true
 | .bool a=>by simp[AV.same]
 | .int k a=>by simp[AV.same]
 | .str a=>by simp[AV.same]
 | .dK s xs=>by simp[AV.same,kD,Aw xs]
 | .agg a=>by simp[AV.same,nt a]
 | .fn f a=>by simp[AV.same,kD,nt a]
 | .gy a=>by simp[AV.same,nt a]
 | .ref a=>by simp[AV.same,nt a]
 | .mp a b=>by simp[AV.same,nt a,nt b]
 | .self n=>by simp[AV.same,kD]
 | .lY=>by simp[AV.same]
 | .ux=>by simp[AV.same]
 | .hole=>by simp[AV.same]
theorem nt:∀a:List AV,s9 a a=true
 |[]=>rfl
 |x::l=>by simp[s9,AV.nT x,nt l]
theorem Aw:∀a:List (List AV),Ca a a=true
 |[]=>rfl
 |x::l=>by simp[Ca,nt x,Aw l]
end
theorem pq.td {a b:pq} (h:a.same b=true):a=b:=by
 cases a<;>cases b<;>simp[pq.same,eG] at h
 .rw[AV.td _ _ h]
 .simp_all
 simp_all
def pq.nT (a:pq):a.same a=true:=by cases a<;>simp[pq.same,AV.nT]
theorem B8:∀{a b:List pq},tc a b=true->a=b
 |[],[]=>λ_=>rfl
 |[],_::_=>λh=>by simp[tc] at h
 |_::_,[]=>λh=>by simp[tc] at h
 |x::l,y::m=>λh=>by simp[tc,aT] at h;rw[pq.td h.1,B8 h.2]
def DF:∀a:List pq,tc a a=true
 |[]=>rfl
 |x::l=>by simp[tc,pq.nT x,DF l]
theorem Ak.td {a b:Ak} (h:a.same b=true):a=b:=by
 cases a<;>cases b<;>simp[Ak.same,eG] at h
 .rfl
 .simp_all
 simp_all
def Ak.nT (a:Ak):a.same a=true:=by cases a<;>simp[Ak.same]
theorem SV.td {a b:SV} (h:a.same b=true):a=b:=by induction a generalizing b with
 |two s x q l=>cases b<;>simp only[SV.same,aT,eG] at h;grind
 |undef=>grind[SV.same,Bool.false_eq_true]
 |any=>grind[SV.same,Bool.false_eq_true]
 |pv x=>cases b<;>simp_all[SV.same,eG];rw[AV.td _ _ h]
 |ptr x y=>cases b<;>simp[SV.same,eG] at h;simp_all
 |row x=>cases b<;>simp[SV.same,eG] at h;simp_all
 |rp x y z u=>cases b<;>simp[SV.same,eG] at h;simp_all
 |sub x y z u=>cases b<;>simp[SV.same,eG] at h;simp_all
 |cp x=>cases b<;>simp_all[SV.same];rw[oQ _ _ h]
 |cl f x=>cases b<;>simp[SV.same,eG] at h;grind[beq_iff,B8]
 |ag x=>cases b<;>simp_all[SV.same];rw[B8 h]
 |aq x y=>cases b<;>simp[SV.same,eG] at h;grind[beq_iff,Ak.td]
def SV.nT (a:SV):a.same a=true:=by induction a<;>simp[SV.same,AV.nT,nt,DF,Ak.nT, *]
theorem LY:∀{a b:List SV},xQ a b=true->a=b
 |[],[]=>λ_=>rfl
 |[],_::_=>λh=>by simp[xQ] at h
 |_::_,[]=>λh=>by simp[xQ] at h
 |x::l,y::m=>λh=>by simp[xQ,aT] at h;rw[SV.td h.1,LY h.2]
def FP:∀a:List SV,xQ a a=true
 |[]=>rfl
 |x::l=>by simp[xQ,SV.nT x,FP l]
theorem CJ:∀{a b:List (Option (List (List AV)))},rS a b=true->a=b
 |[],[]=>λ_=>rfl
 |[],_::_=>λh=>by simp[rS] at h
 |none::_,[]=>λh=>by simp[rS] at h
 |some _::_,[]=>λh=>by simp[rS] at h
 |some x::l,some y::m=>λh=>by simp[rS,aT] at h;rw[Cb _ _ h.1,CJ h.2]
 |none::l,none::m=>λh=>by simp[rS] at h;rw[CJ h]
 |some _::_,none::_=>λh=>by simp[rS] at h
 |none::_,some _::_=>λh=>by simp[rS] at h
def B9:∀a:List (Option (List (List AV))),rS a a=true
 |[]=>rfl
 |some x::l=>by simp[rS,Aw x,B9 l]
 |none::l=>by simp[rS,B9 l]
theorem Ob.td {a b:Ob} (h:a.same b=true):a=b:=by
 cases a<;>cases b<;>simp[Ob.same,eG] at h
 .grind[beq_iff,LY]
 .grind[beq_iff,Cb]
 .grind[beq_iff,oQ]
 .grind[beq_iff,oQ,CJ]
 .simp_all
 .rw[oQ _ _ h]
 grind[beq_iff,Cb,CJ]
def Ob.nT (a:Ob):a.same a=true:=by cases a<;>simp[Ob.same,Aw,nt,FP,B9]
def LX:∀{a b:List (Nat×Ob)},vM a b=true->a=b
 |[],[]=>λ_=>rfl
 |[],_::_=>λh=>by simp[vM] at h
 |_::_,[]=>λh=>by simp[vM] at h
 |(i,x)::l,(j,y)::m=>λh=>by simp only[vM,aT] at h;rw[beq_iff.1 h.1.1,Ob.td h.1.2,LX h.2]
def FO:∀a:List (Nat×Ob),vM a a=true
 |[]=>rfl
 |(i,x)::l=>by simp[vM,Ob.nT x,FO l]
theorem pq.wT {B l:Nat->Nat} {ids:List Nat} (h:∀j∈ids,l (B j)=j):∀{q:List pq},SV.closed ids (.cl 0 q)=true->(q.map (pq.qV B)).map (pq.qV l)=q
 |[],_=>rfl
 |c::q,z=>by simp[SV.closed,jG,aT] at z;simp only[bM];rw[pq.wT h (by simpa[SV.closed] using z.2)];grind[pq.qV]
theorem SV.wT {B q:Nat->Nat} {ids:List Nat} (h:∀j∈ids,q (B j)=j) {s:SV} (G:s.closed ids=true):(s.qV B).qV q=s:=by induction s with
 |two s b I D=>simp_all[SV.qV,SV.closed]
 |ptr j z=>simp_all[SV.qV,SV.closed]
 |row j=>simp_all[SV.qV,SV.closed]
 |rp j F i z=>simp_all[SV.qV,SV.closed]
 |sub j F O H=>simp_all[SV.qV,SV.closed]
 |cl f l=>simp only[SV.qV];rw[pq.wT h (by assumption)]
 |ag l=>simp only[SV.qV];rw[pq.wT h (by assumption)]
 |_=>rfl
def AR {q:Nat->Nat} {ids names:List Nat} (h:∀j∈ids,q j∈names):∀{l:List pq},SV.closed ids (.cl 0 l)=true->SV.closed names (.cl 0 (l.map (pq.qV q)))=true
 |[],_=>rfl
 |c::l,z=>by simp[SV.closed] at z;simp[SV.closed];grind[pq.qV]
theorem SV.DR {B:Nat->Nat} {ids names:List Nat} (h:∀j∈ids,B j∈names) {s:SV} (G:s.closed ids=true):(s.qV B).closed names=true:=by induction s with
 |two s b I D=>simp_all[SV.qV,SV.closed]
 |ptr j z=>simp_all[SV.qV,SV.closed]
 |row j=>simp_all[SV.qV,SV.closed]
 |rp j F i z=>simp_all[SV.qV,SV.closed]
 |sub j F O H=>simp_all[SV.qV,SV.closed]
 |cl f l=>have:=AR h (by assumption);assumption
 |ag l=>have:=AR h (by assumption);assumption
 |aq j q=>assumption
 |_=>rfl
theorem Ob.wT {z l:Nat->Nat} {ids:List Nat} (h:∀j∈ids,l (z j)=j) {o:Ob} (q:o.closed ids=true):(o.qV z).qV l=o:=by cases o with
 |box t cells=>simp[Ob.qV,fF];congr 1;simp[Ob.closed,cv] at q;exact(iK λs B=>SV.wT h (q s B)).trans (qo _)
 |_=>rfl
theorem Ob.DR {l:Nat->Nat} {ids names:List Nat} (h:∀j∈ids,l j∈names) {o:Ob} (q:o.closed ids=true):(o.qV l).closed names=true:=by cases o with
 |box t cells=>simp[Ob.closed] at q;simp[Ob.qV,Ob.closed];grind[SV.DR]
 |mr k e s z B=>assumption
 |_=>rfl
def Nt {ids names:List Nat} {B ρ':Nat->Nat} (G:∀j∈ids,ρ' (B j)=j) (F:∀j∈ids,B j∈names):∀{l:List (Nat×Nat)} {cM:List (Nat×Ob)},kg st ids B l=some cM->∃q,nF names ρ' l cM=some q/\∀i o,find q i=some o->st.ob i=some o
 |[],cM,z=>by simp[kg,aW] at z;subst z;exact⟨[],rfl,λi o h=>by simp[find] at h⟩
 |(id,S)::l,cM,z=>by
  simp[kg] at z;split at z
  .rename_i o U ho D;obtain⟨O,z⟩:=(show o.closed ids=true/\some ((S,o.qV B)::U)=some cM from by grind)
   injection z with z;subst z;obtain⟨q,H,V⟩:=Nt G F D;refine⟨(id,(o.qV B).qV ρ')::q,?_,λi o' R=> ?_⟩
   .simp[nF,kD,Ob.DR F O,sn,aj,H,ey]
   .simp[find] at R;cases I:Nat.beq id i with
    |true=>grind[beq_iff,Ob.wT]
    |false=>simp_all
  simp_all
def Sy {c:Call} {f:Operand} {r:AV} {d:Option Nat} (hst:d.any h.stay.contains=true) (F:tI P h cr st c f=some r):kG P h cr st c f d=some (st.set d (.pv r)):=by
 unfold tI at F;split at F
 .rename_i g args l;unfold uU at l;split at l
  .rename_i g' pre z U hf hvs;simp only[aW,ck] at l;obtain⟨rfl,rfl⟩:=l;have V:iB (d.any h.stay.contains) st (q7 (pre++(U++z)))=λ_=>false:=by
    funext id;simp only[iB,hst,dr,Bool.and_false]
   have G:gN st 200 ((pre++(U++z)).flatMap SV.ids) []=jK st (pre++(U++z)):=rfl;generalize jK st _=ids at F G;have hm:jj _ 0 ids=mV _:=rfl;cases q:(distinct ids&&Nat.blt ids.length 10000&&(pre++(U++z)).all (SV.closed ids)) with
   |false=>grind
   |true=>
   simp only[q] at F;have B:=q;simp at B;obtain⟨⟨O,H⟩,acE⟩:=B;have H :=by simpa[cQ] using H
   have hnd:=nG O;have hm1:(mV _).map _=ids:=uw _ _ _;have hnn:((mV ids).map _).Nodup:=yh _ 0 _ af;have hget:∀id R,(id,R)∈mV ids->find _ _=some _:=λid R hp=>j7 (by simp_all) hp
   have hswap:∀id R,(id,R)∈mV _->find _ _=some _:=λid R hp=>j7 (by rw[zf];omega) (BQ hp)
   split at F
   .rename_i cM D;split at F
    .rename_i r' I hr;cases S:(vM I cM&&r'.jT) with
     |false=>simp_all
     |true=>
      rw[S] at F;simp at F;subst F;simp at S;have e:=LX S.1;subst e
      obtain⟨back,hb,hg⟩:=Nt (names:=(mV ids).map (·.2)) (ρ':=iV (swap (mV ids))) (λj hj=>by
       grind[iV]) (λj hj=>by
       simp[iV]
       grind) D
      unfold kG;simp only[hf,hvs,V,G,hm,q,aj,D,hr,hb,S.2];have e1:fJ (ids.filter λ_=>false) st=st:=by have e0:(ids.filter λ_=>false)=[]:=zn.2 (λ_ _=>by decide);rw[e0];rfl
      rw[e1];congr 2;congr 1;funext i;cases hfi:find _ i with
      |none=>rfl
      |some o=>simp_all
    simp_all
   simp_all
  simp_all
 simp_all
def LF (H:Rel N w0 μ0 L μ loc st a w) {b:Bool}:∀{xs:List Operand} {G:List TypeId} {D:List AV},sW P b st xs G=some D->cH μ D (xs.map a.eval):=by intro xs;induction xs with
 |nil=>simp_all[sW,dO]
 |cons x xs O=>
  intro G D q;simp[sW] at q;split at q
  .rename_i v R l B;injection q with q;subst q;refine cC ?_ (O B);unfold Qv at l;cases z:(b&&D1 x) with
   |true=>
    rw[z] at l;simp at l;subst l;have:=(ql.1 z).2;unfold D1 at this;split at this
    .rfl
    simp_all
   |false=>rw[z] at l;obtain⟨s,I,F⟩:=dB.1 l;have:=aZ H I;cases s<;>simp[jg] at F;subst F;exact this
  simp_all
def yl:∀{D:List AV} {l:List (Nat×TypeId×Nat)} {z:List pq} {B:List Value},tY D l=some z->(∀x∈l,fO (loc x.1)= .slice none 0 0)->cH μ D B->lM μ loc z B
 |[],l,z,B,q,_,O=>by simp_all[tY,cH,lM]
 |a::D,l,z,B,q,I,O=>by
  obtain⟨u,R,rfl,G,H⟩:=O;have other:∀{k':List _},tY _ l=some _->lM _ _ (.v a::k') _:=λF=>⟨u,R,rfl,G,yl F I H⟩
  cases a with
  |ux=>cases l with
   |nil=>simp[tY] at q
   |cons x l=>simp[tY,cu] at q;obtain⟨k',F,rfl⟩:=q;rw[rep] at G;refine⟨u,R,rfl,?_,yl F (λy S=>I y (by simp[S])) H⟩;show u=fO _;simp_all
  |_=>simp[tY,cu] at q;grind
def Sw (V:Rel N w0 μ0 L μ loc st a w) (l:iD L.q μ0 P cr) {o:Oper} {c:Call} {f:Operand} {B:St} {d:Nat} {U:List Nat} (q:o.dst=some d) (hd:∀i,o.dst=some i->i<N) (ho:o.op= .call c) (hc:c.callee= .value f)
  (z:Db P h cr st c f d U=some B) (hK:ng N w0 μ0 L B K):o.uK P a w K Q:=by
 unfold Db at z;simp at z;split at z
 .rename_i g pre S vs hf R;cases hb:(nK P U d 0 c.args.toList c.argTypes.toList).all (λx=>Nat.blt x.1 10000) with
  |false=>simp_all
  |true=>
  rw[hb] at z;obtain⟨loc2,D,h3,_⟩:=rA V _ _ _ V (λx hx=>cQ.mp (cv.1 hb x hx));obtain⟨sf,O,H⟩:=dB.1 hf;obtain⟨ps,cs,I,F,G⟩:=KF (aZ D O) H;exact BB D l hd ho hc (mU I (mU (Bw D h3 R) F)) (λid=>VZ λhm=>by simp_all[iB]) G (q▸z) hK
 simp_all
theorem MP (R:Rel N w0 μ0 L μ loc st a w) (G:iD L.q μ0 P cr) {o:Oper} {c:Call} {f:Operand} {st1:St} (hd:∀i,o.dst=some i->i<N) (ho:o.op= .call c) (hc:c.callee= .value f)
  (D:iS P h cr st c f o.dst=some st1) (hK:ng N w0 μ0 L st1 K):o.uK P a w K Q:=by
 unfold iS at D;split at D
 .rename_i d z;split at D
  .rename_i gv _;exact Sw R G z hd ho hc D hK
  split at D
  .rename_i g caps vs hf hvs;obtain⟨cs,hfe,hcs⟩:=KG R hf;have main:∀{r:AV},cr g ((vs++caps).map .pv) []=some (r,[])->(∀v O B q,eo L.q μ loc [] r [] w v B q O->Rel N w0 μ0 L B loc st a O->K (a.put o.dst v) O)->o.uK P a w K Q:=λ{r} hr hk=>by
    obtain⟨he,hC⟩:=iD.noY (G g _ [] _ [] hr w μ loc (c.args.toList.map a.eval++cs) R.base.1 R.yx (by simp[find]) (by intro i j oi oj V;simp[find] at V) (sZ (oV (LF R hvs) hcs))) λxs=>by simp[find]
    refine JT (R:=λv O=>∃B q,eo L.q μ loc [] r [] w v B q O) (r:=r) (BN:=[]) ho hc hfe rfl he (hC.mono ?_) ?_
    .simp
    .rintro v O ⟨B,q,F⟩;exact hk v O B q F (R.grow (SZ F.ext) F.yx (ER F) F.drawn)
   split at D
   .rename_i e sz xs hr;cases hn:(xJ h d).isSome with
    |true=>simp_all
    |false=>
    rw[hn] at D;simp only[au,aW] at D;subst D;refine main hr λv O B q F h1=> ?_
    obtain⟨us,U,hrc,S⟩:∃us,O.ownsRow 0 e sz v xs.length us/\de B sz xs us/\∀g,bH v=some g->w.heap.size<=g/\∀j,B g j=none:=by
     rcases F.res with hx|⟨_,_,_,_,e1,_⟩|⟨_,e1,_⟩|⟨e2,sz2,xs2,us,e1,k1,k2,k3⟩
     .simp_all[rep,cH]
     .cases e1
     .simp at e1
     .simp only[AV.gy.injEq,c9,AV.self.injEq,AV.dK.injEq,eN] at e1;obtain⟨rfl,rfl,rfl⟩:=e1;exact⟨us,k1,k2,λg H=>⟨(k3 g H).1.resolve_right λ⟨_,_,_,_,hx,_⟩=>by simp[gJ] at hx,(k3 g H).2.1⟩⟩
    have hdN:=hd d z;have hin:∀g,mb v g->bH v=some g:=λg H=>by
     rcases H with H|⟨us',e1,_⟩
     .exact H
     .subst e1;rcases U.2 with⟨e2,_⟩|⟨_,_,_,e2,_⟩<;>cases e2
    have h2:=h1.new (id:=d) (o:= .row e _ _) (.inl (fo hdN R.small)) ⟨us,by rw[cI];omega,hrc,λg H=>by
      rw[cI] at H;obtain⟨k1,k2⟩:=S g (hin g H)
      exact⟨.inl (fk R.grown k1),k2⟩⟩ (λj oj hj _ g H hb=>by
     have k1:=(S g (hin g H)).1;have:=((R.obs j _ hj).block g hb).2.1
     omega)
    rw[z];refine hK _ _ _ _ (h2.set (λi V=>(fc V)▸hdN) ?_);show v=fO _;rw[cI];rcases U.2 with⟨e2,_⟩|⟨_,_,_,e2,_⟩<;>rw[e2]<;>rfl
   .rename_i cs' hr;split at D
    .injection D with D;subst D;refine main hr λv O B q F h1=> ?_
     have I:=F.pure rfl;rw[z];exact hK _ _ _ _ (h1.set (λi V=>hd i (z.trans V)) I)
    .rename_i l _ hl;split at D
     .rename_i ks hks;cases hb:l.all (λx=>Nat.blt x.1 10000) with
      |false=>simp_all
      |true=>
      rw[hb] at D;simp at D;subst D;refine main hr λv O B q F h1=> ?_
      have I:=F.pure rfl;obtain⟨vs',rfl,hra,hone⟩:=I;obtain⟨loc2,h2,h3,_⟩:=rA h1 l _ _ h1 (λx hx=>cQ.mp (cv.1 hb x hx));rw[z];exact hK _ _ _ _ (h2.set (λi V=>hd i (z.trans V)) ⟨_,rfl,yl hks h3 hra,hone⟩)
     simp_all
    simp_all
   simp_all
  simp_all
 simp_all
theorem OY (B:Rel N w0 μ0 L μ loc st a w) (l:iD L.q μ0 P cr) {o:Oper} {c:Call} {f:Operand} {r:AV} (F:∀i,o.dst=some i->i<N) (G:o.op= .call c) (D:c.callee= .value f) (q:o.dst.any h.stay.contains=true)
  (H:tI P h cr st c f=some r) (z:ng N w0 μ0 L (st.set o.dst (.pv r)) K):o.uK P a w K Q:=
 BC B l F G D (Sy q H) z
theorem VW (z:Rel N w0 μ0 L μ loc st a w) (xA:iD L.q μ0 P cr) {o:Oper} {v:SV} (H:∀i,o.dst=some i->i<N) (l:ec P h cr o st=some v) (F:ng N w0 μ0 L (st.set o.dst v) K):o.uK P a w K Q:=by
 unfold ec at l;split at l
 .rename_i t len D I;cases V:(o.dst.any h.rows.contains||o.dst.any h.ga.contains) with
  |true=>simp_all
  |false=>simp only[V,au] at l;cases hl:lX P t len D.toList st with
   |none=>simp_all
   |some x=>grind[VU]
 .rename_i c I;split at l
  .rename_i f hc;replace l:=GX l;cases R:(o.dst.any h.stay.contains&&wide st c f) with
   |true=>rw[R] at l;simp only[aj,cu] at l;obtain⟨r,hr,rfl⟩:=l;rw[aT] at R;grind[OY]
   |false=>
   rw[R] at l;replace l:=GX l;split at l
   .rename_i g q vs hf hvs;split at l
    .rename_i r hr;cases hp:((!(c.args.toList.any (lZ st))||r.plain)&&r.jT) with
     |true=>simp only[hp,aj,aW] at l;subst l;rw[aT] at hp;grind[Km,Bool.or_comm]
     |false=>grind
    simp_all
   simp_all
  .exact qe z H (Ie z I l) F
 .rename_i t x k ok I;exact qe z H (wS z (GX l)) F
 .rename_i t D I;exact qe z H (Tf z I (GX l)) F
 .rename_i t x I;exact qe z H (wS z (GX l)) F
 .rename_i g first q I
  cases O:first.isEmpty with
  |false=>
   simp[O] at l;cases G:(q.isEmpty&&o.dst.any h.ga.contains&&Nat.blt g 1000000) with
   |false=>simp_all
   |true=>
   rw[G] at l;simp only[aT] at G;have hc0 :=by simpa using G.1.1
   have hg :=cQ.mp G.2;have run:(execOp a.eval o).run P w= .ok (.value (.func (.func g) (first.toList.map a.eval).toArray #[])) w:=by
    unfold execOp;rw[I,hc0];have e:first.map a.eval=(first.toList.map a.eval).toArray:=by grind
    simp[Instr.makeFunc,e]
   cases B:rK st first.toList with
   |none=>simp_all
   |some vs=>
    simp[B] at l;subst l;refine qe z H ⟨_,run,(show gb _ _ (.cl _ _) _ from⟨_,?_,ET z B⟩)⟩ F;have h1:Nat.blt (g+1000000) 1000000=false:=by cases V:Nat.blt _ _ with
     |false=>rfl
     |true=>have:=cQ.mp V;omega
    have h2:Nat.blt (g+1000000) _=true:=cQ.mpr (Nat.add_lt_add_right hg _);simp[clV,h1,h2,au,aj,mF]
  |true=>
   simp[O] at l;have hf0 :=by simpa using O
   have run:(execOp a.eval o).run P w= .ok (.value (.func (.func g) #[] (q.toList.map a.eval).toArray)) w:=by
    unfold execOp;rw[I,hf0];have e:q.map a.eval=(q.toList.map a.eval).toArray:=by grind
    simp[Instr.makeFunc,e]
   cases S:o.dst.any h.ga.contains with
   |true=>
    simp[S] at l;cases U:Nat.blt g 1000000 with
    |false=>simp_all
    |true=>
    rw[U] at l;cases B:rK st q.toList with
    |none=>simp_all
    |some vs=>simp[B] at l;subst l;exact qe z H ⟨_,run,(show gb _ _ (.cl g _) _ from⟨_,by simp[clV,U,aj],ET z B⟩)⟩ F
   |false=>
   simp[S] at l;cases B:uN st q.toList with
   |none=>simp_all
   |some vs=>simp[B] at l;subst l;have hall:=EU z B;refine qe z H ⟨_,run,?_⟩ F;show rep _ _ _;rw[rep];simp_all
 .have key:fe P o st=some v:=by
   split at l
   .grind
   .grind
   .exact l
  exact qe z H (wS z key) F
 .exact qe z H (wS z l) F
theorem Z9 (G:Rel N w0 μ0 L μ loc st a w) (xA:iD L.q μ0 P cr) {o:Oper} (S:∀i,o.dst=some i->i<N) (B:ni P h cr o st=some st') (I:ng N w0 μ0 L st' K):o.uK P a w K Q:=by
 unfold ni at B;split at B
 .rename_i d q D;split at B
  .rename_i e s hs;split at B
   .injection B with B;subst B;exact eff_nil G (S d q) q D I
   .cases B
  .cases B
 .rename_i d x hnc q D;split at B
  .rename_i id R;cases U:h.mvs.contains d with
   |true=>rw[U] at B;exact P4 G (S d q) q D R B I
   |false=>
   rw[U] at B;simp only[au] at B;split at B
   .rename_i st1 hp;split at B
    .rename_i v hv1;injection B with B;subst B;obtain⟨μ1,_,h1⟩:=G.dh hp;exact qe h1 S (DZ h1 (.inr D) hv1) (by rw[q];exact I)
    .cases B
   .cases B
  .cases B
 .rename_i d t x q D;split at B
  .rename_i cs R hagg;injection B with B;subst B;have V:=aZ G R;simp only[gb,rep] at V;obtain⟨vs,V,hall,hone⟩:=V;refine EZ (v:= .agg vs.toArray) G (S d q) q ?_ (by simpa[Value.cells] using sZ hall) (by assumption) I;unfold execOp;rw[D];simp[Instr.box,newVar,newRow,V,Value.cells]
  .rename_i cs R hagg;cases hm:(SV.ag cs).mentions d with
   |true=>rw[hm] at B;cases B
   |false=>
   rw[hm] at B;simp only[au,aW] at B;subst B;have V:=UD (x:= .pointer (some ⟨w.heap.size,0,none⟩)) hm (aZ G R);obtain⟨vs,V,hall,hone⟩:=V;refine EZ (v:= .agg vs.toArray) G (S d q) q ?_ (by simp_all[Value.cells,tJ]) (by assumption) I;unfold execOp;rw[D];simp[Instr.box,newVar,newRow,V,Value.cells]
  .rename_i v hnot R hagg;split at B
   .rename_i hone;injection B with B;subst B;have V:=aZ G R;obtain⟨h1,hc1⟩:=WY G hone V;refine EZ (v:=a.eval x) G (S d q) q ?_ (by rw[hc1];exact⟨_,[],rfl,As V,rfl⟩) (by rw[hc1];simpa using h1) I;unfold execOp;rw[D];simp[Instr.box,newVar,newRow]
   .cases B
  .cases B
 .rename_i d t q D;cases hrw:h.rows.contains d with
  |true=>
   rw[hrw] at B;simp only[aj] at B;split at B
   .rename_i svs l hz;injection B with B;subst B;exact MS G (S d q) q D hz I
   .cases B
  |false=>
  rw[hrw] at B;simp only[au] at B;split at B
  .rename_i z hz;injection B with B;subst B;obtain⟨i,v,hi,hzv,hc⟩:=OE (μ:=μ) hz;refine EZ (v:=v) G (S d q) q ?_ (sZ hc.1) hc.2 I;unfold execOp;rw[D];simp[Instr.alloc,zeroValue,typeInfo,hi,hzv,newVar,newRow]
  .cases B
 .rename_i d t l c q D;split at B
  .rename_i e s kl nl kc nc hs hl hc;split at B
   .rename_i z i hz hi;split at B
    .rename_i F;injection B with B;subst B;exact acf G (S d q) q D hs hl hc hz hi F I
    .cases B
   .cases B
  .cases B
 .rename_i d t len parts q D;cases hby:h.ga.contains d with
  |true=>rw[hby] at B;exact SN G (S d q) q D B I
  |false=>
  rw[hby] at B;simp only[au] at B;split at B
  .rename_i e s xs hl;split at B
   .injection B with B;subst B;exact O8 G (S d q) q D hl I
   .rename_i k e' s' hn;cases hb:(Nat.blt k s&&xs.all (rG k)) with
    |false=>rw[hb] at B;cases B
    |true=>rw[hb] at B;simp only[aj,aW] at B;subst B;obtain⟨b1,b2⟩:=ql.1 hb;exact MT G (S d q) q D hl (cQ.mp b1) b2 I
  .cases B
 .rename_i t x y q D;split at B
  .rename_i id sz i off j R hy;exact Ut G q D R hy B I
  .rename_i id off j sz n R hy;exact SG G q D R hy B I
  .rename_i sa sv _ hnr R hy;exact aaa G q D R hy B I
  .cases B
 .rename_i d t r q D;split at B
  .rename_i k e hu;cases hb:vT P st r with
   |false=>simp_all
   |true=>
    rw[hb] at B;simp only[aj] at B;cases hrw:h.rows.contains d with
    |true=>
     rw[hrw] at B;simp only[aj] at B;split at B
     .split at B
      .injection B with B;subst B;exact VM G (S d q) q D hu hb I
      .cases B
     .cases B
    |false=>
    rw[hrw] at B;simp only[au,aW] at B;subst B;exact SO G (S d q) q D hu hb I
  simp_all
 .rename_i t m k x q D;cases hrm:q8 h m with
  |true=>rw[hrm] at B;exact SP G q (.inl D) B I
  |false=>rw[hrm] at B;exact E0 G q (.inl D) B I
 .rename_i t m k x q D;cases hrm:q8 h m with
  |true=>rw[hrm] at B;exact SP G q (.inr D) B I
  |false=>rw[hrm] at B;exact E0 G q (.inr D) B I
 .rename_i d t m k q D;cases hrm:q8 h m with
  |true=>rw[hrm] at B;exact Z6 G (S d q) q D B I
  |false=>rw[hrm] at B;cases B
 .rename_i d t x q D;split at B
  .rename_i s ht R;injection B with B;subst B;exact Z8 G (S d q) q D ht R I
  .cases B
 .rename_i d x q D;split at B
  .rename_i id R;split at B
   .rename_i s pos qF;refine acg G (S d q) q D R qF ?_;grind
   .cases B
  .cases B
 .rename_i d t parts q D;cases hrw:h.rows.contains d with
  |false=>rw[hrw] at B;cases B
  |true=>rw[hrw] at B;exact MU G (S d q) q D B I
 .rename_i d t x q D;cases Ya:h.take.contains d with
  |false=>rw[Ya] at B;cases B
  |true=>rw[Ya] at B;exact Nj G (S d q) q D B I
 .rename_i d g first caps q D
  cases hfi:first.isEmpty with
  |false=>rw[hfi] at B;cases B
  |true=>
   rw[hfi] at B;simp only[aj] at B;split at B
   .rename_i st1 hp;simp only[cu] at B;obtain⟨vs,hcs,rfl⟩:=B;exact O9 G (S d q) q D hfi hp hcs I
   .cases B
 .rename_i d c D;split at B
  .rename_i hc;split at B
   .rename_i d' x y t t' q H O;split at B
    .rename_i e s id sy hs R hy;split at B
     .rename_i e' sz xs sz' ys i qF hel hi;split at B
      .rename_i F;obtain⟨rfl,rfl,rfl,rfl,hpos,hby,hlen,hz,U⟩:=F;injection B with B;subst B;have ho':o.op= .call { callee:= .builtin .append,args:= #[x,y],argTypes:= #[t,t] }:=by
        rw[D];obtain⟨cal,⟨as⟩,⟨ts⟩⟩:=c;simp only at hc H O;subst hc;subst H;subst O;rfl
       refine VK G (S d' q) q ho' hs R hy qF hel hi hpos hby hlen hz ?_ I;simp only[gO,gC] at U;rcases U with hm|hm
       .left;simpa[cQ] using hm
       simp_all
      simp_all
     .rename_i e' sz k e2 s2 xs zs sz' ys i qF hel hi;split at B
      .rename_i F;obtain⟨rfl,rfl,rfl,rfl,hpos,hby,hlen,hz,U,hall⟩:=F;injection B with B;subst B;have ho':o.op= .call { callee:= .builtin .append,args:= #[x,y],argTypes:= #[t,t] }:=by
        rw[D];obtain⟨cal,⟨as⟩,⟨ts⟩⟩:=c;simp only at hc H O;subst hc;subst H;subst O;rfl
       refine SM G (S d' q) q ho' hs R hy qF hel hi hpos hby hlen hz ?_ hall I;simp only[gO,gC] at U;rcases U with hm|hm
       .simp_all
       simp_all
      simp_all
     simp_all
    .rename_i e s id sy hs R hy;split at B
     .rename_i e' sz xs sz' ys i qF hel hi;split at B
      .rename_i F;obtain⟨rfl,rfl,rfl,rfl,hpos,hby,hlen,hz,U,hne⟩:=F;injection B with B;subst B;have ho':o.op= .call { callee:= .builtin .append,args:= #[x,y],argTypes:= #[t,t] }:=by
        rw[D];obtain⟨cal,⟨as⟩,⟨ts⟩⟩:=c;subst hc;subst H;subst O;rfl
       refine SL G (S _ q) q ho' hs R hy qF hel hi hpos hby hlen hz ?_ hne I;simp[gO,gC] at U;rcases U with hm|hm
       .simp_all
       simp_all
      simp_all
     simp_all
    simp_all
   simp_all
  .grind[VL]
  .rename_i hc;split at B
   .rename_i x t q H O;split at B
    .rename_i e s id sz lo hi hs R;split at B
     .rename_i e' sz' xs z qF hz;split at B
      .rename_i F;injection B with B;subst B;exact Z5 G q D hc H O hs R qF hz F I
      .cases B
     .cases B
    .exact Pb G q D hc H O B I
    .cases B
   .cases B
  .rename_i f hc;cases how:o.dst.any h.owns.contains with
   |true=>grind[MP]
   |false=>
   rw[how] at B;replace B:=GX B;cases hw:wide st c f with
   |true=>simp only[hw,aj] at B;grind[BC]
   |false=>
   cases KQ:c.args.toList.any (λx=>(qb h st x).isSome) with
   |true=>simp only[KQ,aj] at B;grind[MQ]
   |false=>
   simp only[KQ] at B;split at B
   .rename_i st1 hp;split at B
    .split at B
     .rename_i r hr;cases V2:(c.args.toList.any (lZ st1)|| !r.jT) with
      |true=>grind
      |false=>obtain⟨μ1,h1⟩:=G1 G hp;rw[kE] at V2;grind[Km]
     simp_all
    simp_all
   simp_all
  simp_all
 simp_all
def sU:∀{l:List SV} {μ:Mu} {loc:Nat->Value} {st st':St} {a:Act} {w:World},Rel N w0 μ0 L μ loc st a w->p9 l st=some st'->∃B,μ.le B/\Rel N w0 μ0 L B loc st' a w
 |[],μ,loc,st,st',a,w,D,q=>by simp only[p9,aW] at q;subst q;exact⟨μ,Mu.le.refl _,D⟩
 |s::l,μ,loc,st,st',a,w,D,q=>by
  unfold p9 at q;split at q
  .rename_i e;cases e
  .rename_i id V e;injection e with e1 F;subst e1;subst F;obtain⟨st1,R,S⟩:=dB.1 q;obtain⟨μ1,I,G⟩:=D.dh R;obtain⟨O,z,H⟩:=sU G S;exact⟨O,I.trans z,H⟩
  .rename_i s' V U e;injection e with e1 F;subst e1;subst F;exact sU D q
def UM (z:Rel N w0 μ0 L μ loc st a w) (l:iD L.q μ0 P cr) {o:Oper} (B:∀i,o.dst=some i->i<N) (D:step0 P h cr o st=some st') (q:ng N w0 μ0 L st' K):o.uK P a w K Q:=by grind[step0,VW,Z9]
def BX:∀{l:List Nat} {st st':St} {μ:Mu} {loc:Nat->Value} {a:Act} {w:World},Rel N w0 μ0 L μ loc st a w->nR l st=some st'->∃q,μ.le q/\Rel N w0 μ0 L q loc st' a w
 |[],st,st',μ,loc,a,w,B,F=>by simp only[nR,aW] at F;subst F;exact⟨μ,Mu.le.refl _,B⟩
 |t::l,st,st',μ,loc,a,w,B,F=>by
  simp only[nR] at F;obtain⟨O,z,S⟩:=dB.1 F;obtain⟨U,I,G⟩:∃q,μ.le q/\Rel N w0 μ0 L q loc O a w:=by
   unfold qY at z;split at z
   .exact B.dh z
   .exact B.dh z
   .split at z
    .exact sU B z
    .cases z
   .injection z with z;subst z;exact⟨μ,Mu.le.refl _,B⟩
  obtain⟨R,D,H⟩:=BX G S;exact⟨R,I.trans D,H⟩
def L3 (G:Rel N w0 μ0 L μ loc st a w) (l:iD L.q μ0 P cr) {o:Oper} (H:∀i,o.dst=some i->i<N) (z:step P h cr o st=some st') (F:ng N w0 μ0 L st' K):o.uK P a w K Q:=by unfold step at z;obtain⟨I,B,D⟩:=dB.1 z;obtain⟨O,_,q⟩:=BX G B;exact UM q l H D F
def AN (D:Rel N w0 μ0 L μ loc st a w) {l:Array Oper} {o:Oper} {b:Bool} (q:qN l o st=some b):Region.wanted o (yielded l a.tmps)=b:=by
 unfold qN at q;unfold Region.wanted;split at q
 .simp_all
 .split at q
  .rename_i d F;split at q
   .rename_i t B;obtain⟨v,G,z⟩:=D.env d _ B;simp_all[gb,rep,yielded]
   .rename_i B;obtain⟨v,G,z⟩:=D.env d _ B;have z:v=undef:=z;simp_all[yielded,undef]
   simp_all
  simp_all
def QD (B:iD L.q μ0 P cr) {I:Array Oper}:∀{l:List Oper} {st:St} {μ:Mu} {loc:Nat->Value} {a:Act} {w:World},Rel N w0 μ0 L μ loc st a w->(∀o∈l,∀i,o.dst=some i->i<N)->rR P h cr I l st=some st'->
  (∀U w' O z,Rel N w0 μ0 L O z st' U w'->Q .normal U w')->∀F,Wd F->wpListIn F 0 P I Q l a w:=by
 intro l;induction l with
 |nil=>intro st μ loc a w H _ q R F G;simp only[rR,aW] at q;subst q;exact R _ _ _ _ H
 |cons o l ih=>
  intro st μ loc a w H S q R F G;simp only[rR] at q;split at q
  .rename_i b hw;have D:=AN H hw;unfold wpListIn;rw[D];cases b with
   |true=>simp only[aj] at q;simp only[gj];cases hs:step P h cr o st with
    |none=>simp[hs] at q
    |some st1=>simp[hs] at q;exact L3 H B (S o ai) hs (λU w' O z h1=>ih h1 (λp V=>S p (by simp[V])) q R F G) F G
   |false=>simp only[au] at q;simp only[eG,e8];exact⟨λf _=>G.fn f,ih (H.set (S o ai) (show gb μ loc .undef undef from rfl)) (λp V=>S p (by simp[V])) q R F G⟩
  .cases q
end
