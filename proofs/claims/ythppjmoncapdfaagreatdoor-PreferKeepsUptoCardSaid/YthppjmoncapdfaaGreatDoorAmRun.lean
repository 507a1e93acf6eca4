/- THE ABSTRACT MACHINE. -/
import Derived.Test.YthppjmoncapdfaaGreatDoorAmEff
set_option linter.all false
namespace Go.AM
open Go.RowKit
def Hr (μ:Mu) (w:World):Prop:=∀b j v,μ b j=some v->Eo w b j=some v
def jG (q:Qp) (loc:Nat->Value) (names:List Nat):rV:=⟨λid=>if id∈names then some (loc id) else none,q⟩
def Vc (loc:Nat->Value) (cE:List (Nat×Ob)):Prop:=∀i j l q,find cE i=some l->find cE j=some q->i≠j->∀g,js (loc i) g->¬js (loc j) g
structure fP (q:Qp) (μ:Mu) (loc:Nat->Value) (names:List Nat) (r:AV) (zP:List (Nat×Ob)) (w:World) (v:Value) (μ':Mu) (loc':Nat->Value) (w':World):Prop where
 ext:μ.ext w.heap.size μ'
 ur:Hr μ' w'
 res:rep μ' r v\/(∃n A m c,r= .self n/\10000∈names/\loc' 10000= .slice A m c/\n<=m/\v= .slice A n c)\/
  ∃e sz xs vs,r= .lQ [.lQ [.self e, .dH sz xs]]/\w'.ownsRow 0 e sz v xs.length vs/\cW μ' sz xs vs/\∀g,bA v=some g->w.heap.size<=g/\(∀j,μ' g j=none)/\∀id o,find zP id=some o->¬js (loc' id) g
 obs:∀id o,find zP id=some o->lT w.heap.size (jG q loc names) μ' loc' w' id o
 apart:Vc loc' zP
 keep:∀b,b<w.heap.size->¬Lj (jG q loc names) b->w'.heap[b]? =w.heap[b]?
 fix:∀id,id∈names->id<20000->loc' id=loc id
 os:w'.os=w.os
 tape:w'.tape=w.tape
 output:w'.output=w.output
 grown:w.heap.size<=w'.heap.size
 drawn:q->w.drawn<=w'.drawn
def fP.pure {q:Qp} {μ:Mu} {loc:Nat->Value} {names:List Nat} {r:AV} {l:List (Nat×Ob)} {w:World} {v:Value} {B:Mu} {z:Nat->Value} {w':World} (h:fP q μ loc names r l w v B z w') (D:r.kC=true):rep B r v:=by
 rcases h.res with h|⟨n,A,m,c,rfl,_⟩|⟨e,F,xs,G,rfl,_⟩<;>try cases D
 .exact h
def Nt {r:AV} (h:r.plain=true):r.kC=true:=by cases r with
 |self n=>cases h
 |lQ z=>
  have:z.any AV.aat=false:=by rw[qJ];intro x q l;have:=cv.1 (h) x q;cases x<;>simp[AV.aat,AV.scalar] at l this
  simp[AV.kC,this]
 |_=>rfl
def Hs (P:Program) (u:Value) (args:Array Value) (w:World) (R:Ending->World->Prop):Prop:=
 ∃(l:Nat) (f:FuncId) (z:Array Value) (q body:Code),u= .func (.yield l) #[] #[]/\(Instr.yield l args).run P w= .ok (.round l f z q body) w/\∀F,Wd F->RoundIn F (0-1) P l f z q body w R
def fO (q:Qp) (B:Mu) (P:Program) (cH:dW):Prop:=∀g args cE r l,cH g args cE=some (r,l)->∀(w:World) (μ:Mu) (loc:Nat->Value) (F:List Value),B.le μ->Hr μ w->
 (∀id o,find cE id=some o->lT w.heap.size (jG q loc (cE.map (·.1))) μ loc w id o)->Vc loc cE->iC μ loc args F->
 (g<2000000/\(∀H,(callFunc g F.toArray).run P H= .ok (.enter g F.toArray) H)/\
  Calls P g F.toArray w λe G=>∃v D z,e= .returned v/\fP q μ loc (cE.map (·.1)) r l w v D z G)\/
 (2000000<=g/\(∃xs,find cE 10000=some (.lp xs))/\∃as v,F=as++[v]/\
  Hs P (clV g [v]) as.toArray w λe G=>∃v D z,e= .returned v/\fP q μ loc (cE.map (·.1)) r l w v D z G)
def fO.noY {A B C R:Prop} {cE:List (Nat×Ob)} {D:Prop} (h:(A/\B/\C)\/(D/\(∃xs,find cE 10000=some (.lp xs))/\R)) (l:∀xs,find cE 10000≠some (.lp xs)):B/\C:=by simp_all
def fO.mono {q:Qp} {B D:Mu} {P:Program} {cH:dW} (h:fO q B P cH) (F:B.le D):fO q D P cH:=
 λg args cE r z G w μ loc H l=>h g _ _ r _ G w _ _ _ (F.trans l)
section
variable {P:Program} {N:Nat} {w0:World} {μ0:Mu} {L:rV} {μ:Mu} {loc:Nat->Value} {st st':St} {a:Act} {w:World} {Q:Exit->Act->World->Prop} {K:Act->World->Prop} {h:Hint} {cH:dW}
def EO {l:Type} {c:Bool} {x:Option l} {v:l} (h:(bif c then none else x)=some v):x=some v:=by grind
def lu {l:Type} {j i:Nat} {x v:l} (q:find [(j,x)] i=some v):i=j:=by grind[find,beq_iff]
def uT (O:Rel N w0 μ0 L μ loc st a w) {q:Mu} (l:μ.le q):∀{z:List pV} {D:List AV} {B:List Value},jQ st z=some D->j5 μ loc z B->
  (∀id,pV.r id∈z->∀b j x,js (loc id) b->Eo w b j=some x->q b j=some x)->b9 q D B
 |[],D,B,h,k,_=>by simp[jQ,aM] at h;subst h;assumption
 | .v a::z,D,B,h,⟨u,_,e,H,I⟩,G=>by subst e;simp[jQ,bY] at h;obtain⟨vs',U,rfl⟩:=h;exact bP (vf l _ _ H) (uT O l U I λid R=>G _ (by simp[R]))
 | .r _::z,D,B,h,⟨u,_,e,H,I⟩,G=>by
  subst e;simp[jQ] at h;split at h
  .rename_i v vs' U V;injection h with h;subst h;obtain⟨ob,S,F⟩:=dL.1 U;refine bP ?_ (uT O l V I λid R=>G _ (by simp[R]));have e :=H;rw[e];exact Pd (O.obs _ _ S) F l (λb j x hb hc=>G _ ah b j x hb hc)
  grind
 | .p _::z,D,B,h,_,_=>by simp[jQ] at h
def Ui (O:Rel N w0 μ0 L μ loc st a w) {s:SV} {v:AV} {u:Value} (l:me st s=some v) (I:gG μ loc s u) {F:Mu} (B:μ.le F)
  (z:∀id∈s.NJ,∀b j x,js (loc id) b->Eo w b j=some x->F b j=some x):rep F v u:=by
 cases s with
 |pv x=>simp[me,aM] at l;subst l;exact vf B _ _ I
 |row id=>obtain⟨ob,D,H⟩:=dL.1 l;have e :=I;rw[e];exact Pd (O.obs _ _ D) H B (λb j x hb R=>z _ (by simp[SV.NJ,SV.ids]) b j x hb R)
 |ag cs=>simp[me,bY] at l;obtain⟨vs,hv,rfl⟩:=l;obtain⟨us,rfl,R,h1⟩:=I;exact⟨us,rfl,uT O B hv R (λid hi=>z _ (fm.2 ⟨_,hi,rfl⟩)),h1⟩
 | «at» id q=>cases q with
  |full=>simp[me] at l
  |nr i=>
   simp[me] at l;split at l
   .rename_i e sz k U s' xs ys D;split at l
    .rename_i zs hy;obtain⟨m,us,vs,S,hm,V,hrc,hk,h2,h3,h4,h5,h6,h7⟩:=O.obs _ _ D;obtain⟨u',cells,k1,k2,k3,k4,k5⟩:=h4 i _ hy;obtain⟨m',us',e1,_,G⟩:=I;rw[S] at e1;have U:=aJ Array.toList (Value.tuple.inj e1);obtain⟨rfl,rfl⟩:=U;have hu:u'=u:=by
      rcases G _ k1 with G|G
      .subst G;rcases k3.2 with⟨e1,_⟩|⟨g,cap,cur,e1,_⟩<;>simp[undef] at e1
      .exact G
     grind[Ad,SV.NJ,jL]
    simp_all
   simp_all
 |_=>simp[me] at l
def zO {id:Nat}:∀{l:List pV} {z:List AV},jQ st l=some z->id∈(SV.ag l).ids->∃G,st.ob id=some G
 |[],_,_,h=>by simp[SV.ids] at h
 | .v a::l,z,h,q=>by simp[jQ,bY] at h;obtain⟨D,F,rfl⟩:=h;exact zO F (by assumption)
 | .r j::l,z,h,q=>by
  simp[jQ] at h;split at h
  .rename_i v D F B;simp only[SV.ids,CH,aF] at q;rcases q with rfl|q
   .grind[Option.bind_eq_some_iff]
   .exact zO B (by assumption)
  grind
 | .p j::l,z,h,_=>by simp[jQ] at h
def lend_ob {s:SV} {v:AV} (h:me st s=some v) {id:Nat} (z:id∈s.NJ):∃B,st.ob id=some B:=by cases s with
 |pv x=>simp[SV.NJ,SV.ids] at z
 |row j=>simp only[SV.NJ,SV.ids,bW] at z;subst z;obtain⟨B,l,_⟩:=dL.1 (h:(st.ob id).bind Ob.val=some v);exact⟨B,l⟩
 |ag F=>simp only[me,bY] at h;obtain⟨G,D,_⟩:=h;exact zO D z
 | «at» j q=>simp only[SV.NJ,bW] at z;subst z;cases q with
  |full=>simp[me] at h
  |nr i=>
   simp only[me] at h;split at h
   .rename_i l;exact⟨_,l⟩
   .cases h
 |_=>simp[me] at h
def Bo (I:Rel N w0 μ0 L μ loc st a w) {q:Mu} (D:μ.le q) {xs:List Operand} {G:List TypeId} {H:List AV} (h:jt P st xs G=some H)
  (l:∀x∈xs,∀t s v,bw P t st x=some s->me st s=some v->∀id∈s.NJ,∀b j x,js (loc id) b->Eo w b j=some x->q b j=some x):b9 q H (xs.map a.eval):=by
 induction xs generalizing G H with
 |nil=>simp[jt] at h;subst h;exact dg
 |cons x xs R=>
  simp only[jt] at h;split at h
  .rename_i v U z F;injection h with h;subst h;cases B:bw P (G.headD 0) st x with
   |none=>rw[B] at z;cases z
   |some S=>rw[B] at z;simp only[fH] at z;exact bP (Ui I z (aW I B) D (l x ah _ S _ B z)) (R F (λy O=>l y (by simp[O])))
  .cases h
def Yi {μ q:Mu} {r:AV} {v:Value} (h:r.plain=true) (k:rep μ r v):rep q r v:=by
 have z:∀(r:AV) (v:Value),r.scalar=true->rep μ r v->rep q r v:=λr v h k=>by cases r<;>simp[AV.scalar] at h<;>simpa[rep] using k
 cases r with
 |lQ R=>rw[rep] at k⊢;obtain⟨F,e,l⟩:=k;refine⟨F,e,?_⟩;simp only[AV.plain] at h;clear e;induction R generalizing F with
  |nil=>simpa[b9] using l
  |cons x xs O=>rw[b9] at l;obtain⟨u,B,rfl,H,I⟩:=l;simp only[gO,aI] at h;exact bP (z _ _ h.1 H) (O h.2 B I)
 |bool b=>exact z _ _ rfl k
 |int b n=>exact z _ _ rfl k
 |str s=>exact z _ _ rfl k
 |dH V xs=>simp[AV.plain,AV.scalar] at h
 |agg G=>simp[AV.plain,AV.scalar] at h
 |fn f D=>simp[AV.plain,AV.scalar] at h
 |ref G=>simp[AV.plain,AV.scalar] at h
 |mp U S=>simp[AV.plain,AV.scalar] at h
 |self n=>simp[AV.plain,AV.scalar] at h
 |DF=>simp[AV.plain,AV.scalar] at h
 |qk=>simp[AV.plain,AV.scalar] at h
 |hole=>simp[AV.plain,AV.scalar] at h
def C8 {D:Mu} {B:Nat->Value} {r:AV} {l:List (Nat×Ob)} {u:Value} {F:World} {q:Qp} (z:fP q μ loc [] r l w u D B F):Below w.heap.size w F:=
 ⟨z.os,z.tape,z.output,z.grown,λb G=>z.keep b G (by rintro⟨id,v,h,_⟩;simp[jG] at h)⟩
def Hi {o:Oper} {c:Call} {f:Operand} {g:Nat} {q l:List Value} {r:AV} {zP:List (Nat×Ob)} (S:o.op= .call c) (hc:c.callee= .value f) (hf:a.eval f= .func (.func g) #[] l.toArray)
  (H:c.args.toList.map a.eval=q) (he:∀U,(callFunc g (q++l).toArray).run P U= .ok (.enter g (q++l).toArray) U)
  {R:Value->World->Prop} (D:Calls P g (q++l).toArray w λe z=>∃v,e= .returned v/\R v z) (hK:∀v z,R v z->K (a.put o.dst v) z):o.uw P a w K Q:=by
 have B:c.args.map a.eval=q.toArray:=by rw[<-H,<-Array.toList_map]
 refine Km (λc' G=>by rw[S] at G;cases G) (x:= .enter g (q++l).toArray) (w':=w) ?_ λF O=> ?_
 .unfold execOp;rw[S];simp only[resolve,hc,hf,Deferred.ofValue,invoke,fU,kZ,gM,B];have e:(#[]++q.toArray)++l.toArray=(q++l).toArray:=ah;rw[e,he w]
 .refine⟨O.one,?_⟩;have I:CallsIn Fence.wide (0-1) P g (q++l).toArray w _:=oz.2 D;have V:CallsIn F (0-1) P g (q++l).toArray w (λe z=>∃v,e= .returned v/\R v z):=by
   have:=O;unfold Wd at this;rw[<-this] at I;exact I
  refine V.mono ?_;rintro e z ⟨v,rfl,hr⟩;exact hK v z hr
def adj {o:Oper} {c:Call} {f:Operand} {g:Nat} {z q l:List Value} (U:o.op= .call c) (hc:c.callee= .value f) (hf:a.eval f= .func (.func g) z.toArray l.toArray)
  (I:c.args.toList.map a.eval=q) (he:∀V,(callFunc g (z++(q++l)).toArray).run P V= .ok (.enter g (z++(q++l)).toArray) V)
  {R:Value->World->Prop} (G:Calls P g (z++(q++l)).toArray w λe B=>∃v,e= .returned v/\R v B) (hK:∀v B,R v B->K (a.put o.dst v) B):o.uw P a w K Q:=by
 have D:c.args.map a.eval=q.toArray:=by rw[<-I,<-Array.toList_map]
 refine Km (λc' H=>by rw[U] at H;cases H) (x:= .enter g (z++(q++l)).toArray) (w':=w) ?_ λF S=> ?_
 .unfold execOp;rw[U];simp only[resolve,hc,hf,Deferred.ofValue,invoke,fU,kZ,gM,D];have e:(z.toArray++q.toArray)++l.toArray=(z++(q++l)).toArray:=ah;rw[e,he w]
 .refine⟨S.one,?_⟩;have O:CallsIn Fence.wide (0-1) P g (z++(q++l)).toArray w _:=oz.2 G;have h2:CallsIn F (0-1) P g (z++(q++l)).toArray w (λe B=>∃v,e= .returned v/\R v B):=by
   have:=S;unfold Wd at this;rw[<-this] at O;exact O
  refine h2.mono ?_;rintro e B ⟨v,rfl,hr⟩;exact hK v B hr
def Hs.mono {u:Value} {args:Array Value} {R z:Ending->World->Prop} (h:Hs P u args w R) (S:∀e D,R e D->z e D):Hs P u args w z:=by obtain⟨l,f,B,q,body,G,H,I⟩:=h;exact⟨l,f,_,_,_,G,H,λF O=>(I F O).mono S⟩
def adk {o:Oper} {c:Call} {f:Operand} (ho:o.op= .call c) (V:c.callee= .value f) {R:Value->World->Prop}
  (O:Hs P (a.eval f) (c.args.toList.map a.eval).toArray w λe D=>∃v,e= .returned v/\R v D) (U:∀v D,R v D->K (a.put o.dst v) D):o.uw P a w K Q:=by
 obtain⟨l,g,B,q,body,hf,I,z⟩:=O;have G:c.args.map a.eval=(c.args.toList.map a.eval).toArray:=by grind
 refine Km (λc' S=>by simp_all) (x:= .round l g B q body) (w':=w) ?_ λF H=> ?_
 .simp_all[execOp,resolve,Deferred.ofValue,invoke]
 .refine⟨H.one,(z F H).mono ?_⟩;simp_all
def Ii (z:Rel N w0 μ0 L μ loc st a w) {f:Operand} {g:Nat} {l:List AV} (h:bw P 0 st f=some (.pv (.fn g l))):∃q:List Value,a.eval f= .func (.func g) #[] q.toArray/\b9 μ l q:=by have:=aW z h;assumption
theorem RO {x:Operand} (h:kI st x=false) {t:TypeId} {s:SV} {v:AV} (e:bw P t st x=some s) (l:me st s=some v):s.NJ=[]:=by cases x with
 |tmp i=>simp[bw] at e;cases s with
  |pv x=>rfl
  |row j=>simp[kI,e] at h
  |ag z=>simp[kI,e] at h
  | «at» j q=>simp[kI,e] at h
  |_=>simp[me] at l
 |const v=>simp[bw] at e;cases B:ofConst P t v<;>simp_all;subst e;rfl
 |func f=>simp[bw] at e;subst e;rfl
 |global g=>simp[bw] at e
theorem HK (F:Rel N w0 μ0 L μ loc st a w) (z:fO L.q μ0 P cH) {o:Oper} {c:Call} {f:Operand} {g:Nat} {I vs:List AV} {r:AV} (hd:∀i,o.dst=some i->i<N) (ho:o.op= .call c) (hc:c.callee= .value f)
  (hf:bw P 0 st f=some (.pv (.fn g I))) (hvs:jt P st c.args.toList c.argTypes.toList=some vs) (hr:cH g ((vs++I).map .pv) []=some (r,[]))
  (hp:(r.plain|| !(c.args.toList.any (kI st)))=true) (VJ:r.kC=true) (hK:mL N w0 μ0 L (st.set o.dst (.pv r)) K):o.uw P a w K Q:=by
 obtain⟨cs,XU,hcs⟩:=Ii F hf;cases ME:c.args.toList.any (kI st) with
 |false=>
  have q:=Bo F (Mu.le.refl _) hvs (λx hx t s v e hl id V=>by grind[RO]);obtain⟨he,hC⟩:=fO.noY (z g _ _ r _ hr w _ loc _ F.base.1 F.ur (by simp[find]) (by intro i j oi oj V;simp[find] at V) (rC (nG q hcs))) λxs=>by simp[find]
  refine Hi (R:=λv w'=>∃B l,fP L.q μ loc [] r [] w v B l w') (r:=r) (zP:=[]) ho hc XU rfl he (hC.mono ?_) ?_
  .simp
  .rintro v w' ⟨B,l,G⟩;exact hK _ _ _ _ ((F.grow G.ext G.ur (C8 G) G.drawn).set hd (G.pure VJ))
 |true=>
  have H :=by simpa[ME] using hp
  let FG :=λb=>∃id ob,st.ob id=some ob/\js (loc id) b
  have:∀b,Decidable (FG b):=λb=>Classical.propDecidable _
  let D :=λb j=>if FG b then Eo w b j else μ b j
  have R:μ.le D:=λb j v hv=>by
   by_cases hb:FG b
   .obtain⟨id,ob,S,XS⟩:=hb;have:=((F.obs _ _ S).block b XS).2.2 j;simp_all
   grind
  have U:Hr D w:=λb j v hv=>by
   by_cases hb:FG b
   .simpa[D,hb] using hv
   .exact F.ur b j v (by grind)
  have q:=Bo F R hvs (λx hx t s v e hl id V b j u hb O=>by
   obtain⟨ob,S⟩:=lend_ob hl V;have hrow:FG b:=⟨id,ob,S,hb⟩
   simpa[D,hrow] using O)
  obtain⟨he,hC⟩:=fO.noY (z g _ _ r _ hr w _ loc _ (F.base.1.trans R) U (by simp[find]) (by intro i j oi oj V;simp[find] at V) (rC (nG q (fC R _ _ hcs)))) λxs=>by simp[find]
  refine Hi (R:=λv w'=>∃B l,fP L.q D loc [] r [] w v B l w') (r:=r) (zP:=[]) ho hc XU rfl he (hC.mono ?_) ?_
  .simp
  .rintro v w' ⟨B,l,G⟩;exact hK _ _ _ _ ((F.Qw (C8 G) G.drawn).set hd (Yi H (G.pure VJ)))
def Dg (G:Rel N w0 μ0 L μ loc st a w) {xs:List Operand} {D:List AV} (h:tq st xs=some D):b9 μ D (xs.map a.eval):=by induction xs generalizing D with
 |nil=>simp_all[tq,dg]
 |cons x xs I=>cases x with
  |tmp i=>
   simp[tq] at h;split at h
   .rename_i v F B l;injection h with h;subst h;obtain⟨u,z,q⟩:=G.env i _ B
    have:a.eval (.tmp i)=u:=by simp[Act.eval,z]
    exact bP (by rw[this];exact q) (I l)
   .rename_i U F B l;injection h with h;subst h;obtain⟨u,z,q⟩:=G.env i _ B
    have:a.eval (.tmp i)=u:=by simp[Act.eval,z]
    obtain⟨b,R,S,e,H,O⟩:=q;exact bP (by rw[this];exact⟨b,_,S,e,H.1,H.2,O⟩) (I l)
   grind
  |_=>simp[tq] at h
def Df (G:Rel N w0 μ0 L μ loc st a w) {xs:List Operand} {F:List pV} (h:qg st xs=some F):j5 μ loc F (xs.map a.eval):=by induction xs generalizing F with
 |nil=>simp[qg] at h;subst h;rfl
 |cons x xs H=>cases x with
  |tmp i=>
   simp[qg] at h;split at h
   .rename_i v D B l;injection h with h;subst h;obtain⟨u,z,q⟩:=G.env i _ B
    have:a.eval (.tmp i)=u:=by simp[Act.eval,z]
    exact⟨_,_,rfl,by rw[this];exact q,H l⟩
   .rename_i O D B l;injection h with h;subst h;obtain⟨u,z,q⟩:=G.env i _ B
    have:a.eval (.tmp i)=u:=by simp[Act.eval,z]
    obtain⟨b,U,V,e,I,S⟩:=q;refine⟨_,_,rfl,?_,H l⟩;rw[this];exact⟨b,_,V,e,I.1,I.2,S⟩
   .rename_i id D B l;injection h with h;subst h;obtain⟨u,z,q⟩:=G.env i _ B
    have:a.eval (.tmp i)=u:=by simp[Act.eval,z]
    obtain⟨b,R,h2⟩:=q;exact⟨_,_,rfl,⟨b,R,by simp_all⟩,H l⟩
   grind
  |_=>simp[qg] at h
def Mn (G:Rel N w0 μ0 L μ loc st a w) {o:Oper} {g:Nat} {first l:Array Operand} {d:Nat} {I:List AV} (hd:d<N) (z:o.dst=some d) (R:o.op= .makeFunc (.func g) first l) (F:first.isEmpty=true)
  (S:vN st l.toList=some st') (B:tq st' l.toList=some I) (V:mL N w0 μ0 L (st'.set (some d) (.pv (.fn g I))) K):o.uw P a w K Q:=by
 obtain⟨U,O,q⟩:=KG G G S;have H:=Dg q B;have D :=by simpa using F
 refine ow q (λi hi=>by simp_all) ⟨.func (.func g) #[] (l.toList.map a.eval).toArray,?_,?_⟩ (by rw[z];omega)
 .unfold execOp;rw[R,D];have e:l.map a.eval=(l.toList.map a.eval).toArray:=by grind
  simp[Instr.makeFunc,e]
 .show rep _ _ _;rw[rep];simp_all
theorem DP (q:Rel N w0 μ0 L μ loc st a w) {xs:List Operand} (h:mC.gY st xs=some st'):∃l,Rel N w0 μ0 L l loc st' a w:=by induction xs generalizing st μ with
 |nil=>grind[mC.gY]
 |cons x xs H=>cases x with
  |tmp i=>
   simp[mC.gY] at h;split at h
   .rename_i id G;cases z:st.dK id with
    |none=>simp_all
    |some B=>obtain⟨D,_,F⟩:=q.dK z;grind
   grind
  |_=>grind[mC.gY]
def ET (q:Rel N w0 μ0 L μ loc st a w) {xs:List Operand} (h:mC.jf st xs=some st'):∃l,Rel N w0 μ0 L l loc st' a w:=by grind[mC.jf,DP]
def Rel.addOb (l:Rel N w0 μ0 L μ loc st a w) {id:Nat} {o:Ob} (O:st.ob id=none) (R:lT w0.heap.size L μ loc w id o)
  (z:∀j G,st.ob j=some G->∀g,js (loc id) g->¬js (loc j) g):Rel N w0 μ0 L μ loc { st with ob:=put st.ob id (some o) } a w:=by
 refine⟨l.small,l.names,l.fix,l.size,l.defers,l.env,l.ur,l.base,?_,?_,l.keep,l.os,l.tape,l.output,l.grown,l.drawn⟩
 .intro i F q;by_cases e:id=i
  .subst e;simp only[cr,aM] at q;subst q;exact R
  .exact l.obs i F (by simpa only[br _ _ e] using q)
 .intro i j F G q D B g H;by_cases S:id=i
  .subst S;simp only[br _ _ B] at D;exact z j G D g H
  .simp only[br _ _ S] at q;by_cases U:id=j
   .subst U;intro I;exact z i F q g I H
   .simp only[br _ _ U] at D;exact l.apart i j F G q D B g H
def KF (O:Rel N w0 μ0 L μ loc st a w) {locC:Nat->Value}:∀{xs:List Operand} {H:List TypeId} {F:List SV} {ids:List Nat},AR P h st xs H=some (F,ids)->(∀id∈ids,locC 10000=loc id)->iC μ locC F (xs.map a.eval):=by intro xs;induction xs with
 |nil=>intro H F ids z _;simp only[AR,aM,bz] at z;obtain⟨rfl,rfl⟩:=z;rfl
 |cons x xs S=>
  intro H F ids z B;simp only[AR] at z;split at z
  .rename_i id I D l q;simp only[aM,bz] at z;obtain⟨rfl,rfl⟩:=z;refine⟨_,_,rfl,?_,S q (λi V=>B i (by simp[V]))⟩;show a.eval x=fE (locC 10000);rw[B id ah];cases x with
   |tmp t=>simp only[oq] at l;cases R:h.jP.contains t with
    |false=>rw[R] at l;cases l
    |true=>
     simp only[R,ai] at l;split at l
     .rename_i id' U;injection l with l;subst l;obtain⟨v,z,hr⟩:=O.env t _ U
      have:a.eval (.tmp t)=v:=by simp[Act.eval,z]
      rw[this];exact hr
     .cases l
   |_=>simp[oq] at l
  .rename_i I D l q;split at z
   .rename_i v G;simp only[aM,bz] at z;obtain⟨rfl,rfl⟩:=z;exact⟨_,_,rfl,fq O G,S q B⟩
   .cases z
  .cases z
theorem Ks (V:Rel N w0 μ0 L μ loc st a w) (yN:fO L.q μ0 P cH) {o:Oper} {c:Call} {f:Operand} {st1:St} (hd:∀i,o.dst=some i->i<N) (ho:o.op= .call c) (hc:c.callee= .value f)
  (H:oS P h cH st c f o.dst=some st1) (hK:mL N w0 μ0 L st1 K):o.uw P a w K Q:=by
 unfold oS at H;split at H
 .rename_i g caps vs id hf hvs;split at H
  .rename_i e sz xs r6;split at H
   .rename_i r' nm z D l hr;cases hb:(Nat.beq e z&&Nat.beq sz D&&Nat.beq nm 10000) with
    |false=>simp[hb] at H
    |true=>
     simp only[hb,ai] at H;simp only[aI] at hb;obtain⟨cs,XU,hcs⟩:=Ii V hf;let B:Nat->Value:=λ_=>loc id
     have hok:=V.obs id _ r6;have hargs:=KF V (locC:=B) hvs (λi hi=>by simp at hi;subst hi;rfl);have aaf:∀i oi,find [(10000,Ob.row e sz xs)] i=some oi->lT w.heap.size (jG L.q B ([(10000,Ob.row e sz xs)].map (·.1))) μ B w i oi:=by intro i oi hi;simp only[find] at hi;cases hb':Nat.beq 10000 i with
      |false=>simp[hb'] at hi
      |true=>simp only[hb',ai,aM] at hi;subst hi;have:=beq_iff.1 hb';subst this;obtain⟨us,O,hrc,hm⟩:=hok;refine⟨us,O,hrc,λq U=>⟨.inr ⟨loc id,by simp[jG,B],U⟩,(hm q U).2⟩⟩
     obtain⟨he,hC⟩:=fO.noY (yN g _ _ r' _ hr w μ B (c.args.toList.map a.eval++cs) V.base.1 V.ur aaf (by
      intro i j oi oj hi hj hij;have h1:=lu hi;have h2:=lu hj
      omega) (pe hargs (rC hcs))) λxs h=>by simp[find] at h
     refine Hi (R:=λv w'=>∃R G,fP L.q μ B ([(10000,Ob.row e sz xs)].map (·.1)) r' [(nm,Ob.row z D l)] w v R G w') (r:=r') (zP:=[]) ho hc XU rfl he (hC.mono ?_) ?_
     .rintro e w' ⟨v,R,G,rfl,I⟩;exact⟨v,rfl,R,G,I⟩
     .rintro v w' ⟨R,G,I⟩;have hlb:∀b,Lj (jG L.q B ([(10000,Ob.row e sz xs)].map (·.1))) b->js (loc id) b:=by
       rintro b ⟨i,x,F,XT⟩;simp only[jG] at F;split at F
       .injection F with F;subst F;exact XT
       .cases F
      have h1:=(V.drop id).world (w':=w') (μ':=R) I.ext.1 (λb j x F=>by
        rcases I.ext.2 b j x F with F|F
        .exact .inl F
        .exact .inr (dz V.grown F)) I.ur (λk ok hk b hbk=>by
        by_cases z:id=k
        .subst z;simp[cr] at hk
        .simp only[br _ _ z] at hk;obtain⟨_,hlt,xw⟩:=(V.obs k ok hk).block b hbk;refine⟨I.keep b hlt (λhl=>V.apart id k _ ok r6 hk z b (hlb b hl) hbk),λj=> ?_⟩;cases hj:R b j with
         |none=>rfl
         |some x=>
          rcases I.ext.2 b j x hj with F|F
          .rw[xw j] at F;cases F
          .omega) (λb hb' hl=>I.keep b (eM hb' V.grown) (λhl'=>by
        have hbb:=hlb b hl';rcases(hok.block b hbb).1 with F|⟨x,F,XT⟩
        .omega
        .exact hl ⟨id,x,F,XT⟩)) I.os I.tape I.output I.grown I.drawn
      have hnm:G nm=loc id:=by have:=beq_iff.1 hb.2;exact I.fix nm (by simp[this]) af
      obtain⟨us,O,hrc,hm⟩:=I.obs nm (.row z D l) (by simp[find,fV]);rw[hnm] at O hm;split at H
      .rename_i n;cases Sk:(Nat.ble n l.length&&iG id) with
       |false=>rw[Sk] at H;cases H
       |true=>
       simp only[Sk,ai,aM] at H;subst H;simp only[aI] at Sk;have hnl:n<=l.length:=di Sk.1;obtain⟨A,m,cp,S,hnm',hvv⟩:∃A m cp,G 10000= .slice A m cp/\n<=m/\v= .slice A n cp:=by
        rcases I.res with F|⟨n',A,m,cp,e1,_,h1,h2,h3⟩|⟨_,_,_,_,e1,_⟩
        .rw[rep] at F;exact F.elim
        .injection e1 with e1;subst e1;exact⟨A,m,cp,h1,h2,h3⟩
        .cases e1
       have e10:=beq_iff.1 hb.2;rw[e10] at hnm;rw[hnm] at S;have hid:id<10000\/20000<=id:=by
        have Iq:=Sk.2;simp only[iG,fo] at Iq;rcases Iq with hm|hm
        .left;simpa[cC] using hm
        .right;exact di (aI _ _▸hm).1
       have hblk:∀q,js v q↔js (loc id) q:=λq=>by rw[hvv,S,gZ,gZ];cases A<;>rfl
       have h2:=h1.new (id:=id) (val:=v) (o:= .row z D (l.take n)) hid ?_ (λj oj hj hne q U=>by
        simp only[br _ _ (cN hne)] at hj
        exact V.apart id j _ oj r6 hj (cN hne) q ((hblk q).1 U))
       .have heq:(St.new { env:=st.env,ob:=put st.ob id none } id (.row z D (l.take n)))=st.new id (.row z D (l.take n)):=by
         simp only[St.new,St.dF];congr 1;funext k;by_cases z:id=k
         .subst z;simp[cr]
         .simp only[br _ _ z]
        rw[heq] at h2;exact hK _ _ _ _ (h2.set hd (sv:= .row id) (Jo (by rw[hvv];rfl)))
       .have hlen:(l.take n).length=n:=aD;have XX:=sJ hrc n;refine⟨us.take (n *D),⟨by rw[de XX],?_⟩,XX,λq U=> ?_⟩
        .rw[cu,hlen,hvv];rcases O.2 with⟨e1,e2⟩|⟨q,cap,cur,e1,k1,k2,k3,k4,k5,k6⟩
         .rw[S] at e1;simp only[Value.slice.injEq] at e1;obtain⟨rfl,rfl,rfl⟩:=e1
          have:n=0:=af
          subst this;exact .inl ⟨rfl,rfl⟩
         .rw[S] at e1;simp only[Value.slice.injEq] at e1;obtain⟨rfl,rfl,rfl⟩:=e1;refine .inr ⟨q,cp,cur,rfl,k1,k2,by omega,k4,k5,?_⟩;rw[<-k6,List.take_take,zu (jx _ hnl)]
        .rw[cu,hblk q] at U;exact⟨(hok.block q U).1,(hm q U).2⟩
      .rename_i VJ;cases Qy:r'.plain with
       |false=>rw[Qy] at H;cases H
       |true=>
       simp only[Qy,ai,aM] at H;subst H;have Gt:lT w0.heap.size L R loc w' id (.row z D l):=⟨us,O,hrc,λq U=>⟨(hok.block q U).1,(hm q U).2⟩⟩
       have h2:=h1.addOb (id:=id) (o:= .row z D l) (by simp[cr]) Gt (λj oj hj q U=>by
        by_cases z:id=j
        .subst z;simp[cr] at hj
        .simp only[br _ _ z] at hj
         exact V.apart id j _ oj r6 hj z q U)
       have heq:({ env:=st.env,ob:=put (put st.ob id none) id (some (.row z D l)) }:St)={ env:=st.env,ob:=put st.ob id (some (.row z D l)) }:=by
        congr 1;funext k;by_cases z:id=k
        .subst z;simp[cr]
        .simp only[br _ _ z]
       rw[heq] at h2;exact hK _ _ _ _ (h2.set hd (I.pure (Nt Qy)))
   .cases H
  .cases H
 .cases H
def Qm {n0:Nat} {nst:List (Nat×Nat×TypeId×Nat)} {id:Nat} {e:TypeId} {sz:Nat} {loc:Nat->Value}:∃val,fE val= .slice none 0 0/\(∀g,¬js val g)/\lT n0 L μ (rL loc id val) w id (Du nst id e sz):=by
 have r:∃val,fE val= .slice none 0 0/\(∀g,¬js val g)/\lT n0 L μ (rL loc id val) w id (.row e sz []):=
  ⟨.slice none 0 0,rfl,λg l=>by simp[js,bA] at l,[],⟨ah, .inl ⟨cu _ _ _,rfl⟩⟩,rfl,λg l=>by rw[cu] at l;simp[js,bA] at l⟩
 unfold Du;split
 .rename_i k F G _;cases z:Nat.blt k sz with
  |false=>exact r
  |true=>
   refine⟨.tuple (.slice none 0 0::([]:List Value)).toArray,rfl,λg l=> ?_, .slice none 0 0,[],[],cu _ _ _,λq B=>(by simp[bA] at B),⟨ah, .inl ⟨rfl,rfl⟩⟩,rfl,⟨cC.mp z,ah⟩,rfl,rfl,by simp,by simp,by simp,ah⟩;rcases jL.1 l with h|⟨u,D,_⟩
   .simp[bA] at h
   .simp at D
 .exact r
def sC (U:Rel N w0 μ0 L μ loc st a w) {z:List (Nat×Nat×TypeId×Nat)}:∀(l:List (Nat×TypeId×Nat)) (st:St) (loc:Nat->Value),Rel N w0 μ0 L μ loc st a w->(∀x∈l,x.1<10000)->
  ∃q,Rel N w0 μ0 L μ q (um z l st) a w/\(∀x∈l,fE (q x.1)= .slice none 0 0)/\∀i,fE (loc i)= .slice none 0 0->fE (q i)= .slice none 0 0
 |[],st,loc,h,_=>⟨loc,h,by simp,λ_ h=>h⟩
 |(id,e,s)::l,st,loc,h,I=>by
  obtain⟨val,H,D,F⟩:=Qm (L:=L) (μ:=μ) (w:=w) (n0:=w0.heap.size) (nst:=z) (id:=id) (e:=e) (sz:=s) (loc:=loc);have O:=h.new (id:=id) (val:=val) (o:=Du z id e s) (.inl (I (id,e,s) ah)) F (λj oj hj _ g V=>absurd V (D g));obtain⟨q,R,S,G⟩:=sC U l _ _ O (λx B=>I x (by simp[B]));refine⟨q,R,λx B=> ?_,λi hi=>G i ?_⟩
  .rcases aF.1 B with rfl|B
   .exact G _ (by rw[cu];exact H)
   .exact S x B
  .by_cases e:i=id
   .subst e;rw[cu];exact H
   .rw[cF _ _ e];exact hi
def vX {d:Nat}:∀(j:Nat) (U:List TypeId) (H:List Value) (z:List SV) (l:List (Nat×TypeId×Nat)),uh P d j U H=some (z,l)->
  (∀x∈l,x.1<10000)/\(∀u∈H,u.oneCell'=true)/\∀(loc:Nat->Value),(∀x∈l,fE (loc x.1)= .slice none 0 0)->iC μ loc z H
 |j,[],[],z,l,q=>by simp only[uh,aM,bz] at q;obtain⟨rfl,rfl⟩:=q;exact⟨ah,by simp,λ_ _=>rfl⟩
 |j,[],_::_,z,l,q=>by simp[uh] at q
 |j,_::_,[],z,l,q=>by simp[uh] at q
 |j,t::U,v::H,z,l,q=>by
  simp only[uh] at q;split at q
  .rename_i G l' B;obtain⟨V,i2,i3⟩:=vX (j+1) U H G l' B;split at q
   .rename_i e s hs;cases I:(Nat.blt 0 s&&Nat.blt (5000+16 *d+j) 10000) with
    |false=>rw[I] at q;cases q
    |true=>
     simp only[I,ai,aM,bz] at q;obtain⟨rfl,rfl⟩:=q;simp only[aI] at I;have S:5000+16 *d+j<10000:=by have:=I.2;simpa[cC] using this
     refine⟨λx F=> ?_,λu D=> ?_,λloc R=> ?_⟩
     .rcases aF.1 F with rfl|F
      .exact S
      .exact V x F
     .rcases aF.1 D with rfl|D
      .rfl
      .exact i2 u D
     .exact⟨_,_,rfl,(by show _=fE (loc _);rw[R (5000+16 *d+j,e,s) ah]),i3 loc (λx F=>R x (by simp[F]))⟩
   .simp only[bY,bz] at q;obtain⟨av,O,rfl,rfl⟩:=q;have hr:=vL (μ:=μ) O;refine⟨V,λu D=> ?_,λloc R=>⟨_,_,rfl,hr,i3 loc R⟩⟩;rcases aF.1 D with rfl|D
    .unfold ofConst at O;split at O<;>first|rfl|cases O
    .exact i2 u D
  .cases q
def Kv (G:Rel N w0 μ0 L μ loc st a w) {o:Oper} {d:Nat} {t:TypeId} {B:List SV} {l:List (Nat×TypeId×Nat)} (hd:d<N) (z:o.dst=some d) (ho:o.op= .alloc t)
  (hz:((AD P t).bind λI=>uh P d 0 (vz P 8 t) I)=some (B,l)) (V:mL N w0 μ0 L (((um h.nest l st).new d (.box t (B.map (SV.dF d)))).set (some d) (.ptr d 0)) K):o.uw P a w K Q:=by
 obtain⟨I,q,F⟩:=dL.1 hz;unfold AD at q;split at q
 .simp at q;obtain⟨v,hzv,rfl⟩:=q;obtain⟨O,R,S⟩:=vX 0 _ _ _ _ F;obtain⟨H,D,U,_⟩:=sC G l _ _ G O;refine Dj D hd z ?_ (Ab _ _ (S _ U)) R V;simp_all[execOp,Instr.alloc,zeroValue,typeInfo,newVar,newRow]
 simp_all
def Ns (D:Rel N w0 μ0 L μ loc st a w) {s:SV} {l:List SV} {u:Value} (h:UE st s=some l) (k:gG μ loc s u):iC μ loc l u.cells.toList/\∀x∈u.cells.toList,x.oneCell'=true:=by
 unfold UE at h;split at h
 .injection h with h;subst h;obtain⟨F,rfl,B,q⟩:=k;simp_all[Value.cells,rC]
 .cases z:rj st s with
  |false=>simp_all
  |true=>rw[z] at h;simp at h;subst h;obtain⟨B,q⟩:=UB D z k;rw[q];exact⟨⟨_,[],rfl,k,rfl⟩,by simp_all⟩
def FB (U:Rel N w0 μ0 L μ loc st a w) {place:Nat->Option (Nat×Nat)} {ty:Nat->TypeId}:∀{q:List (Nat×Operand)} {S:List (Nat×List SV)} {cells O:List SV} {I:List Value},DK P ty st q=some S->Qf place cells S=some O->iC μ loc cells I->(∀u∈I,u.oneCell'=true)->
  ∃ws:List Value,Instr.fill place I.toArray (q.map λp=>(p.1,a.eval p.2))=some ws.toArray/\iC μ loc O ws/\∀u∈ws,u.oneCell'=true
 |[],S,cells,O,I=>λG H R h4=>by simp_all[DK,Qf,Instr.fill]
 |(i,x)::q,S,cells,O,I=>λG H R h4=>by
  simp[DK] at G;split at G
  .rename_i l rest hx D;injection G with G;subst G;obtain⟨sx,V,hl⟩:=dL.1 hx;obtain⟨hc,hone⟩:=Ns U hl (aW U V);simp only[Qf] at H;split at H
   .cases H
   .rename_i F size Qy;split at H
    .rename_i z;have hlen :=by
      have:=pg hc;simpa[z.1] using this
     have hvl:=pg R;have B:=pe (pe (Cm R F) hc) (Cl R (F+size));obtain⟨ws,hw,hr,ho⟩:=FB U D H B (λu hu=>by grind);simp[aR,Instr.fill];have hsp:=Gb I (a.eval x).cells.toList F 0 aD;grind[Array.toList_zipIdx]
    simp_all
  simp_all
def Bi:∀{D:List SV} {l:List pV} {B:List Value},Dd st D=some l->iC μ loc D B->j5 μ loc l B
 |[],l,B=>λh k=>by simp[Dd,aM] at h;subst h;exact k
 |s::D,l,B=>λh ⟨u,O,e,F,I⟩=>by
  simp[Dd] at h;split at h
  .rename_i c G q z;injection h with h;subst h;refine⟨u,O,e,?_,Bi z I⟩;unfold capOf at q;cases H:rj st s with
   |false=>simp_all
   |true=>
    rw[H] at q;split at q
    .injection q with q;subst q;exact F
    .injection q with q;subst q;exact F
    simp_all
  grind
def Kx (V:Rel N w0 μ0 L μ loc st a w) {hh:Hint} {o:Oper} {d:Nat} {t:TypeId} {q:Array (Nat×Operand)} (hd:d<N) (F:o.dst=some d) (ho:o.op= .build t q) (h:Ev P hh st d t q.toList=some st') (hK:mL N w0 μ0 L st' K):o.uw P a w K Q:=by
 unfold Ev at h;split at h
 .rename_i U svs l hu hz;cases G:U.toList.all (λf=>(kL P f.type).isSome) with
  |false=>simp_all
  |true=>
   rw[G] at h;simp only[ai] at h;split at h
   .rename_i ps R;split at h
    .rename_i cs O;injection h with h;subst h;obtain⟨sv2,hf,I⟩:=dL.1 O;obtain⟨vs,z,B⟩:=dL.1 hz;unfold AD at z;split at z
     .rename_i i hi;simp only[bY] at z;obtain⟨v,hzv,rfl⟩:=z;obtain⟨h1,h2,h3⟩:=vX 0 _ _ _ _ B;obtain⟨loc',D,h4,_⟩:=sC V l _ _ V h1;obtain⟨ws,hw,hr,H⟩:=FB D R hf (h3 _ h4) h2;refine gH (v:= .agg ws.toArray) (w':=w) ?_ ?_
      .obtain⟨S⟩:=U;have Qy:=run_places (w:=w) _ G;have hpe:(λx=>Option.map (λf:Field=>(f.offset,(kL P f.type).getD 0)) S[x]?)=ot P t:=by
        funext x;simp[ot,vD,hu,Fj];cases hx:S[x]? with
        |none=>rfl
        |some fd=>grind[Option.isSome_iff_exists]
       simp_all[execOp,Instr.build,zeroValue,typeInfo,bI]
      .rw[F];exact hK _ _ _ _ (D.set (λi hi=>by simp_all) ⟨ws,rfl,Bi I hr,H⟩)
     simp_all
    grind
   grind
 grind
def uM:∀{l:List Nat},distinct l=true->l.Nodup
 |[],_=>List.nodup_nil
 |x::l,h=>by simp[distinct,aI] at h;refine fu.2 ⟨λq=> ?_,uM h.2⟩;simp_all
def ux {q:Type}:∀{l:List (Nat×q)} {i:Nat} {v:q},find l i=some v->(i,v)∈l
 |[],_,_,h=>by simp[find] at h
 |(j,u)::l,i,v,h=>by simp[find] at h;cases z:Nat.beq j i with
  |true=>simp_all
  |false=>simp[z] at h;exact er _ (ux h)
def K6 {z:Type}:∀{l:List (Nat×z)} {i:Nat},find l i=none->i∉l.map (·.1)
 |[],_,_=>by simp
 |(j,u)::l,i,h=>by simp[find] at h;cases q:Nat.beq j i with
  |true=>simp_all
  |false=>simp[q] at h;simp only[aR,aF,jS];exact⟨λe=>by simp_all,K6 h⟩
def oV {z:Type}:∀{l:List (Nat×z)} {i:Nat} {v:z},(l.map (·.1)).Nodup->(i,v)∈l->find l i=some v
 |[],_,_,_,h=>by simp at h
 |(j,u)::l,i,v,q,h=>by
  simp at q;simp[find];rcases aF.1 h with h|h
  .simp_all
  .have:j≠i:=λe=>by simp_all
   rw[Ze this];exact oV q.2 h
def sZ (q:Nat->Bool):∀(k:Nat) (l:List Nat),(jH q k l).map (·.1)=l
 |_,[]=>rfl
 |k,id::l=>by simp[jH,sZ _ _ l]
def wq (q:Nat->Bool):∀(k:Nat) (l:List Nat),k+l.length<=10000->∀p∈jH q k l,(q p.1=true->20000+k<=p.2)/\(q p.1=false->10000+k<=p.2/\p.2<20000)
 |_,[],_,p,h=>by simp[jH] at h
 |k,id::l,z,p,h=>by
  simp only[bg] at z;simp only[jH,aF] at h;rcases h with rfl|h
  .cases B:q id<;>simp[B]<;>omega
  .have:=wq q (k+1) l af p h;exact⟨λe=>by have:=this.1 e;omega,λe=>by have:=this.2 e;omega⟩
def wm (q:Nat->Bool):∀(k:Nat) (l:List Nat),k+l.length<=10000->((jH q k l).map (·.2)).Nodup
 |_,[],_=>by simp[jH]
 |k,id::l,F=>by simp only[bg] at F;simp only[jH,aR,fu];refine⟨λG=> ?_,wm q (k+1) l af⟩;obtain⟨p,H,e⟩:=aC.1 G;have:=wq q (k+1) l af p H;cases B:q p.1 with
  |true=>have D:=this.1 B;cases z:q id<;>simp[z] at e<;>omega
  |false=>have D:=this.2 B;cases z:q id<;>simp[z] at e<;>omega
def JB:∀(m:List (Nat×Nat)),(swap m).map (·.1)=m.map (·.2)
 |[]=>rfl
 |(a,b)::l=>by simp[swap,JB l]
def IM:∀{m:List (Nat×Nat)} {a b:Nat},(a,b)∈m->(b,a)∈swap m
 |(x,y)::l,a,b,h=>by
  rcases aF.1 h with h|h
  .injection h with q z;subst q;subst z;simp[swap]
  .simp only[swap];exact er _ (IM h)
def z8 {loc l:Nat->Value} {G:Nat->Nat} {names:List Nat} (q:∀j∈names,l (G j)=loc j):∀{z:List pV} {D:List Value},SV.closed names (.cl 0 z)=true->j5 μ loc z D->j5 μ l (z.map (pV.tj G)) D
 |[],D,_,h=>h
 |c::z,D,B,⟨u,R,e,F,H⟩=>by simp only[SV.closed,gO,aI] at B;refine⟨u,R,e,?_,z8 q (by simpa[SV.closed] using B.2) H⟩;cases c with
  |v a=>exact F
  |p id=>obtain⟨b,I,O⟩:=F;exact⟨b,by rw[q id (by simpa using B.1)];exact I,O⟩
  |r id=>show u=fE (l (G id));rw[q id (by simpa using B.1)];exact F
def RJ {loc loc':Nat->Value} {ρ:Nat->Nat} {names:List Nat} (l:∀j∈names,loc' (ρ j)=loc j) {s:SV} {v:Value} (B:s.closed names=true) (h:gG μ loc s v):gG μ loc' (s.tj ρ) v:=by induction s generalizing v with
 |two s b O=>obtain⟨x,e,h⟩:=h;exact⟨x,e,O (by simpa[SV.closed] using B) h⟩
 |undef=>exact h
 |any=>exact h
 |pv x=>exact h
 |cp S=>exact h
 |ptr j G=>obtain⟨b,z,D⟩:=h;exact⟨b,by rw[l j (by simpa[SV.closed] using B)];exact z,D⟩
 |row j=>show v=fE (loc' (ρ j));rw[l j (by simpa[SV.closed] using B)];exact h
 |rp j R i G=>obtain⟨g,n,c,z,D⟩:=h;exact⟨g,n,c,by rw[l j (by simpa[SV.closed] using B)];exact z,D⟩
 |sub j R V U=>obtain⟨A,n,c,I,c',z,D⟩:=h;exact⟨A,n,c,I,c',by rw[l j (by simpa[SV.closed] using B)];exact z,D⟩
 |cl f F=>obtain⟨H,e,z⟩:=h;exact⟨H,e,z8 l (by simpa[SV.closed] using B) z⟩
 |ag F=>obtain⟨H,e,z,D⟩:=h;exact⟨H,e,z8 l (by simpa[SV.closed] using B) z,D⟩
 | «at» j q=>simp[SV.closed] at B
def EV {loc l:Nat->Value} {F:Nat->Nat} {names:List Nat} (q:∀j∈names,l (F j)=loc j):∀{z:List SV} {B:List Value},z.all (SV.closed names)=true->iC μ loc z B->iC μ l (z.map (SV.tj F)) B
 |[],B,_,h=>h
 |c::z,B,D,⟨u,I,e,G,H⟩=>by simp only[gO,aI] at D;exact⟨u,I,e,RJ q D.1 G,EV q D.2 H⟩
def I4 {n0 n0':Nat} {L L':rV} {loc loc':Nat->Value} {ρ:Nat->Nat} {names:List Nat} (O:∀j∈names,loc' (ρ j)=loc j) {id id':Nat} {o:Ob} (H:o.closed names=true) (h:lT n0 L μ loc w id o) (hid:loc' id'=loc id)
  (l:∀b,js (loc id) b->ES n0' L' id' b) (hq:L'.q=L.q:=by rfl):lT n0' L' μ loc' w id' (o.tj ρ):=by
 cases o with
 |box t cells=>obtain⟨b,F,q,S,B,z,hs,D⟩:=h;exact⟨b,F,by simp_all,l b (by rw[q];exact qb.2 rfl),B,z,EV O H hs,D⟩
 |row e sz xs=>obtain⟨F,hw,I,z⟩:=h;exact⟨F,by simp_all,I,λg V=>by simp_all⟩
 |mp k e ks es=>obtain⟨b,cM,G,q,S,B,z,D,R,U⟩:=h;exact⟨b,_,_,by simp_all,l b (by rw[q];exact uj.2 rfl),B,z,D,R,U⟩
 |mr k e sz ks F=>simp[Ob.closed] at H
 |rn e s k e' s' xs ys=>simp[Ob.closed] at H
 |it s pos=>obtain⟨b,q,S,B,z⟩:=h;exact⟨b,by simp_all,l b (by rw[q];exact qb.2 rfl),B,z⟩
 |lp xs=>obtain⟨us,q,D,R⟩:=h;exact⟨us,by simp_all,λg V=>by simp_all,by simp_all⟩
def DQ {tm:Nat->Option Value}:∀(l:List Nat) (st:St) (loc q:Nat->Value),(∀i,i∉l->q i=loc i)->(∀i s,st.env i=some s->∃v,tm i=some v/\gG μ loc s v)->∀i s,(kF l st).env i=some s->∃v,tm i=some v/\gG μ q s v
 |[],st,loc,q,B,h,i,s,z=>by
  have :=funext λi=>B i ah
  rw[this];exact h i s z
 |id::l,st,loc,q,B,h,i,s,z=>by
  refine DQ l _ (rL loc id (q id)) _ (λi D=> ?_) (λi s z=> ?_) i s z
  .grind[cu,cF]
  .simp[St.dF,bY] at z;grind[yy]
def FY:∀(l:List Nat) (st:St) (loc q:Nat->Value),(∀i,i∉l->q i=loc i)->∀i B,(kF l st).ob i=some B->i∉l/\∃o,st.ob i=some o/\∀D L μ w,lT D L μ loc w i o->lT D L μ q w i B
 |[],st,loc,q,G,i,B,z=>by
  have :=funext λi=>G i ah
  rw[this];exact⟨ah,B,z,λ_ _ _ _ h=>h⟩
 |id::l,st,loc,q,G,i,B,z=>by
  obtain⟨I,R,F,H⟩:=FY l _ (rL loc id (q id)) q (λi O=>by grind[cu,cF]) i _ z;by_cases e:id=i
  .simp_all[St.dF,cr]
  .simp[St.dF,br _ _ e,bY] at F;obtain⟨o,z,rfl⟩:=F;exact⟨by grind,o,z,λD L μ w h=>H _ L _ w (Cf h (cN e))⟩
def C6 (F:Rel N w0 μ0 L μ loc st a w):∀{xs:List Operand} {z:List TypeId} {q:List SV},tn P h st xs z=some q->iC μ loc q (xs.map a.eval)
 |[],z,q,l=>by simp[tn,aM] at l;subst l;rfl
 |x::xs,z,q,l=>by
  simp[tn] at l;split at l
  .rename_i v G B D;injection l with l;subst l;refine⟨_,_,rfl,?_,C6 F D⟩;unfold Zc at B
   all_goals first
    |grind[aW]
    |cases B
    |(cases H:isRef h x with
      |false=>simp_all
      |true=>grind[aW])
  simp_all
def Bp {ids:List Nat} {F:Nat->Nat}:∀{l:List (Nat×Nat)} {cE:List (Nat×Ob)},lD st ids F l=some cE->cE.map (·.1)=l.map (·.2)/\∀B D,(B,D)∈cE->∃id o,(id,B)∈l/\st.ob id=some o/\o.closed ids=true/\D=o.tj F
 |[],cE,z=>by simp_all[lD]
 |(id,B)::l,cE,z=>by
  simp[lD] at z;split at z
  .rename_i o R O q;cases I:o.closed ids with
   |false=>simp_all
   |true=>obtain⟨G,H⟩:=Bp q;grind
  simp_all
def Bf {names:List Nat} {G:Nat->Nat}:∀{l:List (Nat×Nat)} {cE back:List (Nat×Ob)},nP names G l cE=some back->cE.map (·.1)=l.map (·.2)/\back.map (·.1)=l.map (·.1)/\∀id F,(id,F)∈back->∃z o,(id,z)∈l/\(z,o)∈cE/\o.closed names=true/\F=o.tj G
 |[],[],back,q=>by simp_all[nP]
 |[],_::_,back,q=>by simp[nP] at q
 |_::_,[],back,q=>by simp[nP] at q
 |(id,z)::l,(D,o)::S,back,q=>by simp[nP] at q;cases B:(Nat.beq z D&&o.closed names) with
  |false=>simp_all
  |true=>simp[B,ai,bY] at q;obtain⟨r,H,rfl⟩:=q;simp only[aI] at B;have:=beq_iff.1 B.1;obtain⟨I,O,R⟩:=Bf H;grind
theorem zG (S:Rel N w0 μ0 L μ loc st a w) (yN:fO L.q μ0 P cH) {o:Oper} {c:Call} {f:Operand} {st1:St} (hd:∀i,o.dst=some i->i<N) (ho:o.op= .call c) (hc:c.callee= .value f)
  (hv:jy P h cH st c f o.dst=some st1) (hK:mL N w0 μ0 L st1 K):o.uw P a w K Q:=by
 unfold jy at hv;split at hv
 .rename_i g pre caps vs hf hvs;simp only[] at hv;generalize hids:ku st 200 ((pre++(vs++caps)).flatMap SV.ids) []=ids at hv;generalize Iq:lE (o.dst.any h.stay.contains) st (pQ (pre++(vs++caps)))=mv at hv;generalize hm:jH mv 0 ids=m at hv;cases yO:(distinct ids&&Nat.blt ids.length 10000&&(pre++(vs++caps)).all (SV.closed ids)) with
  |false=>rw[yO] at hv;cases hv
  |true=>
  simp only[yO,ai] at hv;simp only[aI] at yO;obtain⟨⟨hdis,hlen⟩,hclo⟩:=yO;have hlen:ids.length<10000:=by simpa[cC] using hlen
  have hnd:=uM hdis;have YI:m.map (·.1)=ids:=by rw[<-hm];exact sZ _ _ _
  have hrange:∀p∈m,(mv p.1=true->20000<=p.2)/\(mv p.1=false->10000<=p.2/\p.2<20000):=by rw[<-hm];intro p z;have:=wq mv 0 ids af p z;exact⟨λe=>by have:=this.1 e;omega,λe=>by have:=this.2 e;omega⟩
  have hnn:(m.map (·.2)).Nodup:=by rw[<-hm];exact wm mv 0 ids af
  have hget:∀id l,(id,l)∈m->find m id=some l:=λid l z=>oV (by rw[YI];exact hnd) z
  have I:∀id l,(id,l)∈m->find (swap m) l=some id:=λid l z=>oV (by rw[JB];exact hnn) (IM z)
  have hex:∀id∈ids,∃l,(id,l)∈m:=λid hid=>by rw[<-YI] at hid;obtain⟨p,z,rfl⟩:=aC.1 hid;exact⟨p.2,z⟩
  let R:Nat->Value:=λl=>match find (swap m) l with
   |some id=>loc id
   |none=>loc l
  have H:∀id l,(id,l)∈m->R l=loc id:=λid l z=>by simp only[R,I id l z]
  have hren:∀id l,(id,l)∈m->qG m id=l:=λid l z=>by simp[qG,hget id l z]
  have hren2:∀id l,(id,l)∈m->qG (swap m) l=id:=λid l z=>by simp[qG,I id l z]
  have hρ:∀j∈ids,R (qG m j)=loc j:=λj hj=>by obtain⟨l,z⟩:=hex j hj;rw[hren j l z,H j l z]
  split at hv
  .rename_i cE aaf;obtain⟨hl1,hl2⟩:=Bp aaf;have hlnd:(cE.map (·.1)).Nodup:=by rw[hl1];exact hnn
   split at hv
   .rename_i r O hr;split at hv
    .rename_i back hback;obtain⟨hb1,Ph,hb3⟩:=Bf hback;have hbnd:(O.map (·.1)).Nodup:=by rw[hb1];exact hnn
     have hbid:back.map (·.1)=ids:=by rw[Ph,YI]
     cases VJ:r.kC with
     |false=>rw[VJ] at hv;cases hv
     |true=>
     simp only[VJ,ai,aM] at hv;subst hv;obtain⟨sf,hsf,B⟩:=dL.1 hf;have hfv:=aW S hsf;obtain⟨ps,cs,hps,hcs,XU⟩:∃ps cs:List Value,iC μ loc pre ps/\iC μ loc caps cs/\((g<2000000/\a.eval f= .func (.func g) ps.toArray cs.toArray)\/(2000000<=g/\ps=[]/\∃v,cs=[v]/\a.eval f=clV g [v])):=by
      unfold fnSV at B;split at B
      .rename_i g' caps';cases hb:Nat.blt g' 1000000 with
       |false=>rw[hb] at B;cases B
       |true=>
       rw[hb] at B;simp only[ai,aM,bz] at B;obtain⟨rfl,rfl,rfl⟩:=B;simp only[gG,rep] at hfv;obtain⟨us,e,hu⟩:=hfv;exact⟨[],us,rfl,rC hu, .inl ⟨eM (cC.mp hb) (by decide),e⟩⟩
      .rename_i g' caps';obtain⟨us,e,hu⟩:=hfv;cases hb:Nat.blt g' 1000000 with
       |true=>rw[hb] at B;simp only[ai,aM,bz] at B;obtain⟨rfl,rfl,rfl⟩:=B;exact⟨[],us,rfl,rZ hu, .inl ⟨eM (cC.mp hb) (by decide),by rw[e];simp only[clV,hb,ai]⟩⟩
       |false=>rw[hb] at B;simp only[az] at B;cases Ph:Nat.blt g' 2000000 with
        |true=>rw[Ph] at B;simp only[ai,aM,bz] at B;obtain⟨rfl,rfl,rfl⟩:=B;exact⟨us,[],rZ hu,rfl, .inl ⟨jg (Nat.sub_le _ _) (cC.mp Ph),by rw[e];simp only[clV,hb,Ph,ai,az]⟩⟩
        |false=>
         rw[Ph] at B;simp only[az] at B;split at B
         .rename_i c0;simp only[aM,bz] at B;obtain⟨rfl,rfl,rfl⟩:=B;obtain⟨u,us',e1,h1,h2⟩:=hu
          have:us'=[]:=h2
          subst this e1;refine⟨[],[u],rfl,rZ (caps:=[c0]) ⟨u,[],rfl,h1,rfl⟩, .inr ⟨?_,rfl,u,rfl,e⟩⟩;cases Nat.lt_or_ge g' 2000000 with
          |inl h=>rw[cC.mpr h] at Ph;cases Ph
          |inr h=>exact h
         .cases B
      .cases B
     have hargs:=C6 S hvs;have hall:=EV hρ hclo (pe hps (pe hargs hcs));have aag:∀i oi,find cE i=some oi->lT w.heap.size (jG L.q R (cE.map (·.1))) μ R w i oi:=by
      intro i oi hi;obtain⟨id,U,z,r6,hoc,rfl⟩:=hl2 i oi (ux hi);refine I4 hρ hoc (S.obs id _ r6) (H id i z) (λb hb=> .inr ⟨loc id,?_,hb⟩)
      have:i∈cE.map (·.1):=by rw[hl1];exact aC.2 ⟨_,z,rfl⟩
      simp only[jG,au this,H id i z]
     have hapC:Vc R cE:=by intro i j oi oj hi hj hij q hq;obtain⟨id,U,z,r6,_⟩:=hl2 i oi (ux hi);obtain⟨id',ob',hp',Gt,_⟩:=hl2 j oj (ux hj);rw[H id i z] at hq;rw[H id' j hp'];refine S.apart id id' U ob' r6 Gt (λe=>hij ?_) q hq;subst e;have:=(hget id i z).symm.trans (hget id j hp');injection this
     have hgo:(∀v w',(∃V F,fP L.q μ R (cE.map (·.1)) r O w v V F w')->K (a.put o.dst v) w')->o.uw P a w K Q:=λhK'=>by
      rcases yN g _ _ r _ hr w μ R (ps++(c.args.toList.map a.eval++cs)) S.base.1 S.ur aag hapC hall with⟨hg,he,hC⟩|⟨hg,_,as,v0,FF,hY⟩
      .rcases XU with⟨_,XU⟩|⟨hg2,_⟩
       .refine adj (R:=λv w'=>∃V F,fP L.q μ R (cE.map (·.1)) r O w v V F w') ho hc XU rfl he (hC.mono ?_) hK';rintro e w' ⟨v,V,F,rfl,hP⟩;exact⟨v,rfl,V,F,hP⟩
       .omega
      .rcases XU with⟨hg2,_⟩|⟨_,rfl,v1,rfl,XU⟩
       .omega
       .rw[dw] at FF;obtain⟨e1,e2⟩:=List.append_inj' FF rfl;simp only[dM,fD] at e2;subst e1 e2;rw[<-XU] at hY;refine adk (R:=λv w'=>∃V F,fP L.q μ R (cE.map (·.1)) r O w v V F w') ho hc (hY.mono ?_) hK';rintro e w' ⟨v,V,F,rfl,hP⟩;exact⟨v,rfl,V,F,hP⟩
     refine hgo ?_;rintro v w' ⟨V,F,hP⟩;let G:Nat->Value:=λi=>match find m i with
      |some l=>F l
      |none=>loc i
     have XP:∀id l,(id,l)∈m->G id=F l:=λid l z=>by simp only[G,hget id l z]
     have VF:∀i,i∉ids.filter mv->G i=loc i:=by intro i hi;cases hfi:find m i with
      |none=>simp only[G,hfi]
      |some l=>
       have z:=ux hfi;have hmem:i∈ids:=by rw[<-YI];exact aC.2 ⟨_,z,rfl⟩
       have hmv0:mv i=false:=by cases D:mv i with
        |false=>rfl
        |true=>exact absurd (cG.2 ⟨hmem,D⟩) hi
       rw[XP i l z,hP.fix l (by rw[hl1];exact aC.2 ⟨_,z,rfl⟩) ((hrange _ z).2 hmv0).2];exact H i l z
     have hlb:∀b,Lj (jG L.q R (cE.map (·.1))) b->∃id U,id∈ids/\st.ob id=some U/\js (loc id) b:=by
      rintro b ⟨l,x,D,XT⟩;simp only[jG] at D;split at D
      .rename_i hmem;injection D with D;subst D;rw[hl1] at hmem;obtain⟨p,z,rfl⟩:=aC.1 hmem;rw[H p.1 p.2 z] at XT;obtain⟨q,hq,e⟩:=aC.1 (show p.2∈cE.map (·.1) by rw[hl1];exact aC.2 ⟨_,z,rfl⟩);obtain⟨id,U,k1,k2,_⟩:=hl2 q.1 q.2 hq;rw[e] at k1;have:=(I p.1 p.2 z).symm.trans (I id p.2 k1);injection this with this;exact⟨p.1,U,by rw[<-YI];exact aC.2 ⟨_,z,rfl⟩,by rw[this];exact k2,XT⟩
      .cases D
     have holdob:∀i oi,st.ob i=some oi->i∉ids->lT w0.heap.size L V loc w' i oi:=by
      intro i oi hi hni;refine(S.obs i oi hi).keep hP.ext.1 (λb hb=> ?_);obtain⟨_,hlt,xw⟩:=(S.obs i oi hi).block b hb;refine⟨hP.keep b hlt (λhl=> ?_),λj=> ?_⟩
      .obtain⟨id,U,h1,h2,h3⟩:=hlb b hl;exact S.apart id i U oi h2 hi (λe=>hni (by rw[<-e];exact h1)) b h3 hb
      .cases hj:V b j with
       |none=>rfl
       |some x=>
        rcases hP.ext.2 b j x hj with D|D
        .rw[xw j] at D;cases D
        .omega
     have hback':∀id o',find back id=some o'->∃l o,(id,l)∈m/\find O l=some o/\o.closed (m.map (·.2))=true/\o'=o.tj (qG (swap m)):=by intro id o' hfb;obtain⟨l,o,h1,h2,h3,h4⟩:=hb3 id o' (ux hfb);exact⟨l,o,h1,oV hbnd h2,h3,h4⟩
     have Qx:∀id l U b,(id,l)∈m->find O l=some U->js (F l) b->w.heap.size<=b\/js (loc id) b:=by
      intro id l U b z hfo hb;rcases((hP.obs l U hfo).block b hb).1 with D|⟨x,D,XT⟩
      .exact .inl D
      .right;simp only[jG] at D;split at D
       .injection D with D;subst D;rw[H id l z] at XT;exact XT
       .cases D
     have hobin:∀id l,(id,l)∈m->∃U,st.ob id=some U:=by intro id l z;obtain⟨q,hq,e⟩:=aC.1 (show l∈cE.map (·.1) by rw[hl1];exact aC.2 ⟨_,z,rfl⟩);obtain⟨id',U,k1,k2,_⟩:=hl2 q.1 q.2 hq;rw[e] at k1;have:=(I id l z).symm.trans (I id' l k1);injection this with this;exact⟨U,by rw[this];exact k2⟩
     have VK:∀i oi,((find back i).orElse λ_=>(kF (ids.filter mv) st).ob i)=some oi->lT w0.heap.size L V G w' i oi/\((∃l o,(i,l)∈m/\find O l=some o)\/(i∉ids/\∃o,st.ob i=some o)):=by intro i oi hi;cases hfb:find back i with
      |some o'=>
       rw[hfb] at hi;simp at hi;subst hi;obtain⟨l,U,z,hfo,vk,rfl⟩:=hback' i o' hfb;refine⟨I4 (names:=m.map (·.2)) (λj hj=> ?_) vk (hP.obs l U hfo) (XP i l z) (λb hb=> ?_), .inl ⟨l,U,z,hfo⟩⟩
       .obtain⟨q,hq,rfl⟩:=aC.1 hj;rw[hren2 q.1 q.2 hq,XP q.1 q.2 hq]
       .rcases Qx i l U b z hfo hb with D|D
        .exact .inl (dz S.grown D)
        .obtain⟨ob0,hob0⟩:=hobin i l z;exact((S.obs i ob0 hob0).block b D).1
      |none=>
       rw[hfb] at hi;have hni:i∉ids:=by rw[<-hbid];exact K6 hfb
       have hi':(kF (ids.filter mv) st).ob i=some oi:=by simpa using hi
       obtain⟨_,U,r6,hk⟩:=FY _ st loc G VF i oi hi';exact⟨hk _ _ _ _ (holdob i U r6 hni), .inr ⟨hni,U,r6⟩⟩
     refine hK _ _ V G (Rel.set (sv:= .pv r) ?_ hd (hP.pure VJ));refine⟨S.small,S.names,?_,S.size,S.defers,?_,hP.ur,⟨S.base.1.trans hP.ext.1,?_⟩,λi oi hi=>(VK i oi hi).1,?_,?_,hP.os.trans S.os,hP.tape.trans S.tape,hP.output.trans S.output,dz S.grown hP.grown,λq=>dz (S.drawn q) (hP.drawn q)⟩
     .intro id x D hlt;rw[VF id (λhmem=> ?_)]
      .exact S.fix id x D hlt
      .have hmt:=(cG.1 hmem).2;rw[<-Iq] at hmt;simp only[lE,aI,iG,fo] at hmt;rcases hmt.1.1.2 with hh|hh
       .have:id<10000:=by simpa[cC] using hh
        rw[S.names id this] at D;cases D
       .have:=di hh.1;omega
     .exact DQ (tm:=λi=>a.tmps[i]?) _ st loc G VF (λi s hs=>by
       obtain⟨u,hu,hr⟩:=S.env i s hs
       exact⟨u,hu,EU hP.ext.1 hr⟩)
     .intro b j x D;rcases hP.ext.2 b j x D with D|D
      .exact S.base.2 b j x D
      .exact .inr (dz S.grown D)
     .intro i j oi oj hi hj hij q hq;have UC:∀k ok,k∉ids->st.ob k=some ok->∀q,js (G k) q->js (loc k) q/\q<w.heap.size:=by
       intro k ok hk hok q hq
       have:G k=loc k:=VF k (λhm=>hk (cG.1 hm).1)
       rw[this] at hq;exact⟨hq,((S.obs k ok hok).block q hq).2.1⟩
      have mixed:∀i l o j oj q,(i,l)∈m->find O l=some o->j∉ids->st.ob j=some oj->js (G i) q->js (G j) q->False:=by
       intro i l o j oj q z hfo hj hoj hqi Lf;obtain⟨hqj',hlt⟩:=UC j oj hj hoj q Lf;rw[XP i l z] at hqi;rcases Qx i l o q z hfo hqi with D|D
       .omega
       .obtain⟨ob0,hob0⟩:=hobin i l z;exact S.apart i j ob0 oj hob0 hoj (λe=>hj (by rw[<-e,<-YI];exact aC.2 ⟨_,z,rfl⟩)) q D hqj'
      rcases(VK i oi hi).2 with⟨l,o,z,hfo⟩|⟨hni,U,r6⟩
      .rcases(VK j oj hj).2 with⟨nm',o',hp',hfo'⟩|⟨hnj,ob',Gt⟩
       .rw[XP i l z] at hq;rw[XP j nm' hp'];refine hP.apart l nm' o o' hfo hfo' (λe=>hij ?_) q hq;subst e;have:=(I i l z).symm.trans (I j l hp');injection this
       .exact λLf=>mixed i l o j ob' q z hfo hnj Gt hq Lf
      .rcases(VK j oj hj).2 with⟨nm',o',hp',hfo'⟩|⟨hnj,ob',Gt⟩
       .exact λLf=>mixed j nm' o' i U q hp' hfo' hni r6 Lf hq
       .obtain⟨hqi,_⟩:=UC i U hni r6 q hq;intro Lf;obtain⟨Lf,_⟩:=UC j ob' hnj Gt q Lf;exact S.apart i j U ob' r6 Gt hij q hqi Lf
     .intro b hb hl;refine(hP.keep b (eM hb S.grown) (λhl'=> ?_)).trans (S.keep b hb hl);obtain⟨id,U,_,h2,h3⟩:=hlb b hl';rcases((S.obs id U h2).block b h3).1 with D|⟨x,D,XT⟩
      .omega
      .exact hl ⟨id,x,D,XT⟩
    .cases hv
   .cases hv
  .cases hv
 .cases hv
mutual
theorem AV.rH:∀(a b:AV),AV.same a b=true->a=b
 | .bool a,b=>by cases b<;>simp[AV.same]
 | .int k a,b=>by cases b<;>simp[AV.same]
 | .str a,b=>by cases b<;>simp[AV.same]
 | .dH s xs,b=>by cases b<;>simp only[AV.same,aI,cU,mO];rintro⟨h1,h2⟩;rw[beq_iff.1 h1,Aj _ _ h2]
 | .agg a,b=>by cases b<;>simp only[AV.same,cU,mO];intro h;rw[nD _ _ h]
 | .fn f a,b=>by cases b<;>simp only[AV.same,aI,cU,mO];rintro⟨h1,h2⟩;rw[beq_iff.1 h1,nD _ _ h2]
 | .lQ a,b=>by cases b<;>simp only[AV.same,cU,mO];intro h;rw[nD _ _ h]
 | .ref a,b=>by cases b<;>simp only[AV.same,cU,mO];intro h;rw[nD _ _ h]
 | .mp a b,c=>by cases c<;>simp only[AV.same,aI,cU,mO];rintro⟨h1,h2⟩;rw[nD _ _ h1,nD _ _ h2]
 | .self n,b=>by cases b<;>simp only[AV.same,cU,mO];intro h;rw[beq_iff.1 h]
 | .DF,b=>by cases b<;>simp[AV.same]
 | .qk,b=>by cases b<;>simp[AV.same]
 | .hole,b=>by cases b<;>simp[AV.same]
theorem nD:∀(a b:List AV),rF a b=true->a=b
 |[],[]=>λ_=>rfl
 |[],_::_=>λh=>by simp[rF] at h
 |_::_,[]=>λh=>by simp[rF] at h
 |x::l,y::m=>λh=>by simp only[rF,aI] at h;rw[AV.rH x y h.1,nD l m h.2]
theorem Aj:∀(a b:List (List AV)),Ai a b=true->a=b
 |[],[]=>λ_=>rfl
 |[],_::_=>λh=>by simp[Ai] at h
 |_::_,[]=>λh=>by simp[Ai] at h
 |x::l,y::m=>λh=>by simp only[Ai,aI] at h;rw[nD x y h.1,Aj l m h.2]
end
mutual
theorem AV.mw:∀a:AV,AV.same a a=true
 | .bool a=>by simp[AV.same]
 | .int k a=>by simp[AV.same]
 | .str a=>by simp[AV.same]
 | .dH s xs=>by simp[AV.same,fV,yB xs]
 | .agg a=>by simp[AV.same,lN a]
 | .fn f a=>by simp[AV.same,fV,lN a]
 | .lQ a=>by simp[AV.same,lN a]
 | .ref a=>by simp[AV.same,lN a]
 | .mp a b=>by simp[AV.same,lN a,lN b]
 | .self n=>by simp[AV.same,fV]
 | .DF=>by simp[AV.same]
 | .qk=>by simp[AV.same]
 | .hole=>by simp[AV.same]
theorem lN:∀a:List AV,rF a a=true
 |[]=>rfl
 |x::l=>by simp[rF,AV.mw x,lN l]
theorem yB:∀a:List (List AV),Ai a a=true
 |[]=>rfl
 |x::l=>by simp[Ai,lN x,yB l]
end
def pV.rH {a b:pV} (h:a.same b=true):a=b:=by
 cases a<;>cases b<;>simp[pV.same,cU] at h
 .rw[AV.rH _ _ h]
 .simp_all
 simp_all
def pV.mw (a:pV):a.same a=true:=by cases a<;>simp[pV.same,AV.mw]
def Ag:∀{a b:List pV},rG a b=true->a=b
 |[],[]=>λ_=>rfl
 |[],_::_=>λh=>by simp[rG] at h
 |_::_,[]=>λh=>by simp[rG] at h
 |x::l,y::m=>λh=>by simp only[rG,aI] at h;rw[pV.rH h.1,Ag h.2]
def BB:∀a:List pV,rG a a=true
 |[]=>rfl
 |x::l=>by simp[rG,pV.mw x,BB l]
def Ak.rH {a b:Ak} (h:a.same b=true):a=b:=by
 cases a<;>cases b<;>simp only[Ak.same,cU] at h
 .rfl
 .rw[beq_iff.1 h]
def Ak.mw (a:Ak):a.same a=true:=by cases a<;>simp[Ak.same,fV]
def SV.rH {a b:SV} (h:a.same b=true):a=b:=by induction a generalizing b with
 |two s x l=>cases b<;>simp only[SV.same,aI,cU] at h;rw[l h.1,ga.1 h.2]
 |undef=>cases b<;>simp only[SV.same,cU] at h;rfl
 |any=>cases b<;>simp only[SV.same,cU] at h;rfl
 |pv x=>cases b<;>simp only[SV.same,cU] at h;rw[AV.rH _ _ h]
 |ptr x y=>cases b<;>simp only[SV.same,aI,cU] at h;rw[beq_iff.1 h.1,beq_iff.1 h.2]
 |row x=>cases b<;>simp only[SV.same,cU] at h;rw[beq_iff.1 h]
 |rp x y z u=>cases b<;>simp only[SV.same,aI,cU] at h;rw[beq_iff.1 h.1.1.1,beq_iff.1 h.1.1.2,beq_iff.1 h.1.2,beq_iff.1 h.2]
 |sub x y z u=>cases b<;>simp only[SV.same,aI,cU] at h;rw[beq_iff.1 h.1.1.1,beq_iff.1 h.1.1.2,beq_iff.1 h.1.2,beq_iff.1 h.2]
 |cp x=>cases b<;>simp only[SV.same,cU] at h;rw[nD _ _ h]
 |cl f x=>cases b<;>simp only[SV.same,aI,cU] at h;rw[beq_iff.1 h.1,Ag h.2]
 |ag x=>cases b<;>simp only[SV.same,cU] at h;rw[Ag h]
 | «at» x y=>cases b<;>simp only[SV.same,aI,cU] at h;rw[beq_iff.1 h.1,Ak.rH h.2]
def SV.mw (a:SV):a.same a=true:=by induction a<;>simp[SV.same,AV.mw,fV,lN,BB,Ak.mw, *]
theorem Ju:∀{a b:List SV},vQ a b=true->a=b
 |[],[]=>λ_=>rfl
 |[],_::_=>λh=>by simp[vQ] at h
 |_::_,[]=>λh=>by simp[vQ] at h
 |x::l,y::m=>λh=>by simp[vQ,aI] at h;rw[SV.rH h.1,Ju h.2]
def DY:∀a:List SV,vQ a a=true
 |[]=>rfl
 |x::l=>by simp[vQ,SV.mw x,DY l]
theorem A2:∀{a b:List (Option (List (List AV)))},qp a b=true->a=b
 |[],[]=>λ_=>rfl
 |[],_::_=>λh=>by simp[qp] at h
 |none::_,[]=>λh=>by simp[qp] at h
 |some _::_,[]=>λh=>by simp[qp] at h
 |some x::l,some y::m=>λh=>by simp[qp,aI] at h;rw[Aj _ _ h.1,A2 h.2]
 |none::l,none::m=>λh=>by simp[qp] at h;rw[A2 h]
 |some _::_,none::_=>λh=>by simp[qp] at h
 |none::_,some _::_=>λh=>by simp[qp] at h
def Ah:∀a:List (Option (List (List AV))),qp a a=true
 |[]=>rfl
 |some x::l=>by simp[qp,yB x,Ah l]
 |none::l=>by simp[qp,Ah l]
def Ob.rH {a b:Ob} (h:a.same b=true):a=b:=by
 cases a<;>cases b<;>simp[Ob.same,cU] at h
 .grind[beq_iff,Ju]
 .grind[beq_iff,Aj]
 .grind[beq_iff,nD]
 .grind[beq_iff,nD,A2]
 .simp_all
 .rw[nD _ _ h]
 grind[beq_iff,Aj,A2]
def Ob.mw (a:Ob):a.same a=true:=by cases a<;>simp[Ob.same,yB,lN,DY,Ah]
def Jt:∀{a b:List (Nat×Ob)},uu a b=true->a=b
 |[],[]=>λ_=>rfl
 |[],_::_=>λh=>by simp[uu] at h
 |_::_,[]=>λh=>by simp[uu] at h
 |(i,x)::l,(j,y)::m=>λh=>by simp only[uu,aI] at h;rw[beq_iff.1 h.1.1,Ob.rH h.1.2,Jt h.2]
def DX:∀a:List (Nat×Ob),uu a a=true
 |[]=>rfl
 |(i,x)::l=>by simp[uu,fV,Ob.mw x,DX l]
def pV.ve {z l:Nat->Nat} {ids:List Nat} (h:∀j∈ids,l (z j)=j):∀{cs:List pV},SV.closed ids (.cl 0 cs)=true->(cs.map (pV.tj z)).map (pV.tj l)=cs
 |[],_=>rfl
 |c::cs,q=>by simp[SV.closed,gO,aI] at q;simp only[aR];rw[pV.ve h (by simpa[SV.closed] using q.2)];grind[pV.tj]
def SV.ve {B q:Nat->Nat} {ids:List Nat} (h:∀j∈ids,q (B j)=j) {s:SV} (F:s.closed ids=true):(s.tj B).tj q=s:=by induction s with
 |two s b H=>simp_all[SV.tj,SV.closed]
 |ptr j z=>simp_all[SV.tj,SV.closed]
 |row j=>simp_all[SV.tj,SV.closed]
 |rp j D i z=>simp_all[SV.tj,SV.closed]
 |sub j D I G=>simp_all[SV.tj,SV.closed]
 |cl f l=>simp only[SV.tj];rw[pV.ve h (by assumption)]
 |ag l=>simp only[SV.tj];rw[pV.ve h (by assumption)]
 |_=>rfl
def tu {q:Nat->Nat} {ids names:List Nat} (h:∀j∈ids,q j∈names):∀{cs:List pV},SV.closed ids (.cl 0 cs)=true->SV.closed names (.cl 0 (cs.map (pV.tj q)))=true
 |[],_=>rfl
 |c::cs,l=>by simp only[SV.closed,gO,aI] at l;have z:=tu h (cs:=cs) (by simpa[SV.closed] using l.2);simp only[SV.closed,aR,gO,aI];refine⟨?_,by simpa[SV.closed] using z⟩;cases c with
  |v a=>rfl
  |p id=>simpa[pV.tj] using h id (by simpa using l.1)
  |r id=>simpa[pV.tj] using h id (by simpa using l.1)
def SV.BO {D:Nat->Nat} {ids names:List Nat} (h:∀j∈ids,D j∈names) {s:SV} (z:s.closed ids=true):(s.tj D).closed names=true:=by induction s with
 |two s b F=>simp only[SV.tj,SV.closed];exact F (by simpa[SV.closed] using z)
 |ptr j B=>simpa[SV.tj,SV.closed] using h j (by simpa[SV.closed] using z)
 |row j=>simpa[SV.tj,SV.closed] using h j (by simpa[SV.closed] using z)
 |rp j G i B=>simpa[SV.tj,SV.closed] using h j (by simpa[SV.closed] using z)
 |sub j G I H=>simpa[SV.tj,SV.closed] using h j (by simpa[SV.closed] using z)
 |cl f l=>have:=tu h (cs:=l) (by simpa[SV.closed] using z);simpa[SV.tj,SV.closed] using this
 |ag l=>have:=tu h (cs:=l) (by simpa[SV.closed] using z);simpa[SV.tj,SV.closed] using this
 | «at» j q=>simp[SV.closed] at z
 |_=>rfl
def Ob.ve {z l:Nat->Nat} {ids:List Nat} (h:∀j∈ids,l (z j)=j) {o:Ob} (q:o.closed ids=true):(o.tj z).tj l=o:=by cases o with
 |box t cells=>simp only[Ob.tj,eS];congr 1;simp only[Ob.closed,cv] at q;exact(gR λs B=>SV.ve h (q s B)).trans (jT _)
 |_=>rfl
def Ob.BO {q:Nat->Nat} {ids names:List Nat} (h:∀j∈ids,q j∈names) {o:Ob} (l:o.closed ids=true):(o.tj q).closed names=true:=by cases o with
 |box t cells=>simp only[Ob.closed,cv] at l;simp only[Ob.tj,Ob.closed,cv,aC];rintro _ ⟨s,z,rfl⟩;exact SV.BO h (l s z)
 |mr k e s D G=>simp[Ob.closed] at l
 |rn e s k B F xs H=>simp[Ob.closed] at l
 |_=>rfl
def KY {ids names:List Nat} {ρ ρ':Nat->Nat} (G:∀j∈ids,ρ' (ρ j)=j) (H:∀j∈ids,ρ j∈names):∀{l:List (Nat×Nat)} {cE:List (Nat×Ob)},lD st ids ρ l=some cE->∃back,nP names ρ' l cE=some back/\∀i o,find back i=some o->st.ob i=some o
 |[],cE,q=>by simp only[lD,aM] at q;subst q;exact⟨[],rfl,λi o h=>by simp[find] at h⟩
 |(id,S)::l,cE,q=>by
  simp only[lD] at q;split at q
  .rename_i o V R F
   obtain⟨B,q⟩:=(show o.closed ids=true/\some ((S,o.tj ρ)::V)=some cE from by cases B:o.closed ids with
    |false=>rw[B] at q;cases q
    |true=>rw[B] at q;exact⟨rfl,q⟩)
   injection q with q;subst q;obtain⟨back,I,O⟩:=KY G H F;refine⟨(id,(o.tj ρ).tj ρ')::back,?_,λi U D=> ?_⟩
   .simp only[nP,fV,Ob.BO H B,qK,ai,I,cQ]
   .simp only[find] at D;cases z:Nat.beq id i with
    |true=>simp only[z,ai,aM] at D;rw[<-beq_iff.1 z,R,<-D,Ob.ve G B]
    |false=>simp only[z,az] at D;exact O i U D
  .cases q
def PN {c:Call} {f:Operand} {r:AV} {d:Option Nat} (hst:d.any h.stay.contains=true) (B:rY P h cH st c f=some r):jy P h cH st c f d=some (st.set d (.pv r)):=by
 unfold rY at B;split at B
 .rename_i g args l;unfold tD at l;split at l
  .rename_i g' pre z vs hf hvs;simp only[aM,bz] at l;obtain⟨rfl,rfl⟩:=l;have Iq:lE (d.any h.stay.contains) st (pQ (pre++(vs++z)))=λ_=>false:=by
    funext id;simp only[lE,hst,gA,Bool.and_false]
   have O:ku st 200 ((pre++(vs++z)).flatMap SV.ids) []=kK st (pre++(vs++z)):=rfl;generalize kK st (pre++(vs++z))=ids at B O;have hm:jH (λ_=>false) 0 ids=jw ids:=rfl;cases q:(distinct ids&&Nat.blt ids.length 10000&&(pre++(vs++z)).all (SV.closed ids)) with
   |false=>rw[q] at B;cases B
   |true=>
   simp only[q,ai] at B;have F:=q;simp only[aI] at F;obtain⟨⟨V,R⟩,hclo⟩:=F;have R:ids.length<10000:=by simpa[cC] using R
   have hnd:=uM V;have YI:(jw ids).map (·.1)=ids:=sZ _ _ _;have hnn:((jw ids).map (·.2)).Nodup:=wm _ 0 ids af;have I:∀id D,(id,D)∈jw ids->find (jw ids) id=some D:=λid D H=>oV (by rw[YI];exact hnd) H
   have S:∀id D,(id,D)∈jw ids->find (swap (jw ids)) D=some id:=λid D H=>oV (by rw[JB];exact hnn) (IM H)
   have hex:∀id∈ids,∃D,(id,D)∈jw ids:=λid hid=>by rw[<-YI] at hid;obtain⟨p,H,rfl⟩:=aC.1 hid;exact⟨p.2,H⟩
   split at B
   .rename_i cE G;split at B
    .rename_i r' U hr;cases hs:(uu U cE&&r'.kC) with
     |false=>rw[hs] at B;cases B
     |true=>
      rw[hs] at B;simp only[ai,aM] at B;subst B;simp only[aI] at hs;have e:=Jt hs.1;subst e
      obtain⟨back,hb,hg⟩:=KY (ids:=ids) (names:=(jw ids).map (·.2)) (ρ:=qG (jw ids)) (ρ':=qG (swap (jw ids))) (λj hj=>by
       obtain⟨D,H⟩:=hex j hj
       simp[qG,I j D H,S j D H]) (λj hj=>by
       obtain⟨D,H⟩:=hex j hj;simp only[qG,I j D H,qL]
       exact aC.2 ⟨(j,D),H,rfl⟩) G
      unfold jy;simp only[hf,hvs,Iq,O,hm,q,ai,G,hr,hb,hs.2];have e1:kF (ids.filter λ_=>false) st=st:=by have e0:(ids.filter λ_=>false)=[]:=xy.2 (λ_ _=>by decide);rw[e0];rfl
      rw[e1];congr 2;congr 1;funext i;cases hfi:find back i with
      |none=>rfl
      |some o=>rw[hg i o hfi];rfl
    .cases B
   .cases B
  .cases l
 .cases B
def Jd (H:Rel N w0 μ0 L μ loc st a w) {b:Bool}:∀{xs:List Operand} {G:List TypeId} {D:List AV},rA P b st xs G=some D->b9 μ D (xs.map a.eval):=by intro xs;induction xs with
 |nil=>simp_all[rA,dg]
 |cons x xs O=>
  intro G D q;simp[rA] at q;split at q
  .rename_i v R l B;injection q with q;subst q;refine bP ?_ (O B);unfold NA at l;cases z:(b&&TG x) with
   |true=>
    rw[z] at l;simp at l;subst l;have:=(xz.1 z).2;unfold TG at this;split at this
    .rfl
    simp_all
   |false=>rw[z] at l;obtain⟨s,I,F⟩:=dL.1 l;have:=aW H I;cases s<;>simp[iH] at F;subst F;exact this
  simp_all
def wu:∀{D:List AV} {l:List (Nat×TypeId×Nat)} {z:List pV} {B:List Value},sD D l=some z->(∀x∈l,fE (loc x.1)= .slice none 0 0)->b9 μ D B->j5 μ loc z B
 |[],l,z,B,q,_,O=>by simp_all[sD,b9,j5]
 |a::D,l,z,B,q,I,O=>by
  obtain⟨u,R,rfl,G,H⟩:=O;have other:∀{k':List _},sD _ l=some _->j5 _ _ (.v a::k') _:=λF=>⟨u,R,rfl,G,wu F I H⟩
  cases a with
  |qk=>cases l with
   |nil=>simp[sD] at q
   |cons x l=>simp[sD,bY] at q;obtain⟨k',F,rfl⟩:=q;rw[rep] at G;refine⟨u,R,rfl,?_,wu F (λy S=>I y (by simp[S])) H⟩;show u=fE _;simp_all
  |_=>simp[sD,bY] at q;grind
theorem Kr (I:Rel N w0 μ0 L μ loc st a w) (U:fO L.q μ0 P cH) {o:Oper} {c:Call} {f:Operand} {st1:St} (hd:∀i,o.dst=some i->i<N) (ho:o.op= .call c) (hc:c.callee= .value f)
  (D:kJ P h cH st c f o.dst=some st1) (hK:mL N w0 μ0 L st1 K):o.uw P a w K Q:=by
 unfold kJ at D;split at D
 .rename_i d B;split at D
  .rename_i g caps vs hf hvs;obtain⟨cs,XU,hcs⟩:=Ii I hf;have main:∀{r:AV},cH g ((vs++caps).map .pv) []=some (r,[])->(∀v H z q,fP L.q μ loc [] r [] w v z q H->Rel N w0 μ0 L z loc st a H->K (a.put o.dst v) H)->o.uw P a w K Q:=λ{r} hr hk=>by
    obtain⟨he,hC⟩:=fO.noY (U g _ [] _ [] hr w μ loc (c.args.toList.map a.eval++cs) I.base.1 I.ur (by simp[find]) (by intro i j oi oj V;simp[find] at V) (rC (nG (Jd I hvs) hcs))) λxs=>by simp[find]
    refine Hi (R:=λv H=>∃z q,fP L.q μ loc [] r [] w v z q H) (r:=r) (zP:=[]) ho hc XU rfl he (hC.mono ?_) ?_
    .simp
    .rintro v H ⟨z,q,F⟩;exact hk v H z q F (I.grow F.ext F.ur (C8 F) F.drawn)
   split at D
   .rename_i e sz xs hr;cases hn:(wU h d).isSome with
    |true=>simp_all
    |false=>
    rw[hn] at D;simp only[az,aM] at D;subst D;refine main hr λv H z q F h1=> ?_
    obtain⟨us,S,hrc,O⟩:∃us,H.ownsRow 0 e sz v xs.length us/\cW z sz xs us/\∀g,bA v=some g->w.heap.size<=g/\∀j,z g j=none:=by
     rcases F.res with hx|⟨_,_,_,_,e1,_⟩|⟨e2,sz2,xs2,us,e1,k1,k2,k3⟩
     .simp_all[rep,b9]
     .cases e1
     grind
    have hdN:=hd d B;have hin:∀g,js v g->bA v=some g:=λg R=>by
     rcases R with R|⟨us',e1,_⟩
     .exact R
     .subst e1;rcases S.2 with⟨e2,_⟩|⟨_,_,_,e2,_⟩<;>cases e2
    have h2:=h1.new (id:=d) (o:= .row e _ _) (.inl (eM hdN I.small)) ⟨us,by rw[cu];omega,hrc,λg R=>by
      rw[cu] at R;obtain⟨k1,k2⟩:=O g (hin g R)
      exact⟨.inl (dz I.grown k1),k2⟩⟩ (λj oj hj _ g R hb=>by
     have k1:=(O g (hin g R)).1;have:=((I.obs j _ hj).block g hb).2.1
     omega)
    rw[B];refine hK _ _ _ _ (h2.set (λi V=>(c9 V)▸hdN) ?_);show v=fE _;rw[cu];rcases S.2 with⟨e2,_⟩|⟨_,_,_,e2,_⟩<;>rw[e2]<;>rfl
   .rename_i cs' hr;split at D
    .injection D with D;subst D;refine main hr λv H z q F h1=> ?_
     have G:=F.pure rfl;rw[B];exact hK _ _ _ _ (h1.set (λi V=>hd i (B.trans V)) G)
    .rename_i l _ hl;split at D
     .rename_i ks hks;cases hb:l.all (λx=>Nat.blt x.1 10000) with
      |false=>simp_all
      |true=>
      rw[hb] at D;simp at D;subst D;refine main hr λv H z q F h1=> ?_
      have G:=F.pure rfl;obtain⟨vs',rfl,hra,hone⟩:=G;obtain⟨loc2,h2,h3,_⟩:=sC h1 l _ _ h1 (λx hx=>cC.mp (cv.1 hb x hx));rw[B];exact hK _ _ _ _ (h2.set (λi V=>hd i (B.trans V)) ⟨_,rfl,wu hks h3 hra,hone⟩)
     simp_all
    simp_all
   simp_all
  simp_all
 simp_all
theorem Mc (B:Rel N w0 μ0 L μ loc st a w) (l:fO L.q μ0 P cH) {o:Oper} {c:Call} {f:Operand} {r:AV} (F:∀i,o.dst=some i->i<N) (G:o.op= .call c) (D:c.callee= .value f) (q:o.dst.any h.stay.contains=true)
  (H:rY P h cH st c f=some r) (z:mL N w0 μ0 L (st.set o.dst (.pv r)) K):o.uw P a w K Q:=
 zG B l F G D (PN q H) z
def Ty (z:Rel N w0 μ0 L μ loc st a w) (yN:fO L.q μ0 P cH) {o:Oper} {v:SV} (H:∀i,o.dst=some i->i<N) (l:eo P h cH o st=some v) (F:mL N w0 μ0 L (st.set o.dst v) K):o.uw P a w K Q:=by
 unfold eo at l;split at l
 .rename_i t len D I;cases V:o.dst.any h.rows.contains with
  |true=>simp_all
  |false=>simp only[V,az] at l;cases hl:kA P t len D.toList st with
   |none=>simp_all
   |some x=>grind[Tw]
 .rename_i c I;split at l
  .rename_i f hc;replace l:=EO l;cases R:(o.dst.any h.stay.contains&&wide st c f) with
   |true=>rw[R] at l;simp only[ai,bY] at l;obtain⟨r,hr,rfl⟩:=l;rw[aI] at R;grind[Mc]
   |false=>
   rw[R] at l;replace l:=EO l;split at l
   .rename_i g q vs hf hvs;split at l
    .rename_i r hr;cases hp:((!(c.args.toList.any (kI st))||r.plain)&&r.kC) with
     |true=>simp only[hp,ai,aM] at l;subst l;rw[aI] at hp;grind[HK,Bool.or_comm]
     |false=>grind
    simp_all
   simp_all
  .exact ow z H (FE z I l) F
 .rename_i t x k ok I;exact ow z H (vc z (EO l)) F
 .rename_i t D I;exact ow z H (Qr z I (EO l)) F
 .rename_i t x I;exact ow z H (vc z (EO l)) F
 .rename_i g first q I
  cases O:first.isEmpty with
  |false=>
   simp[O] at l;cases G:(q.isEmpty&&o.dst.any h.jP.contains&&Nat.blt g 1000000) with
   |false=>simp_all
   |true=>
   rw[G] at l;simp only[aI] at G;have hc0 :=by simpa using G.1.1
   have hg :=cC.mp G.2;have run:(execOp a.eval o).run P w= .ok (.value (.func (.func g) (first.toList.map a.eval).toArray #[])) w:=by
    unfold execOp;rw[I,hc0];have e:first.map a.eval=(first.toList.map a.eval).toArray:=by grind
    simp[Instr.makeFunc,e]
   cases B:qg st first.toList with
   |none=>simp_all
   |some vs=>
    simp[B] at l;subst l;refine ow z H ⟨_,run,(show gG _ _ (.cl _ _) _ from⟨_,?_,Df z B⟩)⟩ F;have h1:Nat.blt (g+1000000) 1000000=false:=by cases V:Nat.blt _ _ with
     |false=>rfl
     |true=>have:=cC.mp V;omega
    have h2:Nat.blt (g+1000000) _=true:=cC.mpr (Nat.add_lt_add_right hg _);simp[clV,h1,h2,az,ai,oA]
  |true=>
   simp[O] at l;have hf0 :=by simpa using O
   have run:(execOp a.eval o).run P w= .ok (.value (.func (.func g) #[] (q.toList.map a.eval).toArray)) w:=by
    unfold execOp;rw[I,hf0];have e:q.map a.eval=(q.toList.map a.eval).toArray:=by grind
    simp[Instr.makeFunc,e]
   cases S:o.dst.any h.jP.contains with
   |true=>
    simp[S] at l;cases U:Nat.blt g 1000000 with
    |false=>simp_all
    |true=>
    rw[U] at l;cases B:qg st q.toList with
    |none=>simp_all
    |some vs=>simp[B] at l;subst l;exact ow z H ⟨_,run,(show gG _ _ (.cl g _) _ from⟨_,by simp[clV,U,ai],Df z B⟩)⟩ F
   |false=>
   simp[S] at l;cases B:tq st q.toList with
   |none=>simp_all
   |some vs=>simp[B] at l;subst l;have hall:=Dg z B;refine ow z H ⟨_,run,?_⟩ F;show rep _ _ _;rw[rep];simp_all
 .have key:eU P o st=some v:=by
   split at l
   .grind
   .grind
   .exact l
  exact ow z H (vc z key) F
 .exact ow z H (vc z l) F
def XD (F:Rel N w0 μ0 L μ loc st a w) (yN:fO L.q μ0 P cH) {o:Oper} (S:∀i,o.dst=some i->i<N) (B:mC P h cH o st=some st') (H:mL N w0 μ0 L st' K):o.uw P a w K Q:=by
 unfold mC at B;split at B
 .rename_i d q D;split at B
  .rename_i e s hs;split at B
   .injection B with B;subst B;exact eff_nil F (S d q) q D H
   .cases B
  .cases B
 .rename_i d x hnc q D;split at B
  .rename_i id U;cases O:h.mvs.contains d with
   |true=>rw[O] at B;exact Na F (S d q) q D U B H
   |false=>
   rw[O] at B;simp only[az] at B;split at B
   .rename_i st1 hp;split at B
    .rename_i v hv1;injection B with B;subst B;obtain⟨μ1,_,h1⟩:=F.dK hp;exact ow h1 S (BZ h1 (.inr D) hv1) (by rw[q];exact H)
    .cases B
   .cases B
  .cases B
 .rename_i d t x q D;split at B
  .rename_i cs U hagg;injection B with B;subst B;have R:=aW F U;simp only[gG,rep] at R;obtain⟨vs,R,hall,hone⟩:=R;refine Dj (v:= .agg vs.toArray) F (S d q) q ?_ (by simpa[Value.cells] using rC hall) (by assumption) H;unfold execOp;rw[D];simp[Instr.box,newVar,newRow,R,Value.cells]
  .rename_i cs U hagg;cases hm:(SV.ag cs).mentions d with
   |true=>rw[hm] at B;cases B
   |false=>
   rw[hm] at B;simp only[az,aM] at B;subst B;have R:=RK (x:= .pointer (some ⟨w.heap.size,0,none⟩)) hm (aW F U);obtain⟨vs,R,hall,hone⟩:=R;refine Dj (v:= .agg vs.toArray) F (S d q) q ?_ (by simp_all[Value.cells,rZ]) (by assumption) H;unfold execOp;rw[D];simp[Instr.box,newVar,newRow,R,Value.cells]
  .rename_i v hnot U hagg;split at B
   .rename_i hone;injection B with B;subst B;have R:=aW F U;obtain⟨h1,hc1⟩:=UB F hone R;refine Dj (v:=a.eval x) F (S d q) q ?_ (by rw[hc1];exact⟨_,[],rfl,yy R,rfl⟩) (by rw[hc1];simpa using h1) H;unfold execOp;rw[D];simp[Instr.box,newVar,newRow]
   .cases B
  .cases B
 .rename_i d t q D;cases hrw:h.rows.contains d with
  |true=>
   rw[hrw] at B;simp only[ai] at B;split at B
   .rename_i svs l hz;injection B with B;subst B;exact Kv F (S d q) q D hz H
   .cases B
  |false=>
  rw[hrw] at B;simp only[az] at B;split at B
  .rename_i z hz;injection B with B;subst B;obtain⟨i,v,hi,hzv,hc⟩:=LV (μ:=μ) hz;refine Dj (v:=v) F (S d q) q ?_ (rC hc.1) hc.2 H;unfold execOp;rw[D];simp[Instr.alloc,zeroValue,typeInfo,hi,hzv,newVar,newRow]
  .cases B
 .rename_i d t l c q D;split at B
  .rename_i e s kl nl kc nc hs hl hc;split at B
   .rename_i z i hz hi;split at B
    .rename_i G;injection B with B;subst B;exact ZH F (S d q) q D hs hl hc hz hi G H
    .cases B
   .cases B
  .cases B
 .rename_i d t len parts q D;split at B
  .rename_i e s xs hl;split at B
   .injection B with B;subst B;exact Mm F (S d q) q D hl H
   .rename_i k e' s' hn;cases hb:(Nat.blt k s&&xs.all (qc k)) with
    |false=>rw[hb] at B;cases B
    |true=>rw[hb] at B;simp only[ai,aM] at B;subst B;obtain⟨b1,b2⟩:=xz.1 hb;exact Kw F (S d q) q D hl (cC.mp b1) b2 H
  .cases B
 .rename_i t x y q D;split at B
  .rename_i id sz i off j U hy;exact Rz F q D U hy B H
  .rename_i id off j sz n U hy;exact PY F q D U hy B H
  .rename_i sa sv _ hnr U hy;exact XE F q D U hy B H
  .cases B
 .rename_i d t r q D;split at B
  .rename_i k e hu;cases hb:uA P st r with
   |false=>simp_all
   |true=>
    rw[hb] at B;simp only[ai] at B;cases hrw:h.rows.contains d with
    |true=>
     rw[hrw] at B;simp only[ai] at B;split at B
     .split at B
      .injection B with B;subst B;exact Tm F (S d q) q D hu hb H
      .cases B
     .cases B
    |false=>
    rw[hrw] at B;simp only[az,aM] at B;subst B;exact P5 F (S d q) q D hu hb H
  simp_all
 .rename_i t m k x q D;cases hrm:pR h m with
  |true=>rw[hrm] at B;exact P6 F q (.inl D) B H
  |false=>rw[hrm] at B;exact Dk F q (.inl D) B H
 .rename_i t m k x q D;cases hrm:pR h m with
  |true=>rw[hrm] at B;exact P6 F q (.inr D) B H
  |false=>rw[hrm] at B;exact Dk F q (.inr D) B H
 .rename_i d t m k q D;cases hrm:pR h m with
  |true=>rw[hrm] at B;exact XA F (S d q) q D B H
  |false=>rw[hrm] at B;cases B
 .rename_i d t x q D;split at B
  .rename_i s ht U;injection B with B;subst B;exact XC F (S d q) q D ht U H
  .cases B
 .rename_i d x q D;split at B
  .rename_i id U;split at B
   .rename_i s pos r6;refine ZI F (S d q) q D U r6 ?_;grind
   .cases B
  .cases B
 .rename_i d t parts q D;cases hrw:h.rows.contains d with
  |false=>rw[hrw] at B;cases B
  |true=>rw[hrw] at B;exact Kx F (S d q) q D B H
 .rename_i d t x q D;cases XY:h.take.contains d with
  |false=>rw[XY] at B;cases B
  |true=>rw[XY] at B;exact KR F (S d q) q D B H
 .rename_i d g first caps q D
  cases hfi:first.isEmpty with
  |false=>rw[hfi] at B;cases B
  |true=>
   rw[hfi] at B;simp only[ai] at B;split at B
   .rename_i st1 hp;simp only[bY] at B;obtain⟨vs,hcs,rfl⟩:=B;exact Mn F (S d q) q D hfi hp hcs H
   .cases B
 .rename_i d c D;split at B
  .rename_i hc;split at B
   .rename_i d' x y t t' q I Ba;split at B
    .rename_i e s id sy hs U hy;split at B
     .rename_i e' sz xs sz' ys i r6 hel hi;split at B
      .rename_i G;obtain⟨rfl,rfl,rfl,rfl,hpos,hby,V,hz,O⟩:=G;injection B with B;subst B;have ho':o.op= .call { callee:= .builtin .append,args:= #[x,y],argTypes:= #[t,t] }:=by
        rw[D];obtain⟨cal,⟨as⟩,⟨ts⟩⟩:=c;simp only at hc I Ba;subst hc;subst I;subst Ba;rfl
       refine Tk F (S d' q) q ho' hs U hy r6 hel hi hpos hby V hz ?_ H;simp only[iG,fo] at O;rcases O with hm|hm
       .left;simpa[cC] using hm
       simp_all
      simp_all
     .rename_i e' sz k e2 s2 xs zs sz' ys i r6 hel hi;split at B
      .rename_i G;obtain⟨rfl,rfl,rfl,rfl,hpos,hby,V,hz,O,hall⟩:=G;injection B with B;subst B;have ho':o.op= .call { callee:= .builtin .append,args:= #[x,y],argTypes:= #[t,t] }:=by
        rw[D];obtain⟨cal,⟨as⟩,⟨ts⟩⟩:=c;simp only at hc I Ba;subst hc;subst I;subst Ba;rfl
       refine P4 F (S d' q) q ho' hs U hy r6 hel hi hpos hby V hz ?_ hall H;simp only[iG,fo] at O;rcases O with hm|hm
       .simp_all
       simp_all
      simp_all
     simp_all
    .rename_i e s id sy hs U hy;split at B
     .rename_i e' sz xs sz' ys i r6 hel hi;split at B
      .rename_i G;obtain⟨rfl,rfl,rfl,rfl,hpos,hby,V,hz,O,hne⟩:=G;injection B with B;subst B;have ho':o.op= .call { callee:= .builtin .append,args:= #[x,y],argTypes:= #[t,t] }:=by
        rw[D];obtain⟨cal,⟨as⟩,⟨ts⟩⟩:=c;subst hc;subst I;subst Ba;rfl
       refine P3 F (S _ q) q ho' hs U hy r6 hel hi hpos hby V hz ?_ hne H;simp[iG,fo] at O;rcases O with hm|hm
       .simp_all
       simp_all
      simp_all
     simp_all
    simp_all
   simp_all
  .grind[Tl]
  .grind[Xz]
  .rename_i f hc;cases how:o.dst.any h.owns.contains with
   |true=>grind[Kr]
   |false=>
   rw[how] at B;replace B:=EO B;cases hw:wide st c f with
   |true=>simp only[hw,ai] at B;grind[zG]
   |false=>
   cases MK:c.args.toList.any (λx=>(oq h st x).isSome) with
   |true=>simp only[MK,ai] at B;grind[Ks]
   |false=>
   simp only[MK] at B;split at B
   .rename_i st1 hp;split at B
    .split at B
     .rename_i r hr;cases ME:(c.args.toList.any (kI st1)|| !r.kC) with
      |true=>grind
      |false=>obtain⟨μ1,h1⟩:=ET F hp;rw[mE] at ME;grind[HK]
     simp_all
    simp_all
   simp_all
  simp_all
 simp_all
def ry:∀{l:List SV} {μ:Mu} {loc:Nat->Value} {st st':St} {a:Act} {w:World},Rel N w0 μ0 L μ loc st a w->om l st=some st'->∃B,μ.le B/\Rel N w0 μ0 L B loc st' a w
 |[],μ,loc,st,st',a,w,D,q=>by simp only[om,aM] at q;subst q;exact⟨μ,Mu.le.refl _,D⟩
 |s::l,μ,loc,st,st',a,w,D,q=>by
  unfold om at q;split at q
  .rename_i e;cases e
  .rename_i id V e;injection e with e1 F;subst e1;subst F;obtain⟨st1,R,S⟩:=dL.1 q;obtain⟨μ1,I,G⟩:=D.dK R;obtain⟨O,z,H⟩:=ry G S;exact⟨O,I.trans z,H⟩
  .rename_i s' V U e;injection e with e1 F;subst e1;subst F;exact ry D q
def RY (B:Rel N w0 μ0 L μ loc st a w) (l:fO L.q μ0 P cH) {o:Oper} (D:∀i,o.dst=some i->i<N) (q:step0 P h cH o st=some st') (z:mL N w0 μ0 L st' K):o.uw P a w K Q:=by
 unfold step0 at q;split at q
 .rename_i v F;injection q with q;subst q;exact Ty B l D F z
 .exact XD B l D q z
def z1:∀{l:List Nat} {st st':St} {μ:Mu} {loc:Nat->Value} {a:Act} {w:World},Rel N w0 μ0 L μ loc st a w->ny l st=some st'->∃q,μ.le q/\Rel N w0 μ0 L q loc st' a w
 |[],st,st',μ,loc,a,w,B,F=>by simp only[ny,aM] at F;subst F;exact⟨μ,Mu.le.refl _,B⟩
 |t::l,st,st',μ,loc,a,w,B,F=>by
  simp only[ny] at F;obtain⟨O,z,S⟩:=dL.1 F;obtain⟨U,I,G⟩:∃q,μ.le q/\Rel N w0 μ0 L q loc O a w:=by
   unfold u7 at z;split at z
   .exact B.dK z
   .split at z
    .exact ry B z
    .cases z
   .injection z with z;subst z;exact⟨μ,Mu.le.refl _,B⟩
  obtain⟨R,D,H⟩:=z1 G S;exact⟨R,I.trans D,H⟩
def JA (G:Rel N w0 μ0 L μ loc st a w) (l:fO L.q μ0 P cH) {o:Oper} (H:∀i,o.dst=some i->i<N) (z:step P h cH o st=some st') (F:mL N w0 μ0 L st' K):o.uw P a w K Q:=by unfold step at z;obtain⟨I,B,D⟩:=dL.1 z;obtain⟨O,_,q⟩:=z1 G B;exact RY q l H D F
def yL (H:Rel N w0 μ0 L μ loc st a w) {B:Array Oper} {o:Oper} {b:Bool} (l:pz B o st=some b):Region.wanted o (yielded B a.tmps)=b:=by
 unfold pz at l;unfold Region.wanted;split at l
 .rename_i D;injection l with l;subst l;rw[D]
 .rename_i j I D;rw[D];simp only;split at l
  .rename_i d q;split at l
   .rename_i t F;injection l with l;subst l;obtain⟨v,G,z⟩:=H.env d _ F;simp only[gG,rep] at z;subst z;simp[yielded,q,G]
   .rename_i F;injection l with l;subst l;obtain⟨v,G,z⟩:=H.env d _ F;have z:v=undef:=z;subst z;simp[yielded,q,G,undef]
   .cases l
  .cases l
def DV (B:fO L.q μ0 P cH) {I:Array Oper}:∀{l:List Oper} {st:St} {μ:Mu} {loc:Nat->Value} {a:Act} {w:World},Rel N w0 μ0 L μ loc st a w->(∀o∈l,∀i,o.dst=some i->i<N)->pS P h cH I l st=some st'->
  (∀U w' O z,Rel N w0 μ0 L O z st' U w'->Q .normal U w')->∀F,Wd F->wpListIn F 0 P I Q l a w:=by
 intro l;induction l with
 |nil=>intro st μ loc a w H _ q R F G;simp only[pS,aM] at q;subst q;exact R _ _ _ _ H
 |cons o l ih=>
  intro st μ loc a w H S q R F G;simp only[pS] at q;split at q
  .rename_i b hw;have D:=yL H hw;unfold wpListIn;rw[D];cases b with
   |true=>simp only[ai] at q;simp only[fQ];cases hs:step P h cH o st with
    |none=>simp[hs] at q
    |some st1=>simp[hs] at q;exact JA H B (S o ah) hs (λU w' O z h1=>ih h1 (λp V=>S p (by simp[V])) q R F G) F G
   |false=>simp only[az] at q;simp only[cU,ez];exact⟨λf _=>G.fn f,ih (H.set (S o ah) (show gG μ loc .undef undef from rfl)) (λp V=>S p (by simp[V])) q R F G⟩
  .cases q
end
