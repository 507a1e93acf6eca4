/- THE ABSTRACT MACHINE. -/
import Derived.Test.YthppjmoncapdfaaGreatDoorAmEff
set_option linter.all false
namespace Go.AM
open Go.RowKit
def Bf (μ:Mu) (w:World):Prop:=∀b j v,μ b j=some v->y5 w b j=some v
def gJ (q:Qp) (loc:Nat->Value) (names:List Nat):nV:=⟨λid=>if id∈names then some (loc id) else none,q⟩
def K7 (loc:Nat->Value) (l:List (Nat×Ob)):Prop:=∀i j q z,find l i=some q->find l j=some z->i≠j->∀g,gE (loc i) g->¬gE (loc j) g
structure dY (q:Qp) (μ:Mu) (loc:Nat->Value) (names:List Nat) (r:AV) (u5:List (Nat×Ob)) (w:World) (v:Value) (μ':Mu) (loc':Nat->Value) (w':World):Prop where
 ext:μ.ext w.heap.size μ'
 qk:Bf μ' w'
 res:rep μ' r v\/(∃n A m c,r= .self n/\10000∈names/\loc' 10000= .slice A m c/\n<=m/\v= .slice A n c)\/
  ∃e sz xs vs,r= .jy [.jy [.self e, .c4 sz xs]]/\w'.ownsRow 0 e sz v xs.length vs/\bS μ' sz xs vs/\∀g,aP v=some g->w.heap.size<=g/\(∀j,μ' g j=none)/\∀id o,find u5 id=some o->¬gE (loc' id) g
 obs:∀id o,find u5 id=some o->jC w.heap.size (gJ q loc names) μ' loc' w' id o
 apart:K7 loc' u5
 keep:∀b,b<w.heap.size->¬DJ (gJ q loc names) b->w'.heap[b]? =w.heap[b]?
 fix:∀id,id∈names->id<20000->loc' id=loc id
 os:w'.os=w.os
 tape:w'.tape=w.tape
 output:w'.output=w.output
 grown:w.heap.size<=w'.heap.size
 drawn:q->w.drawn<=w'.drawn
def dY.pure {q:Qp} {μ:Mu} {loc:Nat->Value} {names:List Nat} {r:AV} {l:List (Nat×Ob)} {w:World} {v:Value} {B:Mu} {z:Nat->Value} {w':World} (h:dY q μ loc names r l w v B z w') (D:r.iD=true):rep B r v:=by
 rcases h.res with h|⟨n,A,m,c,rfl,_⟩|⟨e,F,xs,G,rfl,_⟩<;>try cases D
 .exact h
def Ff {r:AV} (h:r.plain=true):r.iD=true:=by cases r with
 |self n=>cases h
 |jy z=>
  have:z.any AV.O3=false:=by rw[pV];intro x q l;have:=cH.1 (h) x q;cases x<;>simp[AV.O3,AV.scalar] at l this
  simp[AV.iD,this]
 |_=>rfl
def Bg (P:Program) (u:Value) (args:Array Value) (w:World) (R:Ending->World->Prop):Prop:=
 ∃(l:Nat) (f:FuncId) (z:Array Value) (q body:Code),u= .func (.yield l) #[] #[]/\(Instr.yield l args).run P w= .ok (.round l f z q body) w/\∀F,Wd F->RoundIn F (0-1) P l f z q body w R
def dX (q:Qp) (B:Mu) (P:Program) (bC:cr):Prop:=∀g args l r z,bC g args l=some (r,z)->∀(w:World) (μ:Mu) (loc:Nat->Value) (G:List Value),B.le μ->Bf μ w->
 (∀id o,find l id=some o->jC w.heap.size (gJ q loc (l.map (·.1))) μ loc w id o)->K7 loc l->fK μ loc args G->
 (g<2000000/\(∀I,(callFunc g G.toArray).run P I= .ok (.enter g G.toArray) I)/\
  Calls P g G.toArray w λe H=>∃v F D,e= .returned v/\dY q μ loc (l.map (·.1)) r z w v F D H)\/
 (2000000<=g/\(∃xs,find l 10000=some (.lp xs))/\∃as v,G=as++[v]/\
  Bg P (SL g [v]) as.toArray w λe H=>∃v F D,e= .returned v/\dY q μ loc (l.map (·.1)) r z w v F D H)
def dX.Vo {A B C R:Prop} {l:List (Nat×Ob)} {D:Prop} (h:(A/\B/\C)\/(D/\(∃xs,find l 10000=some (.lp xs))/\R)) (q:∀xs,find l 10000≠some (.lp xs)):B/\C:=by simp_all
def dX.mono {q:Qp} {B D:Mu} {P:Program} {bC:cr} (h:dX q B P bC) (G:B.le D):dX q D P bC:=
 λg args F r z H w μ loc I l=>h g _ _ r _ H w _ _ _ (G.trans l)
section
variable {P:Program} {N:Nat} {w0:World} {μ0:Mu} {L:nV} {μ:Mu} {loc:Nat->Value} {st st':St} {a:Act} {w:World} {Q:Exit->Act->World->Prop} {K:Act->World->Prop} {h:Hint} {bC:cr}
def zn {l:Type} {c:Bool} {x:Option l} {v:l} (h:(bif c then none else x)=some v):x=some v:=by grind
def jk {l:Type} {j i:Nat} {x v:l} (q:find [(j,x)] i=some v):i=j:=by grind[find,beq_iff]
def qG (O:Rel N w0 μ0 L μ loc st a w) {q:Mu} (l:μ.le q):∀{z:List l8} {D:List AV} {B:List Value},gQ st z=some D->gW μ loc z B->
  (∀id,l8.r id∈z->∀b j x,gE (loc id) b->y5 w b j=some x->q b j=some x)->bl q D B
 |[],D,B,h,k,_=>by simp[gQ,aB] at h;subst h;assumption
 | .v a::z,D,B,h,⟨u,_,e,H,I⟩,G=>by subst e;simp[gQ,bg] at h;obtain⟨W,U,rfl⟩:=h;exact bq (qP l _ _ H) (qG O l U I λid R=>G _ (by simp[R]))
 | .r _::z,D,B,h,⟨u,_,e,H,I⟩,G=>by
  subst e;simp[gQ] at h;split at h
  .rename_i v W U V;injection h with h;subst h;obtain⟨ob,S,F⟩:=bZ.1 U;refine bq ?_ (qG O l V I λid R=>G _ (by simp[R]));have e :=H;rw[e];exact Gi (O.obs _ _ S) F l (λb j x hb hc=>G _ ah b j x hb hc)
  grind
 | .p _::z,D,B,h,_,_=>by simp[gQ] at h
def Km (R:Rel N w0 μ0 L μ loc st a w) {s:SV} {v:AV} {u:Value} (l:jI st s=some v) (O:eV μ loc s u) {F:Mu} (B:μ.le F)
  (z:∀id∈s.Fs,∀b j x,gE (loc id) b->y5 w b j=some x->F b j=some x):rep F v u:=by
 cases s with
 |pv x=>simp[jI,aB] at l;subst l;exact qP B _ _ O
 |row id=>obtain⟨ob,D,I⟩:=bZ.1 l;have e :=O;rw[e];exact Gi (R.obs _ _ D) I B (λb j x hb S=>z _ (by simp[SV.Fs,SV.ids]) b j x hb S)
 |ag cs=>simp[jI,bg] at l;obtain⟨vs,hv,rfl⟩:=l;obtain⟨us,rfl,S,h1⟩:=O;exact⟨us,rfl,qG R B hv S (λid hi=>z _ (dR.2 ⟨_,hi,rfl⟩)),h1⟩
 |aq id q=>cases q with
  |full=>simp[jI] at l
  |nr i=>
   simp[jI] at l;split at l
   .rename_i e sz k V s' xs ys D;split at l
    .rename_i zs hy;obtain⟨m,us,vs,U,hm,W,hrc,hk,h2,h3,h4,h5,h6,h7⟩:=R.obs _ _ D;obtain⟨u',cells,k1,k2,k3,k4,k5⟩:=h4 i _ hy;obtain⟨m',us',G,_,H⟩:=O;rw[U] at G;have V:=aC Array.toList (Value.tuple.inj G);obtain⟨rfl,rfl⟩:=V;have hu:u'=u:=by
      rcases H _ k1 with H|H
      .subst H;rcases k3.2 with⟨G,_⟩|⟨g,cap,cur,G,_⟩<;>simp[undef] at G
      .exact H
     grind[vq,SV.Fs,gO]
    simp_all
   simp_all
 |_=>simp[jI] at l
def uZ {id:Nat}:∀{l:List l8} {z:List AV},gQ st l=some z->id∈(SV.ag l).ids->∃G,st.ob id=some G
 |[],_,_,h=>by simp[SV.ids] at h
 | .v a::l,z,h,q=>by simp[gQ,bg] at h;obtain⟨D,F,rfl⟩:=h;exact uZ F (by assumption)
 | .r j::l,z,h,q=>by
  simp[gQ] at h;split at h
  .rename_i v D F B;simp only[SV.ids,xJ,aD] at q;rcases q with rfl|q
   .grind[Option.bind_eq_some_iff]
   .exact uZ B (by assumption)
  grind
 | .p j::l,z,h,_=>by simp[gQ] at h
def RT {s:SV} {v:AV} (h:jI st s=some v) {id:Nat} (z:id∈s.Fs):∃B,st.ob id=some B:=by cases s with
 |pv x=>simp[SV.Fs,SV.ids] at z
 |row j=>simp only[SV.Fs,SV.ids,cD] at z;subst z;obtain⟨B,l,_⟩:=bZ.1 (h:(st.ob id).bind Ob.val=some v);exact⟨B,l⟩
 |ag F=>simp only[jI,bg] at h;obtain⟨G,D,_⟩:=h;exact uZ D z
 |aq j q=>simp only[SV.Fs,cD] at z;subst z;cases q with
  |full=>simp[jI] at h
  |nr i=>
   simp only[jI] at h;split at h
   .rename_i l;exact⟨_,l⟩
   .cases h
 |_=>simp[jI] at h
def wF (I:Rel N w0 μ0 L μ loc st a w) {q:Mu} (D:μ.le q) {xs:List Operand} {G:List TypeId} {H:List AV} (h:gw P st xs G=some H)
  (l:∀x∈xs,∀t s v,aN P t st x=some s->jI st s=some v->∀id∈s.Fs,∀b j x,gE (loc id) b->y5 w b j=some x->q b j=some x):bl q H (xs.map a.eval):=by
 induction xs generalizing G H with
 |nil=>simp[gw] at h;subst h;exact cF
 |cons x xs R=>
  simp only[gw] at h;split at h
  .rename_i v U z F;injection h with h;subst h;cases B:aN P (G.headD 0) st x with
   |none=>rw[B] at z;cases z
   |some S=>rw[B] at z;simp only[dU] at z;exact bq (Km I z (aG I B) D (l x ah _ S _ B z)) (R F (λy O=>l y (by simp[O])))
  .cases h
def M6 {μ q:Mu} {r:AV} {v:Value} (h:r.plain=true) (k:rep μ r v):rep q r v:=by
 have z:∀(r:AV) (v:Value),r.scalar=true->rep μ r v->rep q r v:=λr v h k=>by cases r<;>simp[AV.scalar] at h<;>simpa[rep] using k
 cases r with
 |jy R=>rw[rep] at k⊢;obtain⟨F,e,l⟩:=k;refine⟨F,e,?_⟩;simp only[AV.plain] at h;clear e;induction R generalizing F with
  |nil=>simpa[bl] using l
  |cons x xs O=>rw[bl] at l;obtain⟨u,B,rfl,H,I⟩:=l;simp only[ic,aF] at h;exact bq (z _ _ h.1 H) (O h.2 B I)
 |bool b=>exact z _ _ rfl k
 |int b n=>exact z _ _ rfl k
 |str s=>exact z _ _ rfl k
 |c4 V xs=>simp[AV.plain,AV.scalar] at h
 |agg G=>simp[AV.plain,AV.scalar] at h
 |fn f D=>simp[AV.plain,AV.scalar] at h
 |ref G=>simp[AV.plain,AV.scalar] at h
 |mp U S=>simp[AV.plain,AV.scalar] at h
 |self n=>simp[AV.plain,AV.scalar] at h
 |yB=>simp[AV.plain,AV.scalar] at h
 |nw=>simp[AV.plain,AV.scalar] at h
 |hole=>simp[AV.plain,AV.scalar] at h
def x7 {D:Mu} {B:Nat->Value} {r:AV} {l:List (Nat×Ob)} {u:Value} {F:World} {q:Qp} (z:dY q μ loc [] r l w u D B F):Below w.heap.size w F:=
 ⟨z.os,z.tape,z.output,z.grown,λb G=>z.keep b G (by rintro⟨id,v,h,_⟩;simp[gJ] at h)⟩
def A9 {o:Oper} {c:Call} {f:Operand} {g:Nat} {q l:List Value} {r:AV} {u5:List (Nat×Ob)} (O:o.op= .call c) (W:c.callee= .value f) (hf:a.eval f= .func (.func g) #[] l.toArray)
  (G:c.args.toList.map a.eval=q) (he:∀S,(callFunc g (q++l).toArray).run P S= .ok (.enter g (q++l).toArray) S)
  {R:Value->World->Prop} (B:Calls P g (q++l).toArray w λe w'=>∃v,e= .returned v/\R v w') (V:∀v w',R v w'->K (a.put o.dst v) w'):o.qo P a w K Q:=by
 have z:c.args.map a.eval=q.toArray:=by rw[<-G,<-Array.toList_map]
 refine CR (λc' D=>by rw[O] at D;cases D) (x:= .enter g (q++l).toArray) (w':=w) ?_ λF I=> ?_
 .unfold execOp;rw[O];simp only[resolve,W,hf,Deferred.ofValue,invoke,ek,jf,e9,z];have e:(#[]++q.toArray)++l.toArray=(q++l).toArray:=ah;rw[e,he w]
 .refine⟨I.one,?_⟩;have H:CallsIn Fence.wide (0-1) P g (q++l).toArray w _:=kV.2 B;have U:CallsIn F (0-1) P g (q++l).toArray w (λe w'=>∃v,e= .returned v/\R v w'):=by
   have:=I;unfold Wd at this;rw[<-this] at H;exact H
  refine U.mono ?_;rintro e w' ⟨v,rfl,hr⟩;exact V v w' hr
def QJ {o:Oper} {c:Call} {f:Operand} {g:Nat} {z q l:List Value} (S:o.op= .call c) (hc:c.callee= .value f) (hf:a.eval f= .func (.func g) z.toArray l.toArray)
  (H:c.args.toList.map a.eval=q) (he:∀U,(callFunc g (z++(q++l)).toArray).run P U= .ok (.enter g (z++(q++l)).toArray) U)
  {R:Value->World->Prop} (D:Calls P g (z++(q++l)).toArray w λe w'=>∃v,e= .returned v/\R v w') (W:∀v w',R v w'->K (a.put o.dst v) w'):o.qo P a w K Q:=by
 have B:c.args.map a.eval=q.toArray:=by rw[<-H,<-Array.toList_map]
 refine CR (λc' G=>by rw[S] at G;cases G) (x:= .enter g (z++(q++l)).toArray) (w':=w) ?_ λF O=> ?_
 .unfold execOp;rw[S];simp only[resolve,hc,hf,Deferred.ofValue,invoke,ek,jf,e9,B];have e:(z.toArray++q.toArray)++l.toArray=(z++(q++l)).toArray:=ah;rw[e,he w]
 .refine⟨O.one,?_⟩;have I:CallsIn Fence.wide (0-1) P g (z++(q++l)).toArray w _:=kV.2 D;have V:CallsIn F (0-1) P g (z++(q++l)).toArray w (λe w'=>∃v,e= .returned v/\R v w'):=by
   have:=O;unfold Wd at this;rw[<-this] at I;exact I
  refine V.mono ?_;rintro e w' ⟨v,rfl,hr⟩;exact W v w' hr
def Bg.mono {u:Value} {args:Array Value} {R z:Ending->World->Prop} (h:Bg P u args w R) (S:∀e D,R e D->z e D):Bg P u args w z:=by obtain⟨l,f,B,q,body,G,H,I⟩:=h;exact⟨l,f,_,_,_,G,H,λF O=>(I F O).mono S⟩
def QK {o:Oper} {c:Call} {f:Operand} (W:o.op= .call c) (U:c.callee= .value f) {R:Value->World->Prop}
  (I:Bg P (a.eval f) (c.args.toList.map a.eval).toArray w λe w'=>∃v,e= .returned v/\R v w') (S:∀v w',R v w'->K (a.put o.dst v) w'):o.qo P a w K Q:=by
 obtain⟨l,g,B,q,body,V,H,z⟩:=I;have D:c.args.map a.eval=(c.args.toList.map a.eval).toArray:=by grind
 refine CR (λc' O=>by simp_all) (x:= .round l g B q body) (w':=w) ?_ λF G=> ?_
 .simp_all[execOp,resolve,Deferred.ofValue,invoke]
 .refine⟨G.one,(z F G).mono ?_⟩;simp_all
def BM (z:Rel N w0 μ0 L μ loc st a w) {f:Operand} {g:Nat} {l:List AV} (h:aN P 0 st f=some (.pv (.fn g l))):∃q:List Value,a.eval f= .func (.func g) #[] q.toArray/\bl μ l q:=by have:=aG z h;assumption
theorem IF {x:Operand} (h:iJ st x=false) {t:TypeId} {s:SV} {v:AV} (e:aN P t st x=some s) (l:jI st s=some v):s.Fs=[]:=by cases x with
 |tmp i=>simp[aN] at e;cases s with
  |pv x=>rfl
  |row j=>simp[iJ,e] at h
  |ag z=>simp[iJ,e] at h
  |aq j q=>simp[iJ,e] at h
  |_=>simp[jI] at l
 |const v=>simp[aN] at e;cases B:ofConst P t v<;>simp_all;subst e;rfl
 |func f=>simp[aN] at e;subst e;rfl
 |global g=>simp[aN] at e
theorem By (F:Rel N w0 μ0 L μ loc st a w) (z:dX L.q μ0 P bC) {o:Oper} {c:Call} {f:Operand} {g:Nat} {I vs:List AV} {r:AV} (hd:∀i,o.dst=some i->i<N) (ho:o.op= .call c) (hc:c.callee= .value f)
  (hf:aN P 0 st f=some (.pv (.fn g I))) (hvs:gw P st c.args.toList c.argTypes.toList=some vs) (hr:bC g ((vs++I).map .pv) []=some (r,[]))
  (hp:(r.plain|| !(c.args.toList.any (iJ st)))=true) (Nx:r.iD=true) (hK:jX N w0 μ0 L (st.set o.dst (.pv r)) K):o.qo P a w K Q:=by
 obtain⟨cs,MO,hcs⟩:=BM F hf;cases W:c.args.toList.any (iJ st) with
 |false=>
  have q:=wF F (Mu.le.refl _) hvs (λx hx t s v e hl id V=>by grind[IF]);obtain⟨he,hC⟩:=dX.Vo (z g _ _ r _ hr w _ loc _ F.base.1 F.qk (by simp[find]) (by intro i j oi oj V;simp[find] at V) (nJ (kA q hcs))) λxs=>by simp[find]
  refine A9 (R:=λv w'=>∃B l,dY L.q μ loc [] r [] w v B l w') (r:=r) (u5:=[]) ho hc MO rfl he (hC.mono ?_) ?_
  .simp
  .rintro v w' ⟨B,l,G⟩;exact hK _ _ _ _ ((F.grow G.ext G.qk (x7 G) G.drawn).set hd (G.pure Nx))
 |true=>
  have H :=by simpa[W] using hp
  let z6 :=λb=>∃id ob,st.ob id=some ob/\gE (loc id) b
  have:∀b,Decidable (z6 b):=λb=>Classical.propDecidable _
  let D :=λb j=>if z6 b then y5 w b j else μ b j
  have R:μ.le D:=λb j v hv=>by
   by_cases hb:z6 b
   .obtain⟨id,ob,S,QO⟩:=hb;have:=((F.obs _ _ S).block b QO).2.2 j;simp_all
   grind
  have U:Bf D w:=λb j v hv=>by
   by_cases hb:z6 b
   .simpa[D,hb] using hv
   .exact F.qk b j v (by grind)
  have q:=wF F R hvs (λx hx t s v e hl id V b j u hb O=>by
   obtain⟨ob,S⟩:=RT hl V;have hrow:z6 b:=⟨id,ob,S,hb⟩
   simpa[D,hrow] using O)
  obtain⟨he,hC⟩:=dX.Vo (z g _ _ r _ hr w _ loc _ (F.base.1.trans R) U (by simp[find]) (by intro i j oi oj V;simp[find] at V) (nJ (kA q (dK R _ _ hcs)))) λxs=>by simp[find]
  refine A9 (R:=λv w'=>∃B l,dY L.q D loc [] r [] w v B l w') (r:=r) (u5:=[]) ho hc MO rfl he (hC.mono ?_) ?_
  .simp
  .rintro v w' ⟨B,l,G⟩;exact hK _ _ _ _ ((F.HB (x7 G) G.drawn).set hd (M6 H (G.pure Nx)))
def yb (G:Rel N w0 μ0 L μ loc st a w) {xs:List Operand} {D:List AV} (h:pE st xs=some D):bl μ D (xs.map a.eval):=by induction xs generalizing D with
 |nil=>simp_all[pE,cF]
 |cons x xs I=>cases x with
  |tmp i=>
   simp[pE] at h;split at h
   .rename_i v F B l;injection h with h;subst h;obtain⟨u,z,q⟩:=G.env i _ B
    have:a.eval (.tmp i)=u:=by simp[Act.eval,z]
    exact bq (by rw[this];exact q) (I l)
   .rename_i U F B l;injection h with h;subst h;obtain⟨u,z,q⟩:=G.env i _ B
    have:a.eval (.tmp i)=u:=by simp[Act.eval,z]
    obtain⟨b,R,S,e,H,O⟩:=q;exact bq (by rw[this];exact⟨b,_,S,e,H.1,H.2,O⟩) (I l)
   grind
  |_=>simp[pE] at h
def ya (G:Rel N w0 μ0 L μ loc st a w) {xs:List Operand} {F:List l8} (h:mA st xs=some F):gW μ loc F (xs.map a.eval):=by induction xs generalizing F with
 |nil=>simp[mA] at h;subst h;rfl
 |cons x xs H=>cases x with
  |tmp i=>
   simp[mA] at h;split at h
   .rename_i v D B l;injection h with h;subst h;obtain⟨u,z,q⟩:=G.env i _ B
    have:a.eval (.tmp i)=u:=by simp[Act.eval,z]
    exact⟨_,_,rfl,by rw[this];exact q,H l⟩
   .rename_i O D B l;injection h with h;subst h;obtain⟨u,z,q⟩:=G.env i _ B
    have:a.eval (.tmp i)=u:=by simp[Act.eval,z]
    obtain⟨b,U,V,e,I,S⟩:=q;refine⟨_,_,rfl,?_,H l⟩;rw[this];exact⟨b,_,V,e,I.1,I.2,S⟩
   .rename_i id D B l;injection h with h;subst h;obtain⟨u,z,q⟩:=G.env i _ B
    have:a.eval (.tmp i)=u:=by simp[Act.eval,z]
    obtain⟨b,R,W⟩:=q;exact⟨_,_,rfl,⟨b,R,by simp_all⟩,H l⟩
   grind
  |_=>simp[mA] at h
def Ew (G:Rel N w0 μ0 L μ loc st a w) {o:Oper} {g:Nat} {first l:Array Operand} {d:Nat} {I:List AV} (W:d<N) (z:o.dst=some d) (R:o.op= .makeFunc (.func g) first l) (F:first.isEmpty=true)
  (S:rG st l.toList=some st') (B:pE st' l.toList=some I) (V:jX N w0 μ0 L (st'.set (some d) (.pv (.fn g I))) K):o.qo P a w K Q:=by
 obtain⟨U,O,q⟩:=Df G G S;have H:=yb q B;have D :=by simpa using F
 refine kT q (λi hi=>by simp_all) ⟨.func (.func g) #[] (l.toList.map a.eval).toArray,?_,?_⟩ (by rw[z];omega)
 .unfold execOp;rw[R,D];have e:l.map a.eval=(l.toList.map a.eval).toArray:=by grind
  simp[Instr.makeFunc,e]
 .show rep _ _ _;rw[rep];simp_all
theorem yH (q:Rel N w0 μ0 L μ loc st a w) {xs:List Operand} (h:jN.fu st xs=some st'):∃l,Rel N w0 μ0 L l loc st' a w:=by induction xs generalizing st μ with
 |nil=>grind[jN.fu]
 |cons x xs H=>cases x with
  |tmp i=>
   simp[jN.fu] at h;split at h
   .rename_i id G;cases z:st.bY id with
    |none=>simp_all
    |some B=>obtain⟨D,_,F⟩:=q.bY z;grind
   grind
  |_=>grind[jN.fu]
def zu (q:Rel N w0 μ0 L μ loc st a w) {xs:List Operand} (h:jN.gi st xs=some st'):∃l,Rel N w0 μ0 L l loc st' a w:=by grind[jN.gi,yH]
def Rel.VC (l:Rel N w0 μ0 L μ loc st a w) {id:Nat} {o:Ob} (O:st.ob id=none) (R:jC w0.heap.size L μ loc w id o)
  (z:∀j G,st.ob j=some G->∀g,gE (loc id) g->¬gE (loc j) g):Rel N w0 μ0 L μ loc { st with ob:=put st.ob id (some o) } a w:=by
 refine⟨l.small,l.names,l.fix,l.size,l.defers,l.env,l.qk,l.base,?_,?_,l.keep,l.os,l.tape,l.output,l.grown,l.drawn⟩
 .intro i F q;by_cases e:id=i
  .subst e;simp only[br,aB] at q;subst q;exact R
  .exact l.obs i F (by simpa only[aM _ _ e] using q)
 .intro i j F G q D B g H;by_cases S:id=i
  .subst S;simp only[aM _ _ B] at D;exact z j G D g H
  .simp only[aM _ _ S] at q;by_cases U:id=j
   .subst U;intro I;exact z i F q g I H
   .simp only[aM _ _ U] at D;exact l.apart i j F G q D B g H
def Dd (O:Rel N w0 μ0 L μ loc st a w) {AJ:Nat->Value}:∀{xs:List Operand} {H:List TypeId} {F:List SV} {ids:List Nat},vO P h st xs H=some (F,ids)->(∀id∈ids,AJ 10000=loc id)->fK μ AJ F (xs.map a.eval):=by intro xs;induction xs with
 |nil=>intro H F ids z _;simp only[vO,aB,aQ] at z;obtain⟨rfl,rfl⟩:=z;rfl
 |cons x xs S=>
  intro H F ids z B;simp only[vO] at z;split at z
  .rename_i id I D l q;simp only[aB,aQ] at z;obtain⟨rfl,rfl⟩:=z;refine⟨_,_,rfl,?_,S q (λi V=>B i (by simp[V]))⟩;show a.eval x=dO (AJ 10000);rw[B id ah];cases x with
   |tmp t=>simp only[kR] at l;cases R:h.gP.contains t with
    |false=>rw[R] at l;cases l
    |true=>
     simp only[R,ai] at l;split at l
     .rename_i id' U;injection l with l;subst l;obtain⟨v,z,W⟩:=O.env t _ U
      have:a.eval (.tmp t)=v:=by simp[Act.eval,z]
      rw[this];exact W
     .cases l
   |_=>simp[kR] at l
  .rename_i I D l q;split at z
   .rename_i v G;simp only[aB,aQ] at z;obtain⟨rfl,rfl⟩:=z;exact⟨_,_,rfl,dD O G,S q B⟩
   .cases z
  .cases z
theorem CZ (U:Rel N w0 μ0 L μ loc st a w) (uo:dX L.q μ0 P bC) {o:Oper} {c:Call} {f:Operand} {st1:St} (hd:∀i,o.dst=some i->i<N) (ho:o.op= .call c) (hc:c.callee= .value f)
  (G:lF P h bC st c f o.dst=some st1) (hK:jX N w0 μ0 L st1 K):o.qo P a w K Q:=by
 unfold lF at G;split at G
 .rename_i g caps vs id hf hvs;split at G
  .rename_i e sz xs qq;split at G
   .rename_i r' nm z B l hr;cases hb:(Nat.beq e z&&Nat.beq sz B&&Nat.beq nm 10000) with
    |false=>simp[hb] at G
    |true=>
     simp only[hb,ai] at G;simp only[aF] at hb;obtain⟨cs,MO,hcs⟩:=BM U hf;let AJ:Nat->Value:=λ_=>loc id
     have hok:=U.obs id _ qq;have hargs:=Dd U (AJ:=AJ) hvs (λi hi=>by simp at hi;subst hi;rfl);have OO:∀i oi,find [(10000,Ob.row e sz xs)] i=some oi->jC w.heap.size (gJ L.q AJ ([(10000,Ob.row e sz xs)].map (·.1))) μ AJ w i oi:=by intro i oi hi;simp only[find] at hi;cases V:Nat.beq 10000 i with
      |false=>simp[V] at hi
      |true=>simp only[V,ai,aB] at hi;subst hi;have:=beq_iff.1 V;subst this;obtain⟨us,I,hrc,hm⟩:=hok;refine⟨us,I,hrc,λq S=>⟨.inr ⟨loc id,by simp[gJ,AJ],S⟩,(hm q S).2⟩⟩
     obtain⟨he,hC⟩:=dX.Vo (uo g _ _ r' _ hr w μ AJ (c.args.toList.map a.eval++cs) U.base.1 U.qk OO (by
      intro i j oi oj hi hj hij;have h1:=jk hi;have h2:=jk hj
      omega) (lM hargs (nJ hcs))) λxs h=>by simp[find] at h
     refine A9 (R:=λv w'=>∃μ' F,dY L.q μ AJ ([(10000,Ob.row e sz xs)].map (·.1)) r' [(nm,Ob.row z B l)] w v μ' F w') (r:=r') (u5:=[]) ho hc MO rfl he (hC.mono ?_) ?_
     .rintro e w' ⟨v,μ',F,rfl,H⟩;exact⟨v,rfl,μ',F,H⟩
     .rintro v w' ⟨μ',F,H⟩;have hlb:∀b,DJ (gJ L.q AJ ([(10000,Ob.row e sz xs)].map (·.1))) b->gE (loc id) b:=by
       rintro b ⟨i,x,D,MN⟩;simp only[gJ] at D;split at D
       .injection D with D;subst D;exact MN
       .cases D
      have h1:=(U.drop id).world (w':=w') (μ':=μ') H.ext.1 (λb j x D=>by
        rcases H.ext.2 b j x D with D|D
        .exact .inl D
        .exact .inr (cV U.grown D)) H.qk (λk ok hk b hbk=>by
        by_cases z:id=k
        .subst z;simp[br] at hk
        .simp only[aM _ _ z] at hk;obtain⟨_,hlt,uq⟩:=(U.obs k ok hk).block b hbk;refine⟨H.keep b hlt (λhl=>U.apart id k _ ok qq hk z b (hlb b hl) hbk),λj=> ?_⟩;cases hj:μ' b j with
         |none=>rfl
         |some x=>
          rcases H.ext.2 b j x hj with D|D
          .rw[uq j] at D;cases D
          .omega) (λb V hl=>H.keep b (dH V U.grown) (λhl'=>by
        have hbb:=hlb b hl';rcases(hok.block b hbb).1 with D|⟨x,D,MN⟩
        .omega
        .exact hl ⟨id,x,D,MN⟩)) H.os H.tape H.output H.grown H.drawn
      have hnm:F nm=loc id:=by have:=beq_iff.1 hb.2;exact H.fix nm (by simp[this]) af
      obtain⟨us,I,hrc,hm⟩:=H.obs nm (.row z B l) (by simp[find,eu]);rw[hnm] at I hm;split at G
      .rename_i n;cases W:(Nat.ble n l.length&&fN id) with
       |false=>rw[W] at G;cases G
       |true=>
       simp only[W,ai,aB] at G;subst G;simp only[aF] at W;have hnl:n<=l.length:=cI W.1;obtain⟨A,m,cp,O,hnm',hvv⟩:∃A m cp,F 10000= .slice A m cp/\n<=m/\v= .slice A n cp:=by
        rcases H.res with D|⟨n',A,m,cp,R,_,h1,h2,h3⟩|⟨_,_,_,_,R,_⟩
        .rw[rep] at D;exact D.elim
        .injection R with R;subst R;exact⟨A,m,cp,h1,h2,h3⟩
        .cases R
       have e10:=beq_iff.1 hb.2;rw[e10] at hnm;rw[hnm] at O;have hid:id<10000\/20000<=id:=by
        have BP:=W.2;simp only[fN,ew] at BP;rcases BP with hm|hm
        .left;simpa[bA] using hm
        .right;exact cI (aF _ _▸hm).1
       have hblk:∀q,gE v q↔gE (loc id) q:=λq=>by rw[hvv,O,fz,fz];cases A<;>rfl
       have h2:=h1.new (id:=id) (val:=v) (o:= .row z B (l.take n)) hid ?_ (λj oj hj hne q S=>by
        simp only[aM _ _ (bI hne)] at hj
        exact U.apart id j _ oj qq hj (bI hne) q ((hblk q).1 S))
       .have heq:(St.new { env:=st.env,ob:=put st.ob id none } id (.row z B (l.take n)))=st.new id (.row z B (l.take n)):=by
         simp only[St.new,St.bX];congr 1;funext k;by_cases z:id=k
         .subst z;simp[br]
         .simp only[aM _ _ z]
        rw[heq] at h2;exact hK _ _ _ _ (h2.set hd (sv:= .row id) (Cj (by rw[hvv];rfl)))
       .have hlen:(l.take n).length=n:=aX;have MQ:=oH hrc n;refine⟨us.take (n *B),⟨by rw[bV MQ],?_⟩,MQ,λq S=> ?_⟩
        .rw[bu,hlen,hvv];rcases I.2 with⟨R,e2⟩|⟨q,cap,cur,R,k1,k2,k3,k4,k5,k6⟩
         .rw[O] at R;simp only[Value.slice.injEq] at R;obtain⟨rfl,rfl,rfl⟩:=R
          have:n=0:=af
          subst this;exact .inl ⟨rfl,rfl⟩
         .rw[O] at R;simp only[Value.slice.injEq] at R;obtain⟨rfl,rfl,rfl⟩:=R;refine .inr ⟨q,cp,cur,rfl,k1,k2,by omega,k4,k5,?_⟩;rw[<-k6,List.take_take,zQ (jd _ hnl)]
        .rw[bu,hblk q] at S;exact⟨(hok.block q S).1,(hm q S).2⟩
      .rename_i Nx;cases LA:r'.plain with
       |false=>rw[LA] at G;cases G
       |true=>
       simp only[LA,ai,aB] at G;subst G;have AI:jC w0.heap.size L μ' loc w' id (.row z B l):=⟨us,I,hrc,λq S=>⟨(hok.block q S).1,(hm q S).2⟩⟩
       have h2:=h1.VC (id:=id) (o:= .row z B l) (by simp[br]) AI (λj oj hj q S=>by
        by_cases z:id=j
        .subst z;simp[br] at hj
        .simp only[aM _ _ z] at hj
         exact U.apart id j _ oj qq hj z q S)
       have heq:({ env:=st.env,ob:=put (put st.ob id none) id (some (.row z B l)) }:St)={ env:=st.env,ob:=put st.ob id (some (.row z B l)) }:=by
        congr 1;funext k;by_cases z:id=k
        .subst z;simp[br]
        .simp only[aM _ _ z]
       rw[heq] at h2;exact hK _ _ _ _ (h2.set hd (H.pure (Ff LA)))
   .cases G
  .cases G
 .cases G
def Ht {n0:Nat} {R3:List (Nat×Nat×TypeId×Nat)} {id:Nat} {e:TypeId} {sz:Nat} {loc:Nat->Value}:∃val,dO val= .slice none 0 0/\(∀g,¬gE val g)/\jC n0 L μ (nZ loc id val) w id (yp R3 id e sz):=by
 have r:∃val,dO val= .slice none 0 0/\(∀g,¬gE val g)/\jC n0 L μ (nZ loc id val) w id (.row e sz []):=
  ⟨.slice none 0 0,rfl,λg l=>by simp[gE,aP] at l,[],⟨ah, .inl ⟨bu _ _ _,rfl⟩⟩,rfl,λg l=>by rw[bu] at l;simp[gE,aP] at l⟩
 unfold yp;split
 .rename_i k F G _;cases z:Nat.blt k sz with
  |false=>exact r
  |true=>
   refine⟨.tuple (.slice none 0 0::([]:List Value)).toArray,rfl,λg l=> ?_, .slice none 0 0,[],[],bu _ _ _,λq B=>(by simp[aP] at B),⟨ah, .inl ⟨rfl,rfl⟩⟩,rfl,⟨bA.mp z,ah⟩,rfl,rfl,by simp,by simp,by simp,ah⟩;rcases gO.1 l with h|⟨u,D,_⟩
   .simp[aP] at h
   .simp at D
 .exact r
def oA (S:Rel N w0 μ0 L μ loc st a w) {R3:List (Nat×Nat×TypeId×Nat)}:∀(l:List (Nat×TypeId×Nat)) (st:St) (loc:Nat->Value),Rel N w0 μ0 L μ loc st a w->(∀x∈l,x.1<10000)->
  ∃q,Rel N w0 μ0 L μ q (qj R3 l st) a w/\(∀x∈l,dO (q x.1)= .slice none 0 0)/\∀i,dO (loc i)= .slice none 0 0->dO (q i)= .slice none 0 0
 |[],st,loc,h,_=>⟨loc,h,by simp,λ_ h=>h⟩
 |(id,e,s)::l,st,loc,h,H=>by
  obtain⟨val,G,B,D⟩:=Ht (L:=L) (μ:=μ) (w:=w) (n0:=w0.heap.size) (R3:=R3) (id:=id) (e:=e) (sz:=s) (loc:=loc);have I:=h.new (id:=id) (val:=val) (o:=yp R3 id e s) (.inl (H (id,e,s) ah)) D (λj oj W _ g U=>absurd U (B g));obtain⟨q,O,R,F⟩:=oA S l _ _ I (λx z=>H x (by simp[z]));refine⟨q,O,λx z=> ?_,λi V=>F i ?_⟩
  .rcases aD.1 z with rfl|z
   .exact F _ (by rw[bu];exact G)
   .exact R x z
  .by_cases e:i=id
   .subst e;rw[bu];exact G
   .rw[bB _ _ e];exact V
def rO {d:Nat}:∀(j:Nat) (U:List TypeId) (H:List Value) (z:List SV) (l:List (Nat×TypeId×Nat)),qg P d j U H=some (z,l)->
  (∀x∈l,x.1<10000)/\(∀u∈H,u.oneCell'=true)/\∀(loc:Nat->Value),(∀x∈l,dO (loc x.1)= .slice none 0 0)->fK μ loc z H
 |j,[],[],z,l,q=>by simp only[qg,aB,aQ] at q;obtain⟨rfl,rfl⟩:=q;exact⟨ah,by simp,λ_ _=>rfl⟩
 |j,[],_::_,z,l,q=>by simp[qg] at q
 |j,_::_,[],z,l,q=>by simp[qg] at q
 |j,t::U,v::H,z,l,q=>by
  simp only[qg] at q;split at q
  .rename_i G l' B;obtain⟨V,W,i3⟩:=rO (j+1) U H G l' B;split at q
   .rename_i e s hs;cases I:(Nat.blt 0 s&&Nat.blt (5000+16 *d+j) 10000) with
    |false=>rw[I] at q;cases q
    |true=>
     simp only[I,ai,aB,aQ] at q;obtain⟨rfl,rfl⟩:=q;simp only[aF] at I;have S:5000+16 *d+j<10000:=by have:=I.2;simpa[bA] using this
     refine⟨λx F=> ?_,λu D=> ?_,λloc R=> ?_⟩
     .rcases aD.1 F with rfl|F
      .exact S
      .exact V x F
     .rcases aD.1 D with rfl|D
      .rfl
      .exact W u D
     .exact⟨_,_,rfl,(by show _=dO (loc _);rw[R (5000+16 *d+j,e,s) ah]),i3 loc (λx F=>R x (by simp[F]))⟩
   .simp only[bg,aQ] at q;obtain⟨av,O,rfl,rfl⟩:=q;have hr:=rE (μ:=μ) O;refine⟨V,λu D=> ?_,λloc R=>⟨_,_,rfl,hr,i3 loc R⟩⟩;rcases aD.1 D with rfl|D
    .unfold ofConst at O;split at O<;>first|rfl|cases O
    .exact W u D
  .cases q
def C0 (G:Rel N w0 μ0 L μ loc st a w) {o:Oper} {d:Nat} {t:TypeId} {B:List SV} {l:List (Nat×TypeId×Nat)} (W:d<N) (z:o.dst=some d) (ho:o.op= .alloc t)
  (hz:((vJ P t).bind λI=>qg P d 0 (rf P 8 t) I)=some (B,l)) (V:jX N w0 μ0 L (((qj h.nest l st).new d (.box t (B.map (SV.bX d)))).set (some d) (.ptr d 0)) K):o.qo P a w K Q:=by
 obtain⟨I,q,F⟩:=bZ.1 hz;unfold vJ at q;split at q
 .simp at q;obtain⟨v,hzv,rfl⟩:=q;obtain⟨O,R,S⟩:=rO 0 _ _ _ _ F;obtain⟨H,D,U,_⟩:=oA G l _ _ G O;refine yd D W z ?_ (vo _ _ (S _ U)) R V;simp_all[execOp,Instr.alloc,zeroValue,typeInfo,newVar,newRow]
 simp_all
def Fb (D:Rel N w0 μ0 L μ loc st a w) {s:SV} {l:List SV} {u:Value} (h:KF st s=some l) (k:eV μ loc s u):fK μ loc l u.cells.toList/\∀x∈u.cells.toList,x.oneCell'=true:=by
 unfold KF at h;split at h
 .injection h with h;subst h;obtain⟨F,rfl,B,q⟩:=k;simp_all[Value.cells,nJ]
 .cases z:nC st s with
  |false=>simp_all
  |true=>rw[z] at h;simp at h;subst h;obtain⟨B,q⟩:=KB D z k;rw[q];exact⟨⟨_,[],rfl,k,rfl⟩,by simp_all⟩
def zY (U:Rel N w0 μ0 L μ loc st a w) {place:Nat->Option (Nat×Nat)} {ty:Nat->TypeId}:∀{q:List (Nat×Operand)} {S:List (Nat×List SV)} {cells O:List SV} {I:List Value},yE P ty st q=some S->Hl place cells S=some O->fK μ loc cells I->(∀u∈I,u.oneCell'=true)->
  ∃ws:List Value,Instr.fill place I.toArray (q.map λp=>(p.1,a.eval p.2))=some ws.toArray/\fK μ loc O ws/\∀u∈ws,u.oneCell'=true
 |[],S,cells,O,I=>λG H R h4=>by simp_all[yE,Hl,Instr.fill]
 |(i,x)::q,S,cells,O,I=>λG H R h4=>by
  simp[yE] at G;split at G
  .rename_i l rest hx D;injection G with G;subst G;obtain⟨sx,V,hl⟩:=bZ.1 hx;obtain⟨W,hone⟩:=Fb U hl (aG U V);simp only[Hl] at H;split at H
   .cases H
   .rename_i F size LA;split at H
    .rename_i z;have hlen :=by
      have:=lN W;simpa[z.1] using this
     have hvl:=lN R;have B:=lM (lM (xB R F) W) (xA R (F+size));obtain⟨ws,hw,hr,ho⟩:=zY U D H B (λu hu=>by grind);simp[aK,Instr.fill];have hsp:=Aw I (a.eval x).cells.toList F 0 aX;grind[Array.toList_zipIdx]
    simp_all
  simp_all
def wv:∀{D:List SV} {l:List l8} {B:List Value},x8 st D=some l->fK μ loc D B->gW μ loc l B
 |[],l,B=>λh k=>by simp[x8,aB] at h;subst h;exact k
 |s::D,l,B=>λh ⟨u,O,e,F,I⟩=>by
  simp[x8] at h;split at h
  .rename_i c G q z;injection h with h;subst h;refine⟨u,O,e,?_,wv z I⟩;unfold SH at q;cases H:nC st s with
   |false=>simp_all
   |true=>
    rw[H] at q;split at q
    .injection q with q;subst q;exact F
    .injection q with q;subst q;exact F
    simp_all
  grind
def C6 (V:Rel N w0 μ0 L μ loc st a w) {hh:Hint} {o:Oper} {d:Nat} {t:TypeId} {q:Array (Nat×Operand)} (hd:d<N) (F:o.dst=some d) (ho:o.op= .build t q) (h:zb P hh st d t q.toList=some st') (hK:jX N w0 μ0 L st' K):o.qo P a w K Q:=by
 unfold zb at h;split at h
 .rename_i U svs l hu hz;cases G:U.toList.all (λf=>(iO P f.type).isSome) with
  |false=>simp_all
  |true=>
   rw[G] at h;simp only[ai] at h;split at h
   .rename_i ps R;split at h
    .rename_i cs O;injection h with h;subst h;obtain⟨sv2,hf,I⟩:=bZ.1 O;obtain⟨vs,z,B⟩:=bZ.1 hz;unfold vJ at z;split at z
     .rename_i i hi;simp only[bg] at z;obtain⟨v,hzv,rfl⟩:=z;obtain⟨h1,h2,h3⟩:=rO 0 _ _ _ _ B;obtain⟨W,D,h4,_⟩:=oA V l _ _ V h1;obtain⟨ws,hw,hr,H⟩:=zY D R hf (h3 _ h4) h2;refine eW (v:= .agg ws.toArray) (w':=w) ?_ ?_
      .obtain⟨S⟩:=U;have LA:=run_places (w:=w) _ G;have hpe:(λx=>Option.map (λf:Field=>(f.offset,(iO P f.type).getD 0)) S[x]?)=kS P t:=by
        funext x;simp[kS,rq,hu,zM];cases hx:S[x]? with
        |none=>rfl
        |some fd=>grind[Option.isSome_iff_exists]
       simp_all[execOp,Instr.build,zeroValue,typeInfo,aU]
      .rw[F];exact hK _ _ _ _ (D.set (λi hi=>by simp_all) ⟨ws,rfl,wv I hr,H⟩)
     simp_all
    grind
   grind
 grind
def qC:∀{l:List Nat},distinct l=true->l.Nodup
 |[],_=>List.nodup_nil
 |x::l,h=>by simp[distinct,aF] at h;refine gl.2 ⟨λq=> ?_,qC h.2⟩;simp_all
def qp {q:Type}:∀{l:List (Nat×q)} {i:Nat} {v:q},find l i=some v->(i,v)∈l
 |[],_,_,h=>by simp[find] at h
 |(j,u)::l,i,v,h=>by simp[find] at h;cases z:Nat.beq j i with
  |true=>simp_all
  |false=>simp[z] at h;exact cK _ (qp h)
def Dy {z:Type}:∀{l:List (Nat×z)} {i:Nat},find l i=none->i∉l.map (·.1)
 |[],_,_=>by simp
 |(j,u)::l,i,h=>by simp[find] at h;cases q:Nat.beq j i with
  |true=>simp_all
  |false=>simp[q] at h;simp only[aK,aD,not_or];exact⟨λe=>by simp_all,Dy h⟩
def lJ {z:Type}:∀{l:List (Nat×z)} {i:Nat} {v:z},(l.map (·.1)).Nodup->(i,v)∈l->find l i=some v
 |[],_,_,_,h=>by simp at h
 |(j,u)::l,i,v,q,h=>by
  simp at q;simp[find];rcases aD.1 h with h|h
  .simp_all
  .have:j≠i:=λe=>by simp_all
   rw[N2 this];exact lJ q.2 h
def oU (q:Nat->Bool):∀(k:Nat) (l:List Nat),(gK q k l).map (·.1)=l
 |_,[]=>rfl
 |k,id::l=>by simp[gK,oU _ _ l]
def rU (q:Nat->Bool):∀(k:Nat) (l:List Nat),k+l.length<=10000->∀p∈gK q k l,(q p.1=true->20000+k<=p.2)/\(q p.1=false->10000+k<=p.2/\p.2<20000)
 |_,[],_,p,h=>by simp[gK] at h
 |k,id::l,z,p,h=>by
  simp only[aT] at z;simp only[gK,aD] at h;rcases h with rfl|h
  .cases B:q id<;>simp[B]<;>omega
  .have:=rU q (k+1) l af p h;exact⟨λe=>by have:=this.1 e;omega,λe=>by have:=this.2 e;omega⟩
def rT (q:Nat->Bool):∀(k:Nat) (l:List Nat),k+l.length<=10000->((gK q k l).map (·.2)).Nodup
 |_,[],_=>by simp[gK]
 |k,id::l,F=>by simp only[aT] at F;simp only[gK,aK,gl];refine⟨λG=> ?_,rT q (k+1) l af⟩;obtain⟨p,H,e⟩:=aA.1 G;have:=rU q (k+1) l af p H;cases B:q p.1 with
  |true=>have D:=this.1 B;cases z:q id<;>simp[z] at e<;>omega
  |false=>have D:=this.2 B;cases z:q id<;>simp[z] at e<;>omega
def Cv:∀(m:List (Nat×Nat)),(swap m).map (·.1)=m.map (·.2)
 |[]=>rfl
 |(a,b)::l=>by simp[swap,Cv l]
def BZ:∀{m:List (Nat×Nat)} {a b:Nat},(a,b)∈m->(b,a)∈swap m
 |(x,y)::l,a,b,h=>by
  rcases aD.1 h with h|h
  .injection h with q z;subst q;subst z;simp[swap]
  .simp only[swap];exact cK _ (BZ h)
def vm {loc l:Nat->Value} {G:Nat->Nat} {names:List Nat} (q:∀j∈names,l (G j)=loc j):∀{z:List l8} {D:List Value},SV.closed names (.cl 0 z)=true->gW μ loc z D->gW μ l (z.map (l8.pq G)) D
 |[],D,_,h=>h
 |c::z,D,B,⟨u,R,e,F,H⟩=>by simp only[SV.closed,ic,aF] at B;refine⟨u,R,e,?_,vm q (by simpa[SV.closed] using B.2) H⟩;cases c with
  |v a=>exact F
  |p id=>obtain⟨b,I,O⟩:=F;exact⟨b,by rw[q id (by simpa using B.1)];exact I,O⟩
  |r id=>show u=dO (l (G id));rw[q id (by simpa using B.1)];exact F
def IC {loc loc':Nat->Value} {ρ:Nat->Nat} {names:List Nat} (l:∀j∈names,loc' (ρ j)=loc j) {s:SV} {v:Value} (B:s.closed names=true) (h:eV μ loc s v):eV μ loc' (s.pq ρ) v:=by induction s generalizing v with
 |two s b O=>obtain⟨x,e,h⟩:=h;exact⟨x,e,O (by simpa[SV.closed] using B) h⟩
 |undef=>exact h
 |any=>exact h
 |pv x=>exact h
 |cp S=>exact h
 |ptr j G=>obtain⟨b,z,D⟩:=h;exact⟨b,by rw[l j (by simpa[SV.closed] using B)];exact z,D⟩
 |row j=>show v=dO (loc' (ρ j));rw[l j (by simpa[SV.closed] using B)];exact h
 |rp j R i G=>obtain⟨g,n,c,z,D⟩:=h;exact⟨g,n,c,by rw[l j (by simpa[SV.closed] using B)];exact z,D⟩
 |sub j R V U=>obtain⟨A,n,c,I,c',z,D⟩:=h;exact⟨A,n,c,I,c',by rw[l j (by simpa[SV.closed] using B)];exact z,D⟩
 |cl f F=>obtain⟨H,e,z⟩:=h;exact⟨H,e,vm l (by simpa[SV.closed] using B) z⟩
 |ag F=>obtain⟨H,e,z,D⟩:=h;exact⟨H,e,vm l (by simpa[SV.closed] using B) z,D⟩
 |aq j q=>simp[SV.closed] at B
def zy {loc l:Nat->Value} {F:Nat->Nat} {names:List Nat} (q:∀j∈names,l (F j)=loc j):∀{z:List SV} {B:List Value},z.all (SV.closed names)=true->fK μ loc z B->fK μ l (z.map (SV.pq F)) B
 |[],B,_,h=>h
 |c::z,B,D,⟨u,I,e,G,H⟩=>by simp only[ic,aF] at D;exact⟨u,I,e,IC q D.1 G,zy q D.2 H⟩
def B9 {n0 n0':Nat} {L L':nV} {loc loc':Nat->Value} {ρ:Nat->Nat} {names:List Nat} (O:∀j∈names,loc' (ρ j)=loc j) {id id':Nat} {o:Ob} (H:o.closed names=true) (h:jC n0 L μ loc w id o) (hid:loc' id'=loc id)
  (l:∀b,gE (loc id) b->zq n0' L' id' b) (hq:L'.q=L.q:=by rfl):jC n0' L' μ loc' w id' (o.pq ρ):=by
 cases o with
 |box t cells=>obtain⟨b,F,q,U,B,z,hs,D⟩:=h;exact⟨b,F,by simp_all,l b (by rw[q];exact mq.2 rfl),B,z,zy O H hs,D⟩
 |row e sz xs=>obtain⟨F,hw,I,z⟩:=h;exact⟨F,by simp_all,I,λg W=>by simp_all⟩
 |mp k e ks es=>obtain⟨b,R,G,q,U,B,z,D,S,V⟩:=h;exact⟨b,_,_,by simp_all,l b (by rw[q];exact qh.2 rfl),B,z,D,S,V⟩
 |mr k e sz ks F=>simp[Ob.closed] at H
 |rn e s k e' s' xs ys=>simp[Ob.closed] at H
 |it s pos=>obtain⟨b,q,U,B,z⟩:=h;exact⟨b,by simp_all,l b (by rw[q];exact mq.2 rfl),B,z⟩
 |lp xs=>obtain⟨us,q,D,S⟩:=h;exact⟨us,by simp_all,λg W=>by simp_all,by simp_all⟩
def yI {tm:Nat->Option Value}:∀(l:List Nat) (st:St) (loc q:Nat->Value),(∀i,i∉l->q i=loc i)->(∀i s,st.env i=some s->∃v,tm i=some v/\eV μ loc s v)->∀i s,(iG l st).env i=some s->∃v,tm i=some v/\eV μ q s v
 |[],st,loc,q,B,h,i,s,z=>by
  have :=funext λi=>B i ah
  rw[this];exact h i s z
 |id::l,st,loc,q,B,h,i,s,z=>by
  refine yI l _ (nZ loc id (q id)) _ (λi D=> ?_) (λi s z=> ?_) i s z
  .grind[bu,bB]
  .simp[St.bX,bg] at z;grind[tZ]
def Aj:∀(l:List Nat) (st:St) (loc q:Nat->Value),(∀i,i∉l->q i=loc i)->∀i B,(iG l st).ob i=some B->i∉l/\∃o,st.ob i=some o/\∀D L μ w,jC D L μ loc w i o->jC D L μ q w i B
 |[],st,loc,q,G,i,B,z=>by
  have :=funext λi=>G i ah
  rw[this];exact⟨ah,B,z,λ_ _ _ _ h=>h⟩
 |id::l,st,loc,q,G,i,B,z=>by
  obtain⟨I,R,F,H⟩:=Aj l _ (nZ loc id (q id)) q (λi O=>by grind[bu,bB]) i _ z;by_cases e:id=i
  .simp_all[St.bX,br]
  .simp[St.bX,aM _ _ e,bg] at F;obtain⟨o,z,rfl⟩:=F;exact⟨by grind,o,z,λD L μ w h=>H _ L _ w (xu h (bI e))⟩
def x4 (F:Rel N w0 μ0 L μ loc st a w):∀{xs:List Operand} {z:List TypeId} {q:List SV},pz P h st xs z=some q->fK μ loc q (xs.map a.eval)
 |[],z,q,l=>by simp[pz,aB] at l;subst l;rfl
 |x::xs,z,q,l=>by
  simp[pz] at l;split at l
  .rename_i v G B D;injection l with l;subst l;refine⟨_,_,rfl,?_,x4 F D⟩;unfold NZ at B
   all_goals first
    |grind[aG]
    |cases B
    |(cases H:isRef h x with
      |false=>simp_all
      |true=>grind[aG])
  simp_all
def wG {ids:List Nat} {G:Nat->Nat}:∀{l:List (Nat×Nat)} {q:List (Nat×Ob)},jl st ids G l=some q->q.map (·.1)=l.map (·.2)/\∀D F,(D,F)∈q->∃id o,(id,D)∈l/\st.ob id=some o/\o.closed ids=true/\F=o.pq G
 |[],q,B=>by simp_all[jl]
 |(id,D)::l,q,B=>by
  simp[jl] at B;split at B
  .rename_i o S R z;cases O:o.closed ids with
   |false=>simp_all
   |true=>obtain⟨H,I⟩:=wG z;grind
  simp_all
def wu {names:List Nat} {H:Nat->Nat}:∀{l:List (Nat×Nat)} {q back:List (Nat×Ob)},kG names H l q=some back->q.map (·.1)=l.map (·.2)/\back.map (·.1)=l.map (·.1)/\∀id G,(id,G)∈back->∃B o,(id,B)∈l/\(B,o)∈q/\o.closed names=true/\G=o.pq H
 |[],[],back,z=>by simp_all[kG]
 |[],_::_,back,z=>by simp[kG] at z
 |_::_,[],back,z=>by simp[kG] at z
 |(id,B)::l,(F,o)::U,back,z=>by simp[kG] at z;cases D:(Nat.beq B F&&o.closed names) with
  |false=>simp_all
  |true=>simp[D,ai,bg] at z;obtain⟨r,I,rfl⟩:=z;simp only[aF] at D;have:=beq_iff.1 D.1;obtain⟨O,R,S⟩:=wu I;grind
theorem uW (U:Rel N w0 μ0 L μ loc st a w) (uo:dX L.q μ0 P bC) {o:Oper} {c:Call} {f:Operand} {st1:St} (hd:∀i,o.dst=some i->i<N) (ho:o.op= .call c) (hc:c.callee= .value f)
  (hv:gC P h bC st c f o.dst=some st1) (hK:jX N w0 μ0 L st1 K):o.qo P a w K Q:=by
 unfold gC at hv;split at hv
 .rename_i g pre caps vs hf hvs;simp only[] at hv;generalize hids:iz st 200 ((pre++(vs++caps)).flatMap SV.ids) []=ids at hv;generalize BP:jm (o.dst.any h.stay.contains) st (lV (pre++(vs++caps)))=mv at hv;generalize hm:gK mv 0 ids=m at hv;cases Lw:(distinct ids&&Nat.blt ids.length 10000&&(pre++(vs++caps)).all (SV.closed ids)) with
  |false=>rw[Lw] at hv;cases hv
  |true=>
  simp only[Lw,ai] at hv;simp only[aF] at Lw;obtain⟨⟨hdis,hlen⟩,V8⟩:=Lw;have hlen:ids.length<10000:=by simpa[bA] using hlen
  have hnd:=qC hdis;have Nw:m.map (·.1)=ids:=by rw[<-hm];exact oU _ _ _
  have Ur:∀p∈m,(mv p.1=true->20000<=p.2)/\(mv p.1=false->10000<=p.2/\p.2<20000):=by rw[<-hm];intro p z;have:=rU mv 0 ids af p z;exact⟨λe=>by have:=this.1 e;omega,λe=>by have:=this.2 e;omega⟩
  have Wi:(m.map (·.2)).Nodup:=by rw[<-hm];exact rT mv 0 ids af
  have RK:∀id l,(id,l)∈m->find m id=some l:=λid l z=>lJ (by rw[Nw];exact hnd) z
  have I:∀id l,(id,l)∈m->find (swap m) l=some id:=λid l z=>lJ (by rw[Cv];exact Wi) (BZ z)
  have hex:∀id∈ids,∃l,(id,l)∈m:=λid hid=>by rw[<-Nw] at hid;obtain⟨p,z,rfl⟩:=aA.1 hid;exact⟨p.2,z⟩
  let S:Nat->Value:=λl=>match find (swap m) l with
   |some id=>loc id
   |none=>loc l
  have H:∀id l,(id,l)∈m->S l=loc id:=λid l z=>by simp only[S,I id l z]
  have hren:∀id l,(id,l)∈m->mP m id=l:=λid l z=>by simp[mP,RK id l z]
  have Wq:∀id l,(id,l)∈m->mP (swap m) l=id:=λid l z=>by simp[mP,I id l z]
  have hρ:∀j∈ids,S (mP m j)=loc j:=λj hj=>by obtain⟨l,z⟩:=hex j hj;rw[hren j l z,H j l z]
  split at hv
  .rename_i O OO;obtain⟨hl1,QT⟩:=wG OO;have hlnd:(O.map (·.1)).Nodup:=by rw[hl1];exact Wi
   split at hv
   .rename_i r R hr;split at hv
    .rename_i back V1;obtain⟨ML,Gn,hb3⟩:=wu V1;have hbnd:(R.map (·.1)).Nodup:=by rw[ML];exact Wi
     have hbid:back.map (·.1)=ids:=by rw[Gn,Nw]
     cases Nx:r.iD with
     |false=>rw[Nx] at hv;cases hv
     |true=>
     simp only[Nx,ai,aB] at hv;subst hv;obtain⟨sf,hsf,B⟩:=bZ.1 hf;have hfv:=aG U hsf;obtain⟨ps,cs,hps,hcs,MO⟩:∃ps cs:List Value,fK μ loc pre ps/\fK μ loc caps cs/\((g<2000000/\a.eval f= .func (.func g) ps.toArray cs.toArray)\/(2000000<=g/\ps=[]/\∃v,cs=[v]/\a.eval f=SL g [v])):=by
      unfold RE at B;split at B
      .rename_i g' SJ;cases hb:Nat.blt g' 1000000 with
       |false=>rw[hb] at B;cases B
       |true=>
       rw[hb] at B;simp only[ai,aB,aQ] at B;obtain⟨rfl,rfl,rfl⟩:=B;simp only[eV,rep] at hfv;obtain⟨us,e,hu⟩:=hfv;exact⟨[],us,rfl,nJ hu, .inl ⟨dH (bA.mp hb) (by decide),e⟩⟩
      .rename_i g' SJ;obtain⟨us,e,hu⟩:=hfv;cases hb:Nat.blt g' 1000000 with
       |true=>rw[hb] at B;simp only[ai,aB,aQ] at B;obtain⟨rfl,rfl,rfl⟩:=B;exact⟨[],us,rfl,oh hu, .inl ⟨dH (bA.mp hb) (by decide),by rw[e];simp only[SL,hb,ai]⟩⟩
       |false=>rw[hb] at B;simp only[aj] at B;cases Gn:Nat.blt g' 2000000 with
        |true=>rw[Gn] at B;simp only[ai,aB,aQ] at B;obtain⟨rfl,rfl,rfl⟩:=B;exact⟨us,[],oh hu,rfl, .inl ⟨sO (Nat.sub_le _ _) (bA.mp Gn),by rw[e];simp only[SL,hb,Gn,ai,aj]⟩⟩
        |false=>
         rw[Gn] at B;simp only[aj] at B;split at B
         .rename_i c0;simp only[aB,aQ] at B;obtain⟨rfl,rfl,rfl⟩:=B;obtain⟨u,us',e1,h1,h2⟩:=hu
          have:us'=[]:=h2
          subst this e1;refine⟨[],[u],rfl,oh (caps:=[c0]) ⟨u,[],rfl,h1,rfl⟩, .inr ⟨?_,rfl,u,rfl,e⟩⟩;cases Nat.lt_or_ge g' 2000000 with
          |inl h=>rw[bA.mpr h] at Gn;cases Gn
          |inr h=>exact h
         .cases B
      .cases B
     have hargs:=x4 U hvs;have hall:=zy hρ V8 (lM hps (lM hargs hcs));have OP:∀i oi,find O i=some oi->jC w.heap.size (gJ L.q S (O.map (·.1))) μ S w i oi:=by
      intro i oi hi;obtain⟨id,V,z,qq,hoc,rfl⟩:=QT i oi (qp hi);refine B9 hρ hoc (U.obs id _ qq) (H id i z) (λb hb=> .inr ⟨loc id,?_,hb⟩)
      have:i∈O.map (·.1):=by rw[hl1];exact aA.2 ⟨_,z,rfl⟩
      simp only[gJ,ak this,H id i z]
     have hapC:K7 S O:=by intro i j oi oj hi hj hij q hq;obtain⟨id,V,z,qq,_⟩:=QT i oi (qp hi);obtain⟨id',Vp,hp',AI,_⟩:=QT j oj (qp hj);rw[H id i z] at hq;rw[H id' j hp'];refine U.apart id id' V Vp qq AI (λe=>hij ?_) q hq;subst e;have:=(RK id i z).symm.trans (RK id j hp');injection this
     have hgo:(∀v w',(∃W F,dY L.q μ S (O.map (·.1)) r R w v W F w')->K (a.put o.dst v) w')->o.qo P a w K Q:=λhK'=>by
      rcases uo g _ _ r _ hr w μ S (ps++(c.args.toList.map a.eval++cs)) U.base.1 U.qk OP hapC hall with⟨hg,he,hC⟩|⟨hg,_,as,v0,wD,hY⟩
      .rcases MO with⟨_,MO⟩|⟨hg2,_⟩
       .refine QJ (R:=λv w'=>∃W F,dY L.q μ S (O.map (·.1)) r R w v W F w') ho hc MO rfl he (hC.mono ?_) hK';rintro e w' ⟨v,W,F,rfl,hP⟩;exact⟨v,rfl,W,F,hP⟩
       .omega
      .rcases MO with⟨hg2,_⟩|⟨_,rfl,v1,rfl,MO⟩
       .omega
       .rw[er] at wD;obtain⟨e1,e2⟩:=List.append_inj' wD rfl;simp only[cU,dL] at e2;subst e1 e2;rw[<-MO] at hY;refine QK (R:=λv w'=>∃W F,dY L.q μ S (O.map (·.1)) r R w v W F w') ho hc (hY.mono ?_) hK';rintro e w' ⟨v,W,F,rfl,hP⟩;exact⟨v,rfl,W,F,hP⟩
     refine hgo ?_;rintro v w' ⟨W,F,hP⟩;let G:Nat->Value:=λi=>match find m i with
      |some l=>F l
      |none=>loc i
     have MI:∀id l,(id,l)∈m->G id=F l:=λid l z=>by simp only[G,RK id l z]
     have Lv:∀i,i∉ids.filter mv->G i=loc i:=by intro i hi;cases SU:find m i with
      |none=>simp only[G,SU]
      |some l=>
       have z:=qp SU;have hmem:i∈ids:=by rw[<-Nw];exact aA.2 ⟨_,z,rfl⟩
       have hmv0:mv i=false:=by cases D:mv i with
        |false=>rfl
        |true=>exact absurd (jY.2 ⟨hmem,D⟩) hi
       rw[MI i l z,hP.fix l (by rw[hl1];exact aA.2 ⟨_,z,rfl⟩) ((Ur _ z).2 hmv0).2];exact H i l z
     have hlb:∀b,DJ (gJ L.q S (O.map (·.1))) b->∃id V,id∈ids/\st.ob id=some V/\gE (loc id) b:=by
      rintro b ⟨l,x,D,MN⟩;simp only[gJ] at D;split at D
      .rename_i hmem;injection D with D;subst D;rw[hl1] at hmem;obtain⟨p,z,rfl⟩:=aA.1 hmem;rw[H p.1 p.2 z] at MN;obtain⟨q,hq,e⟩:=aA.1 (show p.2∈O.map (·.1) by rw[hl1];exact aA.2 ⟨_,z,rfl⟩);obtain⟨id,V,k1,k2,_⟩:=QT q.1 q.2 hq;rw[e] at k1;have:=(I p.1 p.2 z).symm.trans (I id p.2 k1);injection this with this;exact⟨p.1,V,by rw[<-Nw];exact aA.2 ⟨_,z,rfl⟩,by rw[this];exact k2,MN⟩
      .cases D
     have Uo:∀i oi,st.ob i=some oi->i∉ids->jC w0.heap.size L W loc w' i oi:=by
      intro i oi hi hni;refine(U.obs i oi hi).keep hP.ext.1 (λb hb=> ?_);obtain⟨_,hlt,uq⟩:=(U.obs i oi hi).block b hb;refine⟨hP.keep b hlt (λhl=> ?_),λj=> ?_⟩
      .obtain⟨id,V,h1,h2,h3⟩:=hlb b hl;exact U.apart id i V oi h2 hi (λe=>hni (by rw[<-e];exact h1)) b h3 hb
      .cases hj:W b j with
       |none=>rfl
       |some x=>
        rcases hP.ext.2 b j x hj with D|D
        .rw[uq j] at D;cases D
        .omega
     have Uf:∀id o',find back id=some o'->∃l o,(id,l)∈m/\find R l=some o/\o.closed (m.map (·.2))=true/\o'=o.pq (mP (swap m)):=by intro id o' ON;obtain⟨l,o,h1,h2,h3,h4⟩:=hb3 id o' (qp ON);exact⟨l,o,h1,lJ hbnd h2,h3,h4⟩
     have HC:∀id l V b,(id,l)∈m->find R l=some V->gE (F l) b->w.heap.size<=b\/gE (loc id) b:=by
      intro id l V b z hfo hb;rcases((hP.obs l V hfo).block b hb).1 with D|⟨x,D,MN⟩
      .exact .inl D
      .right;simp only[gJ] at D;split at D
       .injection D with D;subst D;rw[H id l z] at MN;exact MN
       .cases D
     have SZ:∀id l,(id,l)∈m->∃V,st.ob id=some V:=by intro id l z;obtain⟨q,hq,e⟩:=aA.1 (show l∈O.map (·.1) by rw[hl1];exact aA.2 ⟨_,z,rfl⟩);obtain⟨id',V,k1,k2,_⟩:=QT q.1 q.2 hq;rw[e] at k1;have:=(I id l z).symm.trans (I id' l k1);injection this with this;exact⟨V,by rw[this];exact k2⟩
     have Lx:∀i oi,((find back i).orElse λ_=>(iG (ids.filter mv) st).ob i)=some oi->jC w0.heap.size L W G w' i oi/\((∃l o,(i,l)∈m/\find R l=some o)\/(i∉ids/\∃o,st.ob i=some o)):=by intro i oi hi;cases ON:find back i with
      |some o'=>
       rw[ON] at hi;simp at hi;subst hi;obtain⟨l,V,z,hfo,EJ,rfl⟩:=Uf i o' ON;refine⟨B9 (names:=m.map (·.2)) (λj hj=> ?_) EJ (hP.obs l V hfo) (MI i l z) (λb hb=> ?_), .inl ⟨l,V,z,hfo⟩⟩
       .obtain⟨q,hq,rfl⟩:=aA.1 hj;rw[Wq q.1 q.2 hq,MI q.1 q.2 hq]
       .rcases HC i l V b z hfo hb with D|D
        .exact .inl (cV U.grown D)
        .obtain⟨ob0,Un⟩:=SZ i l z;exact((U.obs i ob0 Un).block b D).1
      |none=>
       rw[ON] at hi;have hni:i∉ids:=by rw[<-hbid];exact Dy ON
       have hi':(iG (ids.filter mv) st).ob i=some oi:=by simpa using hi
       obtain⟨_,V,qq,hk⟩:=Aj _ st loc G Lv i oi hi';exact⟨hk _ _ _ _ (Uo i V qq hni), .inr ⟨hni,V,qq⟩⟩
     refine hK _ _ W G (Rel.set (sv:= .pv r) ?_ hd (hP.pure Nx));refine⟨U.small,U.names,?_,U.size,U.defers,?_,hP.qk,⟨U.base.1.trans hP.ext.1,?_⟩,λi oi hi=>(Lx i oi hi).1,?_,?_,hP.os.trans U.os,hP.tape.trans U.tape,hP.output.trans U.output,cV U.grown hP.grown,λq=>cV (U.drawn q) (hP.drawn q)⟩
     .intro id x D hlt;rw[Lv id (λhmem=> ?_)]
      .exact U.fix id x D hlt
      .have hmt:=(jY.1 hmem).2;rw[<-BP] at hmt;simp only[jm,aF,fN,ew] at hmt;rcases hmt.1.1.2 with hh|hh
       .have:id<10000:=by simpa[bA] using hh
        rw[U.names id this] at D;cases D
       .have:=cI hh.1;omega
     .exact yI (tm:=λi=>a.tmps[i]?) _ st loc G Lv (λi s hs=>by
       obtain⟨u,hu,hr⟩:=U.env i s hs
       exact⟨u,hu,zx hP.ext.1 hr⟩)
     .intro b j x D;rcases hP.ext.2 b j x D with D|D
      .exact U.base.2 b j x D
      .exact .inr (cV U.grown D)
     .intro i j oi oj hi hj hij q hq;have KD:∀k ok,k∉ids->st.ob k=some ok->∀q,gE (G k) q->gE (loc k) q/\q<w.heap.size:=by
       intro k ok hk hok q hq
       have:G k=loc k:=Lv k (λhm=>hk (jY.1 hm).1)
       rw[this] at hq;exact⟨hq,((U.obs k ok hok).block q hq).2.1⟩
      have mixed:∀i l o j oj q,(i,l)∈m->find R l=some o->j∉ids->st.ob j=some oj->gE (G i) q->gE (G j) q->False:=by
       intro i l o j oj q z hfo hj hoj hqi DE;obtain⟨hqj',hlt⟩:=KD j oj hj hoj q DE;rw[MI i l z] at hqi;rcases HC i l o q z hfo hqi with D|D
       .omega
       .obtain⟨ob0,Un⟩:=SZ i l z;exact U.apart i j ob0 oj Un hoj (λe=>hj (by rw[<-e,<-Nw];exact aA.2 ⟨_,z,rfl⟩)) q D hqj'
      rcases(Lx i oi hi).2 with⟨l,o,z,hfo⟩|⟨hni,V,qq⟩
      .rcases(Lx j oj hj).2 with⟨nm',o',hp',Uj⟩|⟨hnj,Vp,AI⟩
       .rw[MI i l z] at hq;rw[MI j nm' hp'];refine hP.apart l nm' o o' hfo Uj (λe=>hij ?_) q hq;subst e;have:=(I i l z).symm.trans (I j l hp');injection this
       .exact λDE=>mixed i l o j Vp q z hfo hnj AI hq DE
      .rcases(Lx j oj hj).2 with⟨nm',o',hp',Uj⟩|⟨hnj,Vp,AI⟩
       .exact λDE=>mixed j nm' o' i V q hp' Uj hni qq DE hq
       .obtain⟨hqi,_⟩:=KD i V hni qq q hq;intro DE;obtain⟨DE,_⟩:=KD j Vp hnj AI q DE;exact U.apart i j V Vp qq AI hij q hqi DE
     .intro b hb hl;refine(hP.keep b (dH hb U.grown) (λhl'=> ?_)).trans (U.keep b hb hl);obtain⟨id,V,_,h2,h3⟩:=hlb b hl';rcases((U.obs id V h2).block b h3).1 with D|⟨x,D,MN⟩
      .omega
      .exact hl ⟨id,x,D,MN⟩
    .cases hv
   .cases hv
  .cases hv
 .cases hv
mutual
theorem AV.nQ:∀(a b:AV),AV.same a b=true->a=b
 | .bool a,b=>by cases b<;>simp[AV.same]
 | .int k a,b=>by cases b<;>simp[AV.same]
 | .str a,b=>by cases b<;>simp[AV.same]
 | .c4 s xs,b=>by cases b<;>simp only[AV.same,aF,cv,jZ];rintro⟨h1,h2⟩;rw[beq_iff.1 h1,vw _ _ h2]
 | .agg a,b=>by cases b<;>simp only[AV.same,cv,jZ];intro h;rw[ku _ _ h]
 | .fn f a,b=>by cases b<;>simp only[AV.same,aF,cv,jZ];rintro⟨h1,h2⟩;rw[beq_iff.1 h1,ku _ _ h2]
 | .jy a,b=>by cases b<;>simp only[AV.same,cv,jZ];intro h;rw[ku _ _ h]
 | .ref a,b=>by cases b<;>simp only[AV.same,cv,jZ];intro h;rw[ku _ _ h]
 | .mp a b,c=>by cases c<;>simp only[AV.same,aF,cv,jZ];rintro⟨h1,h2⟩;rw[ku _ _ h1,ku _ _ h2]
 | .self n,b=>by cases b<;>simp only[AV.same,cv,jZ];intro h;rw[beq_iff.1 h]
 | .yB,b=>by cases b<;>simp[AV.same]
 | .nw,b=>by cases b<;>simp[AV.same]
 | .hole,b=>by cases b<;>simp[AV.same]
theorem ku:∀(a b:List AV),nN a b=true->a=b
 |[],[]=>λ_=>rfl
 |[],_::_=>λh=>by simp[nN] at h
 |_::_,[]=>λh=>by simp[nN] at h
 |x::l,y::m=>λh=>by simp only[nN,aF] at h;rw[AV.nQ x y h.1,ku l m h.2]
theorem vw:∀(a b:List (List AV)),vv a b=true->a=b
 |[],[]=>λ_=>rfl
 |[],_::_=>λh=>by simp[vv] at h
 |_::_,[]=>λh=>by simp[vv] at h
 |x::l,y::m=>λh=>by simp only[vv,aF] at h;rw[ku x y h.1,vw l m h.2]
end
mutual
theorem AV.jL:∀a:AV,AV.same a a=true
 | .bool a=>by simp[AV.same]
 | .int k a=>by simp[AV.same]
 | .str a=>by simp[AV.same]
 | .c4 s xs=>by simp[AV.same,eu,uc xs]
 | .agg a=>by simp[AV.same,jw a]
 | .fn f a=>by simp[AV.same,eu,jw a]
 | .jy a=>by simp[AV.same,jw a]
 | .ref a=>by simp[AV.same,jw a]
 | .mp a b=>by simp[AV.same,jw a,jw b]
 | .self n=>by simp[AV.same,eu]
 | .yB=>by simp[AV.same]
 | .nw=>by simp[AV.same]
 | .hole=>by simp[AV.same]
theorem jw:∀a:List AV,nN a a=true
 |[]=>rfl
 |x::l=>by simp[nN,AV.jL x,jw l]
theorem uc:∀a:List (List AV),vv a a=true
 |[]=>rfl
 |x::l=>by simp[vv,jw x,uc l]
end
def l8.nQ {a b:l8} (h:a.same b=true):a=b:=by
 cases a<;>cases b<;>simp[l8.same,cv] at h
 .rw[AV.nQ _ _ h]
 .simp_all
 simp_all
def l8.jL (a:l8):a.same a=true:=by cases a<;>simp[l8.same,AV.jL]
def vr:∀{a b:List l8},nP a b=true->a=b
 |[],[]=>λ_=>rfl
 |[],_::_=>λh=>by simp[nP] at h
 |_::_,[]=>λh=>by simp[nP] at h
 |x::l,y::m=>λh=>by simp only[nP,aF] at h;rw[l8.nQ h.1,vr h.2]
def wP:∀a:List l8,nP a a=true
 |[]=>rfl
 |x::l=>by simp[nP,l8.jL x,wP l]
def Ak.nQ {a b:Ak} (h:a.same b=true):a=b:=by
 cases a<;>cases b<;>simp only[Ak.same,cv] at h
 .rfl
 .rw[beq_iff.1 h]
def Ak.jL (a:Ak):a.same a=true:=by cases a<;>simp[Ak.same,eu]
def SV.nQ {a b:SV} (h:a.same b=true):a=b:=by induction a generalizing b with
 |two s x l=>cases b<;>simp only[SV.same,aF,cv] at h;rw[l h.1,mV.1 h.2]
 |undef=>cases b<;>simp only[SV.same,cv] at h;rfl
 |any=>cases b<;>simp only[SV.same,cv] at h;rfl
 |pv x=>cases b<;>simp only[SV.same,cv] at h;rw[AV.nQ _ _ h]
 |ptr x y=>cases b<;>simp only[SV.same,aF,cv] at h;rw[beq_iff.1 h.1,beq_iff.1 h.2]
 |row x=>cases b<;>simp only[SV.same,cv] at h;rw[beq_iff.1 h]
 |rp x y z u=>cases b<;>simp only[SV.same,aF,cv] at h;rw[beq_iff.1 h.1.1.1,beq_iff.1 h.1.1.2,beq_iff.1 h.1.2,beq_iff.1 h.2]
 |sub x y z u=>cases b<;>simp only[SV.same,aF,cv] at h;rw[beq_iff.1 h.1.1.1,beq_iff.1 h.1.1.2,beq_iff.1 h.1.2,beq_iff.1 h.2]
 |cp x=>cases b<;>simp only[SV.same,cv] at h;rw[ku _ _ h]
 |cl f x=>cases b<;>simp only[SV.same,aF,cv] at h;rw[beq_iff.1 h.1,vr h.2]
 |ag x=>cases b<;>simp only[SV.same,cv] at h;rw[vr h]
 |aq x y=>cases b<;>simp only[SV.same,aF,cv] at h;rw[beq_iff.1 h.1,Ak.nQ h.2]
def SV.jL (a:SV):a.same a=true:=by induction a<;>simp[SV.same,AV.jL,eu,jw,wP,Ak.jL, *]
theorem Cq:∀{a b:List SV},rH a b=true->a=b
 |[],[]=>λ_=>rfl
 |[],_::_=>λh=>by simp[rH] at h
 |_::_,[]=>λh=>by simp[rH] at h
 |x::l,y::m=>λh=>by simp[rH,aF] at h;rw[SV.nQ h.1,Cq h.2]
def yQ:∀a:List SV,rH a a=true
 |[]=>rfl
 |x::l=>by simp[rH,SV.jL x,yQ l]
theorem vU:∀{a b:List (Option (List (List AV)))},mF a b=true->a=b
 |[],[]=>λ_=>rfl
 |[],_::_=>λh=>by simp[mF] at h
 |none::_,[]=>λh=>by simp[mF] at h
 |some _::_,[]=>λh=>by simp[mF] at h
 |some x::l,some y::m=>λh=>by simp[mF,aF] at h;rw[vw _ _ h.1,vU h.2]
 |none::l,none::m=>λh=>by simp[mF] at h;rw[vU h]
 |some _::_,none::_=>λh=>by simp[mF] at h
 |none::_,some _::_=>λh=>by simp[mF] at h
def vt:∀a:List (Option (List (List AV))),mF a a=true
 |[]=>rfl
 |some x::l=>by simp[mF,uc x,vt l]
 |none::l=>by simp[mF,vt l]
def Ob.nQ {a b:Ob} (h:a.same b=true):a=b:=by
 cases a<;>cases b<;>simp[Ob.same,cv] at h
 .grind[beq_iff,Cq]
 .grind[beq_iff,vw]
 .grind[beq_iff,ku]
 .grind[beq_iff,ku,vU]
 .simp_all
 .rw[ku _ _ h]
 grind[beq_iff,vw,vU]
def Ob.jL (a:Ob):a.same a=true:=by cases a<;>simp[Ob.same,uc,jw,yQ,vt]
def Cp:∀{a b:List (Nat×Ob)},ql a b=true->a=b
 |[],[]=>λ_=>rfl
 |[],_::_=>λh=>by simp[ql] at h
 |_::_,[]=>λh=>by simp[ql] at h
 |(i,x)::l,(j,y)::m=>λh=>by simp only[ql,aF] at h;rw[beq_iff.1 h.1.1,Ob.nQ h.1.2,Cp h.2]
def yP:∀a:List (Nat×Ob),ql a a=true
 |[]=>rfl
 |(i,x)::l=>by simp[ql,eu,Ob.jL x,yP l]
def l8.qO {z l:Nat->Nat} {ids:List Nat} (h:∀j∈ids,l (z j)=j):∀{cs:List l8},SV.closed ids (.cl 0 cs)=true->(cs.map (l8.pq z)).map (l8.pq l)=cs
 |[],_=>rfl
 |c::cs,q=>by simp[SV.closed,ic,aF] at q;simp only[aK];rw[l8.qO h (by simpa[SV.closed] using q.2)];grind[l8.pq]
def SV.qO {B q:Nat->Nat} {ids:List Nat} (h:∀j∈ids,q (B j)=j) {s:SV} (F:s.closed ids=true):(s.pq B).pq q=s:=by induction s with
 |two s b H=>simp_all[SV.pq,SV.closed]
 |ptr j z=>simp_all[SV.pq,SV.closed]
 |row j=>simp_all[SV.pq,SV.closed]
 |rp j D i z=>simp_all[SV.pq,SV.closed]
 |sub j D I G=>simp_all[SV.pq,SV.closed]
 |cl f l=>simp only[SV.pq];rw[l8.qO h (by assumption)]
 |ag l=>simp only[SV.pq];rw[l8.qO h (by assumption)]
 |_=>rfl
def pG {q:Nat->Nat} {ids names:List Nat} (h:∀j∈ids,q j∈names):∀{cs:List l8},SV.closed ids (.cl 0 cs)=true->SV.closed names (.cl 0 (cs.map (l8.pq q)))=true
 |[],_=>rfl
 |c::cs,l=>by simp only[SV.closed,ic,aF] at l;have z:=pG h (cs:=cs) (by simpa[SV.closed] using l.2);simp only[SV.closed,aK,ic,aF];refine⟨?_,by simpa[SV.closed] using z⟩;cases c with
  |v a=>rfl
  |p id=>simpa[l8.pq] using h id (by simpa using l.1)
  |r id=>simpa[l8.pq] using h id (by simpa using l.1)
def SV.wX {D:Nat->Nat} {ids names:List Nat} (h:∀j∈ids,D j∈names) {s:SV} (z:s.closed ids=true):(s.pq D).closed names=true:=by induction s with
 |two s b F=>simp only[SV.pq,SV.closed];exact F (by simpa[SV.closed] using z)
 |ptr j B=>simpa[SV.pq,SV.closed] using h j (by simpa[SV.closed] using z)
 |row j=>simpa[SV.pq,SV.closed] using h j (by simpa[SV.closed] using z)
 |rp j G i B=>simpa[SV.pq,SV.closed] using h j (by simpa[SV.closed] using z)
 |sub j G I H=>simpa[SV.pq,SV.closed] using h j (by simpa[SV.closed] using z)
 |cl f l=>have:=pG h (cs:=l) (by simpa[SV.closed] using z);simpa[SV.pq,SV.closed] using this
 |ag l=>have:=pG h (cs:=l) (by simpa[SV.closed] using z);simpa[SV.pq,SV.closed] using this
 |aq j q=>simp[SV.closed] at z
 |_=>rfl
def Ob.qO {z l:Nat->Nat} {ids:List Nat} (h:∀j∈ids,l (z j)=j) {o:Ob} (q:o.closed ids=true):(o.pq z).pq l=o:=by cases o with
 |box t cells=>simp only[Ob.pq,dw];congr 1;simp only[Ob.closed,cH] at q;exact(fQ λs B=>SV.qO h (q s B)).trans (j0 _)
 |_=>rfl
def Ob.wX {q:Nat->Nat} {ids names:List Nat} (h:∀j∈ids,q j∈names) {o:Ob} (l:o.closed ids=true):(o.pq q).closed names=true:=by cases o with
 |box t cells=>simp only[Ob.closed,cH] at l;simp only[Ob.pq,Ob.closed,cH,aA];rintro _ ⟨s,z,rfl⟩;exact SV.wX h (l s z)
 |mr k e s D G=>simp[Ob.closed] at l
 |rn e s k B F xs H=>simp[Ob.closed] at l
 |_=>rfl
def Du {ids names:List Nat} {ρ ρ':Nat->Nat} (H:∀j∈ids,ρ' (ρ j)=j) (I:∀j∈ids,ρ j∈names):∀{l:List (Nat×Nat)} {q:List (Nat×Ob)},jl st ids ρ l=some q->∃back,kG names ρ' l q=some back/\∀i o,find back i=some o->st.ob i=some o
 |[],q,z=>by simp only[jl,aB] at z;subst z;exact⟨[],rfl,λi o h=>by simp[find] at h⟩
 |(id,U)::l,q,z=>by
  simp only[jl] at z;split at z
  .rename_i o W S G
   obtain⟨D,z⟩:=(show o.closed ids=true/\some ((U,o.pq ρ)::W)=some q from by cases D:o.closed ids with
    |false=>rw[D] at z;cases z
    |true=>rw[D] at z;exact⟨rfl,z⟩)
   injection z with z;subst z;obtain⟨back,O,R⟩:=Du H I G;refine⟨(id,(o.pq ρ).pq ρ')::back,?_,λi V F=> ?_⟩
   .simp only[kG,eu,Ob.wX I D,mW,ai,O,bW]
   .simp only[find] at F;cases B:Nat.beq id i with
    |true=>simp only[B,ai,aB] at F;rw[<-beq_iff.1 B,S,<-F,Ob.qO H D]
    |false=>simp only[B,aj] at F;exact R i V F
  .cases z
def GL {c:Call} {f:Operand} {r:AV} {d:Option Nat} (hst:d.any h.stay.contains=true) (B:og P h bC st c f=some r):gC P h bC st c f d=some (st.set d (.pv r)):=by
 unfold og at B;split at B
 .rename_i g args l;unfold pK at l;split at l
  .rename_i g' pre z vs hf hvs;simp only[aB,aQ] at l;obtain⟨rfl,rfl⟩:=l;have BP:jm (d.any h.stay.contains) st (lV (pre++(vs++z)))=λ_=>false:=by
    funext id;simp only[jm,hst,kW,Bool.and_false]
   have O:iz st 200 ((pre++(vs++z)).flatMap SV.ids) []=iN st (pre++(vs++z)):=rfl;generalize iN st (pre++(vs++z))=ids at B O;have hm:gK (λ_=>false) 0 ids=gy ids:=rfl;cases q:(distinct ids&&Nat.blt ids.length 10000&&(pre++(vs++z)).all (SV.closed ids)) with
   |false=>rw[q] at B;cases B
   |true=>
   simp only[q,ai] at B;have F:=q;simp only[aF] at F;obtain⟨⟨V,R⟩,V8⟩:=F;have R:ids.length<10000:=by simpa[bA] using R
   have hnd:=qC V;have Nw:(gy ids).map (·.1)=ids:=oU _ _ _;have Wi:((gy ids).map (·.2)).Nodup:=rT _ 0 ids af;have I:∀id D,(id,D)∈gy ids->find (gy ids) id=some D:=λid D H=>lJ (by rw[Nw];exact hnd) H
   have S:∀id D,(id,D)∈gy ids->find (swap (gy ids)) D=some id:=λid D H=>lJ (by rw[Cv];exact Wi) (BZ H)
   have W:∀id∈ids,∃D,(id,D)∈gy ids:=λid hid=>by rw[<-Nw] at hid;obtain⟨p,H,rfl⟩:=aA.1 hid;exact⟨p.2,H⟩
   split at B
   .rename_i Kn G;split at B
    .rename_i r' U hr;cases hs:(ql U Kn&&r'.iD) with
     |false=>rw[hs] at B;cases B
     |true=>
      rw[hs] at B;simp only[ai,aB] at B;subst B;simp only[aF] at hs;have e:=Cp hs.1;subst e
      obtain⟨back,hb,hg⟩:=Du (ids:=ids) (names:=(gy ids).map (·.2)) (ρ:=mP (gy ids)) (ρ':=mP (swap (gy ids))) (λj hj=>by
       obtain⟨D,H⟩:=W j hj
       simp[mP,I j D H,S j D H]) (λj hj=>by
       obtain⟨D,H⟩:=W j hj;simp only[mP,I j D H,sP]
       exact aA.2 ⟨(j,D),H,rfl⟩) G
      unfold gC;simp only[hf,hvs,BP,O,hm,q,ai,G,hr,hb,hs.2];have e1:iG (ids.filter λ_=>false) st=st:=by have e0:(ids.filter λ_=>false)=[]:=xK.2 (λ_ _=>by decide);rw[e0];rfl
      rw[e1];congr 2;congr 1;funext i;cases SU:find back i with
      |none=>rfl
      |some o=>rw[hg i o SU];rfl
    .cases B
   .cases B
  .cases l
 .cases B
def Cd (H:Rel N w0 μ0 L μ loc st a w) {b:Bool}:∀{xs:List Operand} {G:List TypeId} {D:List AV},nG P b st xs G=some D->bl μ D (xs.map a.eval):=by intro xs;induction xs with
 |nil=>simp_all[nG,cF]
 |cons x xs O=>
  intro G D q;simp[nG] at q;split at q
  .rename_i v R l B;injection q with q;subst q;refine bq ?_ (O B);unfold Fl at l;cases z:(b&&JY x) with
   |true=>
    rw[z] at l;simp at l;subst l;have:=(sQ.1 z).2;unfold JY at this;split at this
    .rfl
    simp_all
   |false=>rw[z] at l;obtain⟨s,I,F⟩:=bZ.1 l;have:=aG H I;cases s<;>simp[fP] at F;subst F;exact this
  simp_all
def rV:∀{D:List AV} {l:List (Nat×TypeId×Nat)} {z:List l8} {B:List Value},oB D l=some z->(∀x∈l,dO (loc x.1)= .slice none 0 0)->bl μ D B->gW μ loc z B
 |[],l,z,B,q,_,O=>by simp_all[oB,bl,gW]
 |a::D,l,z,B,q,I,O=>by
  obtain⟨u,R,rfl,G,H⟩:=O;have other:∀{k':List _},oB _ l=some _->gW _ _ (.v a::k') _:=λF=>⟨u,R,rfl,G,rV F I H⟩
  cases a with
  |nw=>cases l with
   |nil=>simp[oB] at q
   |cons x l=>simp[oB,bg] at q;obtain⟨k',F,rfl⟩:=q;rw[rep] at G;refine⟨u,R,rfl,?_,rV F (λy S=>I y (by simp[S])) H⟩;show u=dO _;simp_all
  |_=>simp[oB,bg] at q;grind
theorem CY (I:Rel N w0 μ0 L μ loc st a w) (U:dX L.q μ0 P bC) {o:Oper} {c:Call} {f:Operand} {st1:St} (hd:∀i,o.dst=some i->i<N) (ho:o.op= .call c) (hc:c.callee= .value f)
  (D:iK P h bC st c f o.dst=some st1) (hK:jX N w0 μ0 L st1 K):o.qo P a w K Q:=by
 unfold iK at D;split at D
 .rename_i d B;split at D
  .rename_i g caps vs hf hvs;obtain⟨cs,MO,hcs⟩:=BM I hf;have main:∀{r:AV},bC g ((vs++caps).map .pv) []=some (r,[])->(∀v H z q,dY L.q μ loc [] r [] w v z q H->Rel N w0 μ0 L z loc st a H->K (a.put o.dst v) H)->o.qo P a w K Q:=λ{r} hr hk=>by
    obtain⟨he,hC⟩:=dX.Vo (U g _ [] _ [] hr w μ loc (c.args.toList.map a.eval++cs) I.base.1 I.qk (by simp[find]) (by intro i j oi oj V;simp[find] at V) (nJ (kA (Cd I hvs) hcs))) λxs=>by simp[find]
    refine A9 (R:=λv H=>∃z q,dY L.q μ loc [] r [] w v z q H) (r:=r) (u5:=[]) ho hc MO rfl he (hC.mono ?_) ?_
    .simp
    .rintro v H ⟨z,q,F⟩;exact hk v H z q F (I.grow F.ext F.qk (x7 F) F.drawn)
   split at D
   .rename_i e sz xs hr;cases hn:(sD h d).isSome with
    |true=>simp_all
    |false=>
    rw[hn] at D;simp only[aj,aB] at D;subst D;refine main hr λv H z q F h1=> ?_
    obtain⟨us,S,hrc,O⟩:∃us,H.ownsRow 0 e sz v xs.length us/\bS z sz xs us/\∀g,aP v=some g->w.heap.size<=g/\∀j,z g j=none:=by
     rcases F.res with hx|⟨_,_,_,_,e1,_⟩|⟨W,sz2,xs2,us,e1,k1,k2,k3⟩
     .simp_all[rep,bl]
     .cases e1
     grind
    have hdN:=hd d B;have hin:∀g,gE v g->aP v=some g:=λg R=>by
     rcases R with R|⟨us',e1,_⟩
     .exact R
     .subst e1;rcases S.2 with⟨W,_⟩|⟨_,_,_,W,_⟩<;>cases W
    have h2:=h1.new (id:=d) (o:= .row e _ _) (.inl (dH hdN I.small)) ⟨us,by rw[bu];omega,hrc,λg R=>by
      rw[bu] at R;obtain⟨k1,k2⟩:=O g (hin g R)
      exact⟨.inl (cV I.grown k1),k2⟩⟩ (λj oj hj _ g R hb=>by
     have k1:=(O g (hin g R)).1;have:=((I.obs j _ hj).block g hb).2.1
     omega)
    rw[B];refine hK _ _ _ _ (h2.set (λi V=>(eO V)▸hdN) ?_);show v=dO _;rw[bu];rcases S.2 with⟨W,_⟩|⟨_,_,_,W,_⟩<;>rw[W]<;>rfl
   .rename_i cs' hr;split at D
    .injection D with D;subst D;refine main hr λv H z q F h1=> ?_
     have G:=F.pure rfl;rw[B];exact hK _ _ _ _ (h1.set (λi V=>hd i (B.trans V)) G)
    .rename_i l _ hl;split at D
     .rename_i ks hks;cases hb:l.all (λx=>Nat.blt x.1 10000) with
      |false=>simp_all
      |true=>
      rw[hb] at D;simp at D;subst D;refine main hr λv H z q F h1=> ?_
      have G:=F.pure rfl;obtain⟨vs',rfl,Wp,hone⟩:=G;obtain⟨WB,h2,h3,_⟩:=oA h1 l _ _ h1 (λx hx=>bA.mp (cH.1 hb x hx));rw[B];exact hK _ _ _ _ (h2.set (λi V=>hd i (B.trans V)) ⟨_,rfl,rV hks h3 Wp,hone⟩)
     simp_all
    simp_all
   simp_all
  simp_all
 simp_all
theorem El (B:Rel N w0 μ0 L μ loc st a w) (l:dX L.q μ0 P bC) {o:Oper} {c:Call} {f:Operand} {r:AV} (F:∀i,o.dst=some i->i<N) (G:o.op= .call c) (D:c.callee= .value f) (q:o.dst.any h.stay.contains=true)
  (H:og P h bC st c f=some r) (z:jX N w0 μ0 L (st.set o.dst (.pv r)) K):o.qo P a w K Q:=
 uW B l F G D (GL q H) z
def JQ (z:Rel N w0 μ0 L μ loc st a w) (uo:dX L.q μ0 P bC) {o:Oper} {v:SV} (H:∀i,o.dst=some i->i<N) (l:cz P h bC o st=some v) (F:jX N w0 μ0 L (st.set o.dst v) K):o.qo P a w K Q:=by
 unfold cz at l;split at l
 .rename_i t len D I;cases V:o.dst.any h.rows.contains with
  |true=>simp_all
  |false=>simp only[V,aj] at l;cases hl:iB P t len D.toList st with
   |none=>simp_all
   |some x=>grind[JO]
 .rename_i c I;split at l
  .rename_i f hc;replace l:=zn l;cases R:(o.dst.any h.stay.contains&&wide st c f) with
   |true=>rw[R] at l;simp only[ai,bg] at l;obtain⟨r,hr,rfl⟩:=l;rw[aF] at R;grind[El]
   |false=>
   rw[R] at l;replace l:=zn l;split at l
   .rename_i g q vs hf hvs;split at l
    .rename_i r hr;cases hp:((!(c.args.toList.any (iJ st))||r.plain)&&r.iD) with
     |true=>simp only[hp,ai,aB] at l;subst l;rw[aF] at hp;grind[By,Bool.or_comm]
     |false=>grind
    simp_all
   simp_all
  .exact kT z H (zZ z I l) F
 .rename_i t x k ok I;exact kT z H (qN z (zn l)) F
 .rename_i t D I;exact kT z H (Hx z I (zn l)) F
 .rename_i t x I;exact kT z H (qN z (zn l)) F
 .rename_i g first q I
  cases O:first.isEmpty with
  |false=>
   simp[O] at l;cases G:(q.isEmpty&&o.dst.any h.gP.contains&&Nat.blt g 1000000) with
   |false=>simp_all
   |true=>
   rw[G] at l;simp only[aF] at G;have W :=by simpa using G.1.1
   have hg :=bA.mp G.2;have run:(execOp a.eval o).run P w= .ok (.value (.func (.func g) (first.toList.map a.eval).toArray #[])) w:=by
    unfold execOp;rw[I,W];have e:first.map a.eval=(first.toList.map a.eval).toArray:=by grind
    simp[Instr.makeFunc,e]
   cases B:mA st first.toList with
   |none=>simp_all
   |some vs=>
    simp[B] at l;subst l;refine kT z H ⟨_,run,(show eV _ _ (.cl _ _) _ from⟨_,?_,ya z B⟩)⟩ F;have h1:Nat.blt (g+1000000) 1000000=false:=by cases V:Nat.blt _ _ with
     |false=>rfl
     |true=>have:=bA.mp V;omega
    have h2:Nat.blt (g+1000000) _=true:=bA.mpr (Nat.add_lt_add_right hg _);simp[SL,h1,h2,aj,ai,sR]
  |true=>
   simp[O] at l;have hf0 :=by simpa using O
   have run:(execOp a.eval o).run P w= .ok (.value (.func (.func g) #[] (q.toList.map a.eval).toArray)) w:=by
    unfold execOp;rw[I,hf0];have e:q.map a.eval=(q.toList.map a.eval).toArray:=by grind
    simp[Instr.makeFunc,e]
   cases S:o.dst.any h.gP.contains with
   |true=>
    simp[S] at l;cases U:Nat.blt g 1000000 with
    |false=>simp_all
    |true=>
    rw[U] at l;cases B:mA st q.toList with
    |none=>simp_all
    |some vs=>simp[B] at l;subst l;exact kT z H ⟨_,run,(show eV _ _ (.cl g _) _ from⟨_,by simp[SL,U,ai],ya z B⟩)⟩ F
   |false=>
   simp[S] at l;cases B:pE st q.toList with
   |none=>simp_all
   |some vs=>simp[B] at l;subst l;have hall:=yb z B;refine kT z H ⟨_,run,?_⟩ F;show rep _ _ _;rw[rep];simp_all
 .have key:c8 P o st=some v:=by
   split at l
   .grind
   .grind
   .exact l
  exact kT z H (qN z key) F
 .exact kT z H (qN z l) F
def MA (F:Rel N w0 μ0 L μ loc st a w) (uo:dX L.q μ0 P bC) {o:Oper} (S:∀i,o.dst=some i->i<N) (B:jN P h bC o st=some st') (H:jX N w0 μ0 L st' K):o.qo P a w K Q:=by
 unfold jN at B;split at B
 .rename_i d q D;split at B
  .rename_i e s hs;split at B
   .injection B with B;subst B;exact Ry F (S d q) q D H
   .cases B
  .cases B
 .rename_i d x hnc q D;split at B
  .rename_i id U;cases O:h.Vn.contains d with
   |true=>rw[O] at B;exact EW F (S d q) q D U B H
   |false=>
   rw[O] at B;simp only[aj] at B;split at B
   .rename_i st1 hp;split at B
    .rename_i v hv1;injection B with B;subst B;obtain⟨μ1,_,h1⟩:=F.bY hp;exact kT h1 S (w5 h1 (.inr D) hv1) (by rw[q];exact H)
    .cases B
   .cases B
  .cases B
 .rename_i d t x q D;split at B
  .rename_i cs U hagg;injection B with B;subst B;have R:=aG F U;simp only[eV,rep] at R;obtain⟨vs,R,hall,hone⟩:=R;refine yd (v:= .agg vs.toArray) F (S d q) q ?_ (by simpa[Value.cells] using nJ hall) (by assumption) H;unfold execOp;rw[D];simp[Instr.box,newVar,newRow,R,Value.cells]
  .rename_i cs U hagg;cases hm:(SV.ag cs).mentions d with
   |true=>rw[hm] at B;cases B
   |false=>
   rw[hm] at B;simp only[aj,aB] at B;subst B;have R:=ID (x:= .pointer (some ⟨w.heap.size,0,none⟩)) hm (aG F U);obtain⟨vs,R,hall,hone⟩:=R;refine yd (v:= .agg vs.toArray) F (S d q) q ?_ (by simp_all[Value.cells,oh]) (by assumption) H;unfold execOp;rw[D];simp[Instr.box,newVar,newRow,R,Value.cells]
  .rename_i v hnot U hagg;split at B
   .rename_i hone;injection B with B;subst B;have R:=aG F U;obtain⟨h1,hc1⟩:=KB F hone R;refine yd (v:=a.eval x) F (S d q) q ?_ (by rw[hc1];exact⟨_,[],rfl,tZ R,rfl⟩) (by rw[hc1];simpa using h1) H;unfold execOp;rw[D];simp[Instr.box,newVar,newRow]
   .cases B
  .cases B
 .rename_i d t q D;cases hrw:h.rows.contains d with
  |true=>
   rw[hrw] at B;simp only[ai] at B;split at B
   .rename_i svs l hz;injection B with B;subst B;exact C0 F (S d q) q D hz H
   .cases B
  |false=>
  rw[hrw] at B;simp only[aj] at B;split at B
  .rename_i z hz;injection B with B;subst B;obtain⟨i,v,hi,hzv,hc⟩:=D9 (μ:=μ) hz;refine yd (v:=v) F (S d q) q ?_ (nJ hc.1) hc.2 H;unfold execOp;rw[D];simp[Instr.alloc,zeroValue,typeInfo,hi,hzv,newVar,newRow]
  .cases B
 .rename_i d t l c q D;split at B
  .rename_i e s kl nl kc nc hs hl hc;split at B
   .rename_i z i hz hi;split at B
    .rename_i G;injection B with B;subst B;exact On F (S d q) q D hs hl hc hz hi G H
    .cases B
   .cases B
  .cases B
 .rename_i d t len parts q D;split at B
  .rename_i e s xs hl;split at B
   .injection B with B;subst B;exact Ev F (S d q) q D hl H
   .rename_i k e' s' hn;cases hb:(Nat.blt k s&&xs.all (mu k)) with
    |false=>rw[hb] at B;cases B
    |true=>rw[hb] at B;simp only[ai,aB] at B;subst B;obtain⟨b1,b2⟩:=sQ.1 hb;exact C1 F (S d q) q D hl (bA.mp b1) b2 H
  .cases B
 .rename_i t x y q D;split at B
  .rename_i id sz i off j U hy;exact Io F q D U hy B H
  .rename_i id off j sz n U hy;exact G0 F q D U hy B H
  .rename_i sa sv _ hnr U hy;exact MB F q D U hy B H
  .cases B
 .rename_i d t r q D;split at B
  .rename_i k e hu;cases hb:qu P st r with
   |false=>simp_all
   |true=>
    rw[hb] at B;simp only[ai] at B;cases hrw:h.rows.contains d with
    |true=>
     rw[hrw] at B;simp only[ai] at B;split at B
     .split at B
      .injection B with B;subst B;exact JH F (S d q) q D hu hb H
      .cases B
     .cases B
    |false=>
    rw[hrw] at B;simp only[aj,aB] at B;subst B;exact G7 F (S d q) q D hu hb H
  simp_all
 .rename_i t m k x q D;cases hrm:lW h m with
  |true=>rw[hrm] at B;exact G8 F q (.inl D) B H
  |false=>rw[hrm] at B;exact ye F q (.inl D) B H
 .rename_i t m k x q D;cases hrm:lW h m with
  |true=>rw[hrm] at B;exact G8 F q (.inr D) B H
  |false=>rw[hrm] at B;exact ye F q (.inr D) B H
 .rename_i d t m k q D;cases hrm:lW h m with
  |true=>rw[hrm] at B;exact Mx F (S d q) q D B H
  |false=>rw[hrm] at B;cases B
 .rename_i d t x q D;split at B
  .rename_i s ht U;injection B with B;subst B;exact Mz F (S d q) q D ht U H
  .cases B
 .rename_i d x q D;split at B
  .rename_i id U;split at B
   .rename_i s pos qq;refine Oo F (S d q) q D U qq ?_;grind
   .cases B
  .cases B
 .rename_i d t parts q D;cases hrw:h.rows.contains d with
  |false=>rw[hrw] at B;cases B
  |true=>rw[hrw] at B;exact C6 F (S d q) q D B H
 .rename_i d t x q D;cases MR:h.take.contains d with
  |false=>rw[MR] at B;cases B
  |true=>rw[MR] at B;exact Dp F (S d q) q D B H
 .rename_i d g first caps q D
  cases SU:first.isEmpty with
  |false=>rw[SU] at B;cases B
  |true=>
   rw[SU] at B;simp only[ai] at B;split at B
   .rename_i st1 hp;simp only[bg] at B;obtain⟨vs,hcs,rfl⟩:=B;exact Ew F (S d q) q D SU hp hcs H
   .cases B
 .rename_i d c D;split at B
  .rename_i hc;split at B
   .rename_i d' x y t t' q I wg;split at B
    .rename_i e s id sy hs U hy;split at B
     .rename_i e' sz xs sz' ys i qq hel hi;split at B
      .rename_i G;obtain⟨rfl,rfl,rfl,rfl,W,hby,V,hz,O⟩:=G;injection B with B;subst B;have ho':o.op= .call { callee:= .builtin .append,args:= #[x,y],argTypes:= #[t,t] }:=by
        rw[D];obtain⟨cal,⟨as⟩,⟨ts⟩⟩:=c;simp only at hc I wg;subst hc;subst I;subst wg;rfl
       refine JF F (S d' q) q ho' hs U hy qq hel hi W hby V hz ?_ H;simp only[fN,ew] at O;rcases O with hm|hm
       .left;simpa[bA] using hm
       simp_all
      simp_all
     .rename_i e' sz k e2 s2 xs zs sz' ys i qq hel hi;split at B
      .rename_i G;obtain⟨rfl,rfl,rfl,rfl,W,hby,V,hz,O,hall⟩:=G;injection B with B;subst B;have ho':o.op= .call { callee:= .builtin .append,args:= #[x,y],argTypes:= #[t,t] }:=by
        rw[D];obtain⟨cal,⟨as⟩,⟨ts⟩⟩:=c;simp only at hc I wg;subst hc;subst I;subst wg;rfl
       refine G6 F (S d' q) q ho' hs U hy qq hel hi W hby V hz ?_ hall H;simp only[fN,ew] at O;rcases O with hm|hm
       .simp_all
       simp_all
      simp_all
     simp_all
    .rename_i e s id sy hs U hy;split at B
     .rename_i e' sz xs sz' ys i qq hel hi;split at B
      .rename_i G;obtain⟨rfl,rfl,rfl,rfl,W,hby,V,hz,O,hne⟩:=G;injection B with B;subst B;have ho':o.op= .call { callee:= .builtin .append,args:= #[x,y],argTypes:= #[t,t] }:=by
        rw[D];obtain⟨cal,⟨as⟩,⟨ts⟩⟩:=c;subst hc;subst I;subst wg;rfl
       refine G5 F (S _ q) q ho' hs U hy qq hel hi W hby V hz ?_ hne H;simp[fN,ew] at O;rcases O with hm|hm
       .simp_all
       simp_all
      simp_all
     simp_all
    simp_all
   simp_all
  .grind[JG]
  .grind[Mw]
  .rename_i f hc;cases how:o.dst.any h.owns.contains with
   |true=>grind[CY]
   |false=>
   rw[how] at B;replace B:=zn B;cases hw:wide st c f with
   |true=>simp only[hw,ai] at B;grind[uW]
   |false=>
   cases EM:c.args.toList.any (λx=>(kR h st x).isSome) with
   |true=>simp only[EM,ai] at B;grind[CZ]
   |false=>
   simp only[EM] at B;split at B
   .rename_i st1 hp;split at B
    .split at B
     .rename_i r hr;cases JV:(c.args.toList.any (iJ st1)|| !r.iD) with
      |true=>grind
      |false=>obtain⟨μ1,h1⟩:=zu F hp;rw[jR] at JV;grind[By]
     simp_all
    simp_all
   simp_all
  simp_all
 simp_all
def nD:∀{l:List SV} {μ:Mu} {loc:Nat->Value} {st st':St} {a:Act} {w:World},Rel N w0 μ0 L μ loc st a w->kQ l st=some st'->∃B,μ.le B/\Rel N w0 μ0 L B loc st' a w
 |[],μ,loc,st,st',a,w,D,q=>by simp only[kQ,aB] at q;subst q;exact⟨μ,Mu.le.refl _,D⟩
 |s::l,μ,loc,st,st',a,w,D,q=>by
  unfold kQ at q;split at q
  .rename_i e;cases e
  .rename_i id W e;injection e with F G;subst F;subst G;obtain⟨st1,S,U⟩:=bZ.1 q;obtain⟨μ1,O,H⟩:=D.bY S;obtain⟨R,z,I⟩:=nD H U;exact⟨R,O.trans z,I⟩
  .rename_i s' W V e;injection e with F G;subst F;subst G;exact nD D q
def IQ (B:Rel N w0 μ0 L μ loc st a w) (l:dX L.q μ0 P bC) {o:Oper} (D:∀i,o.dst=some i->i<N) (q:step0 P h bC o st=some st') (z:jX N w0 μ0 L st' K):o.qo P a w K Q:=by
 unfold step0 at q;split at q
 .rename_i v F;injection q with q;subst q;exact JQ B l D F z
 .exact MA B l D q z
def vi:∀{l:List Nat} {st st':St} {μ:Mu} {loc:Nat->Value} {a:Act} {w:World},Rel N w0 μ0 L μ loc st a w->kn l st=some st'->∃q,μ.le q/\Rel N w0 μ0 L q loc st' a w
 |[],st,st',μ,loc,a,w,B,F=>by simp only[kn,aB] at F;subst F;exact⟨μ,Mu.le.refl _,B⟩
 |t::l,st,st',μ,loc,a,w,B,F=>by
  simp only[kn] at F;obtain⟨O,z,S⟩:=bZ.1 F;obtain⟨U,I,G⟩:∃q,μ.le q/\Rel N w0 μ0 L q loc O a w:=by
   unfold qL at z;split at z
   .exact B.bY z
   .split at z
    .exact nD B z
    .cases z
   .injection z with z;subst z;exact⟨μ,Mu.le.refl _,B⟩
  obtain⟨R,D,H⟩:=vi G S;exact⟨R,I.trans D,H⟩
def Cu (G:Rel N w0 μ0 L μ loc st a w) (l:dX L.q μ0 P bC) {o:Oper} (H:∀i,o.dst=some i->i<N) (z:step P h bC o st=some st') (F:jX N w0 μ0 L st' K):o.qo P a w K Q:=by unfold step at z;obtain⟨I,B,D⟩:=bZ.1 z;obtain⟨O,_,q⟩:=vi G B;exact IQ q l H D F
def uk (H:Rel N w0 μ0 L μ loc st a w) {B:Array Oper} {o:Oper} {b:Bool} (l:lP B o st=some b):Region.wanted o (yielded B a.tmps)=b:=by
 unfold lP at l;unfold Region.wanted;split at l
 .rename_i D;injection l with l;subst l;rw[D]
 .rename_i j I D;rw[D];simp only;split at l
  .rename_i d q;split at l
   .rename_i t F;injection l with l;subst l;obtain⟨v,G,z⟩:=H.env d _ F;simp only[eV,rep] at z;subst z;simp[yielded,q,G]
   .rename_i F;injection l with l;subst l;obtain⟨v,G,z⟩:=H.env d _ F;have z:v=undef:=z;subst z;simp[yielded,q,G,undef]
   .cases l
  .cases l
def yN (B:dX L.q μ0 P bC) {I:Array Oper}:∀{l:List Oper} {st:St} {μ:Mu} {loc:Nat->Value} {a:Act} {w:World},Rel N w0 μ0 L μ loc st a w->(∀o∈l,∀i,o.dst=some i->i<N)->lX P h bC I l st=some st'->
  (∀U w' O z,Rel N w0 μ0 L O z st' U w'->Q .normal U w')->∀F,Wd F->wpListIn F 0 P I Q l a w:=by
 intro l;induction l with
 |nil=>intro st μ loc a w H _ q R F G;simp only[lX,aB] at q;subst q;exact R _ _ _ _ H
 |cons o l ih=>
  intro st μ loc a w H S q R F G;simp only[lX] at q;split at q
  .rename_i b hw;have D:=uk H hw;unfold wpListIn;rw[D];cases b with
   |true=>simp only[ai] at q;simp only[js];cases W:step P h bC o st with
    |none=>simp[W] at q
    |some st1=>simp[W] at q;exact Cu H B (S o ah) W (λU w' O z h1=>ih h1 (λp V=>S p (by simp[V])) q R F G) F G
   |false=>simp only[aj] at q;simp only[cv,jg];exact⟨λf _=>G.fn f,ih (H.set (S o ah) (show eV μ loc .undef undef from rfl)) (λp V=>S p (by simp[V])) q R F G⟩
  .cases q
end
