/- THE ABSTRACT MACHINE. -/
import Derived.Test.YtbnlhmaaccgbjaaGreatDoorAmDraw
set_option linter.all false
namespace Go.AM
open Go.RowKit
def Ex.exit':Ex->Exit
 | .normal=> .normal
 | .exit id=> .exit id
 | .ret=> .ret
section
variable {P:Program} {N:Nat} {w0:World} {μ0:Mu} {L:sQ} {h:Hint} {cz:eN}
def aav (N:Nat) (w0:World) (μ0:Mu) (L:sQ) (e:Ex) (B:St):Exit->Act->World->Prop:=λz w D=>z=e.exit'/\∃q l,Rel N w0 μ0 L q l B w D
def Rel.canon {H:Mu} {B:Nat->Value} {F:St} {a:Act} {w:World} (q:Rel N w0 μ0 L H B F a w) (h:Hint) (key:Nat):Rel N w0 μ0 L H B (h.canon key F) a w:=by
 have get:∀{G:Type} (m:Nat->Option G) (l) (i) (v),find (vp m l) i=some v->m i=some v:=by intro G m l;induction l with
  |nil=>simp_all[vp,find]
  |cons j l O=>
   intro i v D;simp[vp] at D;split at D
   .simp[find] at D;cases K:Nat.beq j i with
    |true=>simp_all
    |false=>simp_all
   simp_all
 unfold Hint.canon;split
 rotate_left
 .exact q
 exact⟨q.small,q.names,q.fix,q.size,q.defers,λi s z=>q.env i s (get _ _ _ _ z),q.xZ,q.base,λi o z=>q.obs i o (get _ _ _ _ z),
  λi j Q R z I=>q.apart i j _ _ (get _ _ _ _ z) (get _ _ _ _ I),q.keep,q.os,q.tape,q.output,q.grown,q.drawn⟩
def Rel.drew {D:Mu} {z:Nat->Value} {B:St} {a:Act} {w:World} (l:Rel N w0 μ0 L D z B a w):Rel N w0 μ0 L D z B a { w with drawn:=w.drawn+1 }:=
 ⟨l.small,l.names,l.fix,l.size,l.defers,l.env,l.xZ,l.base,λi o I=>by have:=l.obs i o I;cases o with
  |box t cells=>exact this
  |mp k e K Q=>exact this
  |mr k e s K Q=>exact this
  |rn e s k R S xs V=>exact this
  |it s n=>exact this
  |lp s=>obtain⟨O,F,G,H⟩:=this;exact⟨O,F,G,L.q.keep (w:=w) (λ_ _=>rfl) H⟩
  |row e U xs=>exact this,l.apart,l.keep,l.os,l.tape,l.output,l.grown,λq=>Nat.le_succ_of_le (l.drawn q)⟩
theorem Fo:∀{l:List Nat} {I z:St} {F:Mu} {q:Nat->Value} {a:Act} {w:World},Rel N w0 μ0 L F q I a w->zX l I=some z->∃B,Rel N w0 μ0 L B q z a w
 |[],I,z,F,q,a,w,G,H=>by simp only[zX,aW] at H;subst H;exact⟨F,G⟩
 |id::l,I,z,F,q,a,w,G,H=>by
  simp only[zX] at H;obtain⟨O,D,Q⟩:=dm.1 H;obtain⟨R,_,K⟩:∃B,F.le B/\Rel N w0 μ0 L B q O a w:=by
   unfold St.K2 at D;split at D
   .exact G.qy D
   .injection D with D;subst D;exact⟨F,Mu.le.refl _,G⟩
   .exact G.cV D
  exact Fo K Q
def Wk {B q:St} {D:Mu} {l:Nat->Value} {a:Act} {w:World} {id:Nat} (F:Rel N w0 μ0 L D l B a w) (G:h.adW id B=some q):∃z,Rel N w0 μ0 L z l q a w:=by grind[Hint.adW,Fo]
def aax (q:Qp) (B:Mu) (P:Program) (N:Nat) (c:Code) (g:St->Bool) (F:St->Nat×St):Prop:=
 ∀(w0:World) (μ0:Mu) (L:sQ) (D:Mu) (z:Nat->Value) (l:St) (a:Act) (w:World),L.q=q->B.le μ0->g l=true->Rel N w0 μ0 L D z l a w->c.wp P (aav N w0 μ0 L (exOf (F l).1) (F l).2) a w
def qY (q:Qp) (B:Mu) (P:Program) (h:Hint) (N:Nat):Code->Prop
 | .seq a b=>match find h.blk (fq a) with
  |some x=>aax q B P N (.seq a b) x.1 x.2
  |none=>qY q B P h N a/\qY q B P h N b
 | .cond _ a b=>qY q B P h N a/\qY q B P h N b
 | .block _ c=>qY q B P h N c
 | .loop c=>qY q B P h N c
 | .scope c=>qY q B P h N c
 |_=>True
def qY.none {q:Qp} {B:Mu} {P:Program} {h:Hint} {N:Nat} (D:h.blk=[]):∀c:Code,qY q B P h N c:=by intro c;induction c with
 |seq x y l w=>simp only[qY,D,find];exact⟨l,w⟩
 |cond c x y l w=>exact⟨l,w⟩
 |block id c z=>exact z
 |loop c z=>exact z
 |scope c z=>exact z
 |_=>trivial
def CS {F:Fence} {n:Nat} {Q:Exit->Act->World->Prop} {a:Act} {w:World} {c:Code} (hs:c.wpIn F n P (Exit.noGoto Q) a w):(Code.scope c).wpIn F n P Q a w:=by intro b k S R I K;have z:(lone (b.atR a (.code (.scope c)::k)) _ w).fenced P F:=fenced_calm I K rfl;have D:Go.step P (lone (b.atR a (.code (.scope c)::k)) S w)= .next _:=step_lone_go (by rfl);obtain⟨e,G,H,B,q⟩:=hs b _ _ R I K;cases e with
 |normal=>have s2:Go.step P (lone (b.atR G (.inScope c::k)) S H)= .next _:=step_lone_go (by rfl);exact⟨_,_,_,B, .head z D (StepsIn.trans q (.one (fenced_calm I K rfl) s2))⟩
 |exit id=>exact⟨_,_,_,B,λk' hk=> .head z D (q.1 _ (by assumption)),λO hk=>let⟨_,U,V⟩:=q.2 O (by assumption);⟨_,U, .head z D V⟩⟩
 |goto l=>exact B.elim
 |ret=>exact⟨_,_,_,B, .of_steps (.one z D) q⟩
 |panic ch=>exact⟨_,_,_,B, .of_steps (.one z D) q⟩
 |outgrown=>exact⟨_,_,_,B, .of_steps (.one z D) q⟩
def U3 {B:Mu} (hBle:B.le μ0) (wW:iB L.q μ0 P cz) (hm:P.follows .mixedOrders=true) (n:Nat):∀(c:Code) (S:St) (e:Ex) (I:St),qN N c=true->qY L.q B P h N c->exec P h cz n c S=some (e,I)->
  ∀(U:Mu) (G:Nat->Value) (a:Act) (w:World),Rel N w0 μ0 L U G S a w->∀F,Wd F->(F.round=none\/h.blk=[])->c.wpIn F 0 P (aav N w0 μ0 L e I) a w:=by
 intro c;induction c with
 |skip=>intro S e I _ _ q U G a w R F V H;simp only[exec,aW,ck] at q;obtain⟨rfl,rfl⟩:=q;exact wpIn_skip ⟨rfl,U,G,R⟩
 |label l=>intro S e I _ _ q U G a w R F V H;simp only[exec,aW,ck] at q;obtain⟨rfl,rfl⟩:=q;exact wpIn_label ⟨rfl,U,G,R⟩
 |exit id=>intro S e I _ _ q U G a w R F V H;simp only[exec,aW,ck] at q;obtain⟨rfl,rfl⟩:=q;exact wpIn_exit ⟨rfl,U,G,R⟩
 |ret=>intro S e I _ _ q U G a w R F V H;simp only[exec,aW,ck] at q;obtain⟨rfl,rfl⟩:=q;exact wpIn_ret ⟨rfl,U,G,R⟩
 |region id ops draw=>
  intro S e I K Q q U G a w R F V H;have hd:∀o∈ops.toList,∀i,o.dst=some i->i<N:=λo ho i hi=>by simp only[qN,cH] at K;have:=K o ho;simpa[hi,cN] using this
  simp only[exec] at q;obtain⟨st1,oC,q⟩:=dm.1 q;obtain⟨μ1,hR1⟩:=Wk R oC;clear R;have R:=hR1;cases draw with
  |true=>simp only[ak] at q;cases hs:sW 0 ops.toList with
   |false=>simp[hs] at q
   |true=>simp only[hs,ak] at q;cases hr:ku P h cz ops 0 ops.toList [] (sr (x8 ops.toList) st1) with
    |none=>simp[hr] at q
    |some s=>simp[hr] at q;obtain⟨rfl,rfl⟩:=q;exact wpIn_region_any hm (UX wW hs hr hd (λa' w' O D h'=>⟨rfl,O,D,h'⟩) R.drew V)
  |false=>simp only[az] at q;cases hr:qU P h cz ops ops.toList st1 with
   |none=>simp[hr] at q
   |some s=>simp[hr] at q;obtain⟨rfl,rfl⟩:=q;exact wpIn_region_list (PT wW R hd hr (λa' w' O D h'=>⟨rfl,O,D,h'⟩) F V)
 |seq x y ihx ihy=>
  intro S e I K Q q U G a w R F V H;simp only[qN,aS] at K;simp only[exec] at q;simp only[qY] at Q;cases hfb:find h.blk (fq x) with
  |some z=>simp only[hfb] at q Q;cases hg:z.1 S with
   |false=>simp[hg] at q
   |true=>
    simp only[hg,ak,aW,ck] at q;obtain⟨rfl,rfl⟩:=q;rcases H with H|H
    .rw[V.plain H,wpIn_wide];exact Q w0 μ0 L U G S a w rfl hBle hg R
    .rw[H] at hfb;cases hfb
  |none=>
  simp only[hfb] at q Q;refine wpIn_seq ?_;split at q
  .rename_i st1 hx;refine nK (ihx S _ _ K.1 Q.1 hx U G a w R F V H) ?_;rintro e' a' w' ⟨rfl,O,D,h'⟩;exact ihy st1 e I K.2 Q.2 q O D a' w' h' F V H
  .rename_i hne;refine nK (ihx S e I K.1 Q.1 q U G a w R F V H) ?_;rintro e' a' w' ⟨rfl,O,D,h'⟩;cases e with
   |normal=>exact absurd q (hne I)
   |exit id=>exact⟨rfl,O,D,h'⟩
   |ret=>exact⟨rfl,O,D,h'⟩
 |cond c x y ihx ihy=>
  intro S e I K Q q U G a w R F V H;simp only[qN,aS] at K;simp only[exec] at q;split at q
  .rename_i t hc;have hcv:=bf R hc;simp only[fU,rep] at hcv;cases t with
   |true=>exact wpIn_cond_true hcv (ihx S e I K.1 Q.1 q U G a w R F V H)
   |false=>exact wpIn_cond_false hcv (ihy S e I K.2 Q.2 q U G a w R F V H)
  .cases q
 |block id c ih=>
  intro S e I K Q q U G a w R F V H;simp only[qN] at K;simp only[exec] at q;refine wpIn_block ?_;split at q
  .rename_i j st1 hx;refine nK (ih S _ _ K Q hx U G a w R F V H) ?_;rintro e' a' w' ⟨rfl,O,D,h'⟩;cases hb:Nat.beq j id with
   |true=>simp only[hb,ak,aW,ck] at q;obtain⟨rfl,rfl⟩:=q;have:=beq_iff.1 hb;subst this;simp only[Ex.exit',Exit.inBlock,fW];exact⟨rfl,O,D,h'⟩
   |false=>
    simp only[hb,az,aW,ck] at q;obtain⟨rfl,rfl⟩:=q
    have:j≠id:=λe=>by subst e;simp[jW] at hb
    simp only[Ex.exit',Exit.inBlock,au this];exact⟨rfl,O,D,h'⟩
  .rename_i hne;refine nK (ih S e I K Q q U G a w R F V H) ?_;rintro e' a' w' ⟨rfl,O,D,h'⟩;cases e with
   |normal=>exact⟨rfl,O,D,h'⟩
   |exit id=>exact absurd q (hne _ _)
   |ret=>exact⟨rfl,O,D,h'⟩
 |loop c ih=>
  intro S e I K Q q U G a w R F V H;simp only[qN] at K;simp only[exec] at q;refine wpIn_loop_rounds n ?_;have key:∀(k:Nat) (S:St) (U:Mu) (G:Nat->Value) (a:Act) (w:World),Rel N w0 μ0 L U G S a w->iter h (fq c) (exec P h cz n c) k S=some (e,I)->Code.roundsIn F 0 P c (aav N w0 μ0 L e I) k a w:=by intro k;induction k with
   |zero=>intro S U G a w _ q;simp[iter] at q
   |succ k ihk=>
    intro S U G a w R q;rw[roundsIn_succ];simp only[iter] at q;split at q
    .rename_i st1 hx;refine nK (ih _ _ _ K Q hx U G a w (R.canon h _) F V H) ?_;rintro e' a' w' ⟨rfl,O,D,h'⟩;exact ihk st1 O D a' w' h' q
    .rename_i hne;refine nK (ih _ _ _ K Q q U G a w (R.canon h _) F V H) ?_;rintro e' a' w' ⟨rfl,O,D,h'⟩;cases e with
     |normal=>exact absurd q (hne _)
     |exit id=>exact⟨rfl,O,D,h'⟩
     |ret=>exact⟨rfl,O,D,h'⟩
  exact key n S U G a w R q
 |scope c ih=>intro S e I K Q q U G a w R F V H;simp only[qN] at K;simp only[exec] at q;refine CS ?_;refine nK (ih S e I K Q q U G a w R F V H) ?_;rintro e' a' w' ⟨rfl,O,D,h'⟩;cases e<;>exact⟨rfl,O,D,h'⟩
 |rangeFunc f ps x y ihx ihy=>intro S e I _ _ q;simp[exec] at q
 |goto l=>intro S e I _ _ q;simp[exec] at q
 |refuse s=>intro S e I _ _ q;simp[exec] at q
def My {K:Mu} {q:Nat->Value} {I z:St} {a:Act} {w:World} (R:Rel N w0 μ0 L K q I a w) {id:Nat} (H:I.PB id=some z):∃B,K.le B/\Rel N w0 μ0 L B q z a w:=by
 unfold St.PB at H;split at H
 .obtain⟨S,O,Q⟩:=dm.1 H;obtain⟨U,G,D⟩:=sk R O;obtain⟨V,l,F⟩:=D.qy Q;exact⟨_,G.trans l,F⟩
 simp_all
def Mz {G:Mu} {D:Nat->Value} {K O:St} {a:Act} {w:World} (F:Rel N w0 μ0 L G D K a w) {t:Nat} {v:AV} (l:PC K t=some (O,v)):
  ∃q,Rel N w0 μ0 L q D O a w/\G.le q/\rep q v (a.tmps.getD t undef):=by
 have get:∀{G:Mu} {K:St},Rel N w0 μ0 L G D K a w->K.env t=some (.pv v)->rep G v (a.tmps.getD t undef):=λF I=>by
  obtain⟨u,S,R⟩:=F.env t _ I
  have:a.tmps.getD t undef=u:=by simp[S]
  rw[this];exact R
 unfold PC at l;split at l
 .rename_i v' I;simp only[aW,ck] at l;obtain⟨rfl,rfl⟩:=l;exact⟨G,F,Mu.le.refl _,get F I⟩
 .rename_i id I;split at l
  .rename_i V Q;split at l
   .rename_i cs z;simp only[aW,ck] at l;obtain⟨rfl,rfl⟩:=l;obtain⟨q,B,H⟩:=My F Q;obtain⟨u,S,R⟩:=H.env t _ z;have e:a.tmps.getD t undef=u:=by simp[S]
    refine⟨q,H,B,?_⟩;rw[e,rep];obtain⟨b,U,vs,e1,hc,hm⟩:=R;exact⟨b,U,vs,e1,hc.1,hc.2,hm⟩
   .cases l
  .cases l
 .rename_i id I;split at l
  .rename_i V Q;split at l
   .rename_i v' z;simp only[aW,ck] at l;obtain⟨rfl,rfl⟩:=l;obtain⟨q,B,H⟩:=F.cV Q;exact⟨q,H,B,get H z⟩
   .cases l
  .cases l
 .cases l
def sA (tmps:Array Value):ResultVar->Sem Value
 | .tmp t=>pure (tmps.getD t undef)
 | .cell a t=>do loadVar t (<-asAddr (tmps.getD a undef))
def Kz {G:Mu} {l:Nat->Value} {D:St} {a:Act} {w:World} (H:Rel N w0 μ0 L G l D a w) {z:Nat} {t:TypeId} {F:SV} (I:eW P ⟨none, .load t (.tmp z),t, "", #[],none⟩ D=some F):
  ∃v,(sA a.tmps (.cell z t)).run P w= .ok v w/\fU G l F v:=by
 obtain⟨v,B,R⟩:=wv H I;have O:a.eval (.tmp z)=a.tmps.getD _ _:=rfl;simp[execOp] at B;cases S:a.tmps.getD z undef with
 |pointer p=>cases p with
  |none=>simp_all[Instr.loadAt,Instr.sureAddr]
  |some q=>simp[Instr.loadAt,Instr.sureAddr] at B;simp[sA,asAddr];cases Q:(loadVar t q).run P w with
   |ok u K=>simp_all
   |halt x K=>simp_all
 |_=>simp_all[Instr.loadAt,Instr.sureAddr]
def GG {F:Mu} {l:Nat->Value} {D:St} {a:Act} {w:World} (z:Rel N w0 μ0 L F l D a w) {r:ResultVar} {q:SV} (B:Yj P D r=some q):
  ∃v,(sA a.tmps r).run P w= .ok v w/\fU F l q v:=by
 cases r with
 |tmp t=>obtain⟨v,G,H⟩:=z.env t q B;exact⟨v,by simp[sA,G],H⟩
 |cell I t=>exact Kz z B
def ML:∀(l:List ResultVar) {R:Mu} {D:Nat->Value} {st F:St} {a:Act} {w:World} {V:List AV},Rel N w0 μ0 L R D st a w->tE P l st=some (F,V)->
  ∃B Q,Rel N w0 μ0 L B D F a w/\R.le B/\(l.mapM (sA a.tmps)).run P w= .ok Q w/\cM B V Q:=by
 intro l;induction l with
 |nil=>intro R D st F a w V U z;simp only[tE,aW,ck] at z;obtain⟨rfl,rfl⟩:=z;exact⟨R,[],U,Mu.le.refl _,rfl,dA⟩
 |cons x l ih=>
  intro R D st F a w V U z;have join:∀{H:Mu} {K:St} {v:AV} {u:Value} {G:List AV},Rel N w0 μ0 L H D K a w->R.le H->(sA a.tmps x).run P w= .ok u w->rep H v u->tE P l K=some (F,G)->V=v::G->
    ∃B Q,Rel N w0 μ0 L B D F a w/\R.le B/\((x::l).mapM (sA a.tmps)).run P w= .ok Q w/\cM B V Q:=by
   intro H K v u G S I hr q O e;obtain⟨μ2,Q,h2,hle2,hm,hall⟩:=ih S O;refine⟨μ2,u::Q,h2,I.trans hle2,?_,by grind[cE,yE]⟩;simp[tH,hr,hm]
  cases x with
  |tmp t=>
   simp only[tE] at z;split at z
   .rename_i K v hp;split at z
    .rename_i st2 G O;simp only[aW,ck] at z;obtain⟨rfl,rfl⟩:=z;obtain⟨H,S,I,q⟩:=Mz U hp;exact join S I rfl q O rfl
    .cases z
   .cases z
  |cell ad t=>
   simp only[tE] at z;split at z
   .rename_i v hp;split at z
    .rename_i st2 G O;simp only[aW] at z;obtain⟨rfl,rfl⟩:=z;obtain⟨u,hr,q⟩:=Kz U hp;exact join U (Mu.le.refl _) hr q O rfl
    simp_all
   .split at z
    .rename_i K oC;split at z
     .rename_i v hp1;split at z
      .rename_i st2 G O;obtain⟨rfl,rfl⟩:=z;obtain⟨H,I,S⟩:=U.cV oC;obtain⟨u,hr,q⟩:=Kz S hp1;exact join S I hr q O rfl
      simp_all
     simp_all
    simp_all
   simp_all
def xo {fn:Func} {tmps:Array Value} {w:World} {us:List Value} (h:(fn.results.toList.mapM (sA tmps)).run P w= .ok us w):
  ∃v,(results fn tmps).run P w= .ok v w/\((∃u,us=[u]/\v=u)\/(us.length≠1/\v= .tuple us.toArray)):=by
 have e:(results fn tmps)=(do
   let z<-fn.results.mapM (sA tmps)
   pure (if h:z.size=1 then z[0] else .tuple z)):=by
  unfold results;congr 1
 rw[e];obtain⟨l⟩:∃l,fn.results=⟨l⟩:=⟨fn.results.toList,ai⟩
 have D:(fn.results.mapM (sA tmps)).run P w= .ok us.toArray w:=by
  rename_i B;rw[B] at h⊢;simp only at h
  have:(List.toArray l).mapM (sA tmps)=Functor.map List.toArray (l.mapM (sA tmps)):=List.mapM_toArray ..
  rw[show(⟨l⟩:Array ResultVar)=l.toArray from rfl,this];simp[h]
 simp only[jB,D,kV,tJ];by_cases q:us.length=1
 .match us,q with
  |[u],_=>exact⟨u,by simp, .inl ⟨u,rfl,rfl⟩⟩
 .exact⟨.tuple us.toArray,by simp[q], .inr ⟨q,rfl⟩⟩
def Wu {B:Mu} {q:List AV} {w:List Value} {v:Value} (l:cM B q w) (G:(∃u,w=[u]/\v=u)\/(w.length≠1/\v= .tuple w.toArray)):rep B (result q) v:=by
 have z:=tB l;rcases G with⟨u,rfl,rfl⟩|⟨F,rfl⟩
 .match q,z with
  |[x],_=>obtain⟨K,H,e,D,_⟩:=l;injection e with e1 I;subst e1;exact D
 .have:result q= .iQ q:=by
   match q,z with
   |[],_=>rfl
   |[x],z=>simp_all
   |_::_::_,_=>rfl
  rw[this,rep];simp_all
def Bi {names:List Nat} {G:St}:∀{l:List Nat} {cL:List (Nat×Ob)},qe names G l=some cL->∀id o,find cL id=some o->G.ob id=some o:=by intro l;induction l with
 |nil=>intro cL q id o w;simp only[qe,aW] at q;subst q;simp[find] at w
 |cons j l H=>
  intro cL q id o w;simp only[qe] at q;split at q
  .rename_i I K B D;cases F:I.closed names with
   |false=>simp[F] at q
   |true=>simp only[F,ak,aW] at q;subst q;simp only[find] at w;cases z:Nat.beq j id with
    |true=>simp only[z,ak,aW] at w;subst w;rw[<-beq_iff.1 z];exact B
    |false=>simp only[z,az] at w;exact H D id o w
  .cases q
def Mf {names:List Nat} {w:St}:∀{l:List Nat} {cL:List (Nat×Ob)},qe names w l=some cL->cL.map (·.1)=l:=by intro l;induction l with
 |nil=>simp_all[qe]
 |cons j l z=>intro cL q;simp[qe] at q;grind
def Sa:∀(l:List SV) (i j:Nat) (s:SV),find (zz i l) j=some s->∃k,j=i+k/\l[k]? =some s:=by intro l;induction l with
 |nil=>intro i j s q;simp[zz,find] at q
 |cons x l B=>intro i j s q;simp only[zz,find] at q;cases w:Nat.beq i j with
  |true=>simp only[w,ak,aW] at q;subst q;exact⟨0,by have:=beq_iff.1 w;omega,rfl⟩
  |false=>simp only[w,az] at q;obtain⟨k,rfl,z⟩:=B (i+1) j s q;exact⟨k+1,by omega,by simpa using z⟩
def abB {q:Type}:∀{l:List (Nat×q)} {i:Nat} {v:q},find l i=some v->i∈l.map (·.1):=by intro l;induction l with
 |nil=>simp_all[find]
 |cons x l B=>intro i v w;obtain⟨j,u⟩:=x;simp[find] at w;cases z:Nat.beq j i with
  |true=>simp_all
  |false=>simp_all
end
def HN:∀(k:Nat) (l:List Nat),(vn k l).map (·.1)=l
 |_,[]=>rfl
 |k,id::l=>by simp[vn,HN (k+1) l]
def xR:∀(k:Nat) (l:List Nat),∀p∈vn k l,25000+k<=p.2
 |_,[],p,q=>by cases q
 |k,id::l,p,q=>by
  simp[vn,aJ] at q;rcases q with rfl|q
  .omega
  .have:=xR _ l p q;omega
def Dh:∀(k:Nat) (l:List Nat),((vn k l).map (·.2)).Nodup
 |_,[]=>yV
 |k,id::l=>by simp only[vn,bw];refine gC.2 ⟨λq=> ?_,Dh (k+1) l⟩;obtain⟨p,w,e⟩:=aD.1 q;have:=xR (k+1) l p w;omega
def MF {w:Mu} {l:Nat->Value} {q:oE} {u:Value} (h:PN w l q u):PN w l (I5 (W6 q)) u:=by cases q with
 |v a=>cases a with
  |self n=>simp[PN,rep] at h
  |_=>exact h
 |r n=>exact h
 |p n=>obtain⟨b,z,rfl⟩:=h;show _=fS _;rw[z];rfl
theorem B5 {I:Mu} {q:Nat->Value} {F:SV} {x:AV} {u:Value} (h:xy F=some x) (z:fU I q F u):fU I q (zN x) u:=by
 unfold xy at h;split at h
 .injection h with h;subst h;exact z
 .injection h with h;subst h;obtain⟨b,w,rfl⟩:=z;show _=fS _;rw[w];rfl
 .rename_i B;cases l:B.all aa3 with
  |false=>rw[l] at h;cases h
  |true=>
  rw[l,ak] at h;injection h with h;subst h;obtain⟨H,rfl,w,D⟩:=z;refine⟨H,rfl,?_,D⟩;clear D l;induction B generalizing H with
  |nil=>exact w
  |cons c B K=>obtain⟨v,G,rfl,O,Q⟩:=w;exact⟨v,G,rfl,MF O,K G Q⟩
 .rename_i v;cases l:v.scalar with
  |false=>rw[l] at h;cases h
  |true=>
  rw[l,ak] at h;injection h with h;subst h;cases v<;>first|exact z|cases l
 .cases h
theorem NR {q:SV} {x:AV} (h:xy q=some x):∀a b,x≠ .iQ [a,b]:=λa b e=>by
 subst e;unfold xy at h;split at h
 .cases h
 .cases h
 .grind
 .rename_i v;cases l:v.scalar with
  |false=>simp_all
  |true=>rw[l] at h;injection h with h;subst h;cases l
 grind
theorem M9 {x:AV} (h:∀a b,x≠ .iQ [a,b]):wV x=zN x:=by
 unfold wV;split
 .exact absurd rfl (h _ _)
 .rfl
def WD {z:Mu} {l:Nat->Value} {w:SV} {x:AV} {u:Value} (h:aab w=some x) (F:fU z l w u):fU z l (wV x) u:=by
 unfold aab at h;split at h
 .split at h
  .rename_i a b B D;injection h with h;subst h;obtain⟨p,q,e,G,H⟩:=F;exact⟨p,q,e,B5 B G,B5 D H⟩
  grind
 grind[M9,NR,B5]
theorem FF {names:List Nat} {D:Nat->Nat} {l:List Nat} (q:∀j∈names,D j∈l) {B:SV} {x:AV} (h:xy (B.kD D)=some x) (z:B.closed names=true):(zN x).closed l=true:=by cases B with
 |row n=>simp only[SV.kD,xy,aW] at h;subst h;simpa[zN,SV.closed] using q n (by simpa[SV.closed] using z)
 |ptr n K=>
  simp only[SV.kD] at h;unfold xy at h;split at h
  .rename_i e;cases e
  .rename_i e;cases e;injection h with h;subst h;simpa[zN,SV.closed] using q n (by simpa[SV.closed] using z)
  .rename_i e;cases e
  .rename_i e;cases e
  .cases h
 |ag H=>
  simp only[SV.kD,xy] at h;cases w:(H.map (oE.kD D)).all aa3 with
  |false=>rw[w] at h;cases h
  |true=>
  rw[w,ak,aW] at h;subst h;simp only[zN,SV.closed,List.all_map,cH] at z w⊢;intro c G;have F:=z c G;have I:=w c G;cases c with
  |v a=>cases a with
   |self n=>cases I
   |_=>rfl
  |p n=>simpa[oE.kD,I5,W6] using q n (by simpa using F)
  |r n=>simpa[oE.kD,I5,W6] using q n (by simpa using F)
 |pv v=>
  simp only[SV.kD,xy] at h;cases w:v.scalar with
  |false=>rw[w] at h;cases h
  |true=>
  rw[w,ak] at h;injection h with h;subst h;cases v<;>first|rfl|cases w
 |_=>simp[SV.kD,xy] at h
def TZ {names:List Nat} {w:Nat->Nat} {l:List Nat} (D:∀j∈names,w j∈l) {q:SV} {x:AV} (h:aab (q.kD w)=some x) (B:q.closed names=true):(wV x).closed l=true:=by
 by_cases z:∃s t,q= .two s t
 .obtain⟨s,t,rfl⟩:=z;simp[SV.kD,aab] at h;split at h
  .injection h with h;subst h;obtain⟨F,c2⟩:=pX.1 B;simp[wV,SV.closed];grind[FF]
  grind
 .have e:aab (q.kD w)=xy (q.kD w):=by
   cases q<;>first|exact absurd ⟨_,_,rfl⟩ z|rfl
  grind[M9,NR,FF]
def UI {P:Program} {h:Hint} {cz:eN} {q:Qp} {B:Mu} {f:Nat} (hok:DV P=true) (hblk:∀fn c,P.funcs[f]? =some fn->fn.body=some c->qY q B P h fn.ntmps c) (wW:iB q B P cz) {n:Nat} {fn:Func} {c:Code} {args:List SV} {cL V:List (Nat×Ob)} {r:AV} {e:Ex} {st:St}
  (hf:P.funcs[f]? =some fn) (hb:fn.body=some c) (wX:(Nat.ble args.length fn.ntmps&&(cL.map (·.1)).all (λi=> !(iG i)||giv i))=true)
  (hx:exec P h cz n c { env:=find (zz 0 args),ob:=find cL }=some (e,st)) (hend:abm P h.own fn cL e st=some (r,V)):
  ∀(w:World) (μ:Mu) (S:Nat->Value) (us:List Value),B.le μ->Mb μ w->(∀id o,find cL id=some o->nv w.heap.size (iy q S (cL.map (·.1))) μ S w id o)->WQ S cL->ig μ S args us->
   (∀w2,(callFunc f us.toArray).run P w2= .ok (.enter f us.toArray) w2)/\Calls P f us.toArray w λe w'=>∃v μ' loc',e= .returned v/\fN q μ S (cL.map (·.1)) r V w v μ' loc' w':=by
 intro w μ S us hBle oC hobs hap AQ;simp only[aS] at wX;simp only[DV,aS] at hok;obtain⟨⟨hm,hfuncs⟩,_⟩:=hok;have hfn:Va fn=true:=cH.1 hfuncs fn (aZ (show P.funcs.toList[f]? =some fn by simpa using hf));simp only[Va,hb,aS,gW] at hfn;obtain⟨⟨hsmall,hname⟩,AP⟩:=hfn;have hlen:=qk AQ;have hle:args.length<=fn.ntmps:=fI wX.1;refine⟨λw2=> ?_,?_⟩
 .have hname':¬(fn.name= "runtime.NumGoroutine"):=by simpa using hname
  simp[callFunc,hf,hname',hb]
 refine calls_of_wp hf hb ?_;have hR:Rel fn.ntmps w μ (iy q S (cL.map (·.1))) μ S { env:=find (zz 0 args),ob:=find cL } { tmps:=us.toArray++Array.replicate (fn.ntmps-us.toArray.size) undef,defers:=[] } w:=by
  refine⟨fI hsmall,?_,?_,?_,rfl,?_,oC,⟨Mu.le.refl _,λ_ _ _ h=> .inl h⟩,hobs,hap,λ_ _ _=>rfl,rfl,rfl,rfl,aU _,λ_=>aU _⟩
  .intro id R
   have:¬(id∈cL.map (·.1)):=λhm=>by
    have:=cH.1 wX.2 id hm;have h0:iG id=true:=by simp[iG,cN];omega
    rw[h0] at this;simp only[giv,h0,dx,kK,rH] at this;have:=fI this;omega
   simp only[iy,au this]
  .intro id v hv _ _;simp only[iy] at hv;split at hv
   .injection hv
   .cases hv
  .simp;omega
  .intro i s hi;obtain⟨k,hk,hs⟩:=Sa args 0 i s hi;obtain⟨u,hu,hr⟩:=NH AQ hs;have hlt:=(bQ.1 hu).1;refine⟨u,?_,hr⟩;rw[hk,eO,uJ (by simpa using hlt)];simpa using hu
 refine wp_mono (wpIn_wide.1 (U3 (B:=B) hBle (wW.mono hBle) hm n c _ e st AP (hblk fn c hf hb) hx μ S _ w hR _ Wd.wide (.inl rfl))) ?_;rintro e' a' w' ⟨rfl,μ1,D,F⟩;have fin:∀(e:Ex),abm P h.own fn cL e st=some (r,V)->(∀id,e≠ .exit id)->a'.defers=[]/\∃v,(results fn a'.tmps).run P w'= .ok v w'/\∃v' μ' loc',Ending.returned v= .returned v'/\fN q μ S (cL.map (·.1)) r V w v' μ' loc' w':=by
  intro e hend hne;have hone:∀t u,fn.results.toList=[.tmp t]->a'.tmps[t]? =some u->(results fn a'.tmps).run P w'= .ok u w':=λt u O hu=>by
   obtain⟨v,hrun,hv⟩:=xo (P:=P) (fn:=fn) (tmps:=a'.tmps) (w:=w') (us:=[u]) (by
    rw[O]
    have:a'.tmps.getD t undef=u:=by simp[hu]
    simp[tH,sA,this])
   rcases hv with⟨u',e,rfl⟩|⟨hne,_⟩
   .injection e with e;rw[e];exact hrun
   .simp at hne
  have hone1:∀rv u,fn.results.toList=[rv]->(sA a'.tmps rv).run P w'= .ok u w'->(results fn a'.tmps).run P w'= .ok u w':=λrv u O hu=>by
   obtain⟨v,hrun,hv⟩:=xo (P:=P) (fn:=fn) (tmps:=a'.tmps) (w:=w') (us:=[u]) (by
    rw[O]
    simp[tH,hu])
   rcases hv with⟨u',e,rfl⟩|⟨hne,_⟩
   .injection e with e;rw[e];exact hrun
   .simp at hne
  have honeA:∀sv,Ws P st fn.results.toList=some sv->∀{μ1 D},Rel fn.ntmps w μ (iy q S (cL.map (·.1))) μ1 D st a' w'->∃u,(results fn a'.tmps).run P w'= .ok u w'/\fU μ1 D sv u:=λsv hv μ1 D F=>by
   unfold Ws at hv;split at hv
   .rename_i rv O;obtain⟨u,hu,hr⟩:=GG F hv;exact⟨u,hone1 rv _ O hu,hr⟩
   .rename_i rv rq O;split at hv
    .rename_i s1 s2 e1 e2;injection hv with hv;subst hv;obtain⟨u,hu,hr⟩:=GG F e1;obtain⟨u2,hu2,hr2⟩:=GG F e2
     obtain⟨v,hrun,hv⟩:=xo (P:=P) (fn:=fn) (tmps:=a'.tmps) (w:=w') (us:=[u,u2]) (by
      rw[O]
      simp[tH,hu,hu2])
     rcases hv with⟨u',e,_⟩|⟨_,rfl⟩
     .simp at e
     .exact⟨_,hrun,_,_,rfl,hr,hr2⟩
    .cases hv
   .cases hv
  have hnB:∀i,i∈((cL.map (·.1)).filter λi=> !(iG i))↔i∈cL.map (·.1)/\10000<=i:=λi=>by
   rw[c4];refine and_congr_right λ_=> ?_
   cases ho:iG i with
   |true=>
        have:i<10000:=by simpa[iG,cN] using ho
        simp;omega
   |false=>
    have:¬i<10000:=λhlt=>by
     have:iG i=true:=by simpa[iG,cN] using hlt
     rw[ho] at this;cases this
    simp;omega
  have z:(bif h.own then match Wi fn st,qe ((cL.map (·.1)).filter λi=> !(iG i)) st ((cL.map (·.1)).filter λi=> !(iG i)) with
   |some r,some l=>some (r,l)
   |_,_=>OH P fn ((cL.map (·.1)).filter λi=> !(iG i)) st
  else match PW fn ((cL.map (·.1)).filter λi=> !(iG i)) st with
   |some n=>match qe ((cL.map (·.1)).filter λi=> !(iG i)) st ((cL.map (·.1)).filter λi=> !(iG i)) with
    |some l=>some (AV.self n,l)
    |none=>none
   |none=>match tE P fn.results.toList st with
   |some (st',vs)=>match qe ((cL.map (·.1)).filter λi=> !(iG i)) st' ((cL.map (·.1)).filter λi=> !(iG i)) with
    |some l=>some (result vs,l)
    |none=>none
   |none=>none)=some (r,V):=by
   cases e with
   |exit id=>exact absurd rfl (hne id)
   |normal=>exact hend
   |ret=>exact hend
  cases how:h.own with
  |true=>
   rw[how] at z;simp only[ak] at z;split at z
   .rename_i r0 l I U;simp only[aW,ck] at z;obtain⟨rfl,rfl⟩:=z;have G:=Bi U;unfold Wi at I;split at I
    .rename_i t O;split at I
     .rename_i id he;split at I
      .rename_i e' sz' xs' R qQ;injection I with I;subst I;obtain⟨u,hu,hr⟩:=F.env t _ he;have hr:u=fS (D id):=hr;rw[jj (F.obs id _ qQ)] at hr;subst hr;have hidl:id<10000:=by simpa[iG,cN] using R
       obtain⟨us',I,hrc,hblk'⟩:=F.obs id _ qQ
       refine⟨F.defers,_,hone t _ O hu,_,μ1,D,rfl,F.base,F.xZ, .inr (.inr (.inr ⟨e',sz',xs',us',rfl,I,hrc,λg hg=> ?_⟩)),λid o ho=>F.obs id o (G id o ho),λi j oi oj hi hj=>F.apart i j oi oj (G i oi hi) (G j oj hj),F.keep,
        λid R h9 hlt=>F.fix id (S id) (by simp[iy,R]) h9 hlt,F.os,F.tape,F.output,F.grown,F.drawn⟩
       have hgb:lI (D id) g:= .inl hg;refine⟨?_,(hblk' g hgb).2,λj o ho hb=> ?_⟩
       .exact F.BI hidl (hblk' g hgb).1
       .have hj:10000<=j:=by
         have:=abB ho;rw[Mf U] at this;exact((hnB j).1 this).2
        exact F.apart j id o _ (G j o ho) qQ (λe=>by omega) g hb hgb
      .cases I
     .cases I
    .cases I
   .have z:OH P fn ((cL.map (·.1)).filter λi=> !(iG i)) st=some (r,V):=z;generalize abQ:((cL.map (·.1)).filter λi=> !(iG i))=names at z hnB;have hno:∀n∈names,¬n<10000:=λn hn hlt=>by
     have:=((hnB n).1 hn).2;omega
    unfold OH at z;split at z
    .rename_i sv he
     .simp only[] at z;generalize hids:(gN st 200 (sv.ids++names.flatMap (Cy st)) []).filter iG=ids at z;have hio:∀id∈ids,id<10000:=λid hi=>by
       rw[<-hids] at hi;simpa[iG,cN] using(c4.1 hi).2
      generalize hnn:vn 0 ids=nn at z;have hn1:nn.map (·.1)=ids:=by rw[<-hnn];exact HN _ _
      have hn2:(nn.map (·.2)).Nodup:=by rw[<-hnn];exact Dh _ _
      have hn3:∀p∈nn,25000<=p.2:=λp Q=>by have:=xR 0 ids p (by rw[hnn];exact Q);omega
      cases hc:(distinct ids&&names.all (λn=>Nat.blt n 25000)&&sv.closed (names++ids)) with
      |false=>rw[hc] at z;cases z
      |true=>
      rw[hc,ak] at z;simp only[aS,cH] at hc;obtain⟨⟨hdis,hsm⟩,abJ⟩:=hc;have hsm:∀n∈names,n<25000:=λn hn=>by simpa[cN] using hsm n hn
      have hnd:=mW hdis;split at z
      .rename_i x l hx hl;simp only[aW,ck] at z;obtain⟨rfl,rfl⟩:=z;obtain⟨Xu,Vo⟩:=xO hl;have G:∀id K,(id,K)∈nn->find nn id=some K:=λid K Q=>jR (by rw[hn1];exact hnd) Q
       have hswap:∀id K,(id,K)∈nn->find (swap nn) K=some id:=λid K Q=>jR (by rw[yO];exact hn2) (BG Q)
       let VT:Nat->Value:=λK=>match find (swap nn) K with
        |some id=>D id
        |none=>D K
       have hlocN:∀id K,(id,K)∈nn->VT K=D id:=λid K Q=>by simp only[VT,hswap id K Q]
       have abP:∀n∈names,VT n=D n:=λn hn=>by cases hf:find (swap nn) n with
        |none=>simp only[VT,hf]
        |some id=>
         have h0:=mY hf
         have:n∈nn.map (·.2):=by rw[<-yO];exact aD.2 ⟨_,h0,rfl⟩
         obtain⟨p,Q,e⟩:=aD.1 this;have F:=hn3 p Q;have h2:=hsm n hn;omega
       have hrenL:∀n∈names,iS nn n=n:=λn hn=>by cases hf:find nn n with
        |none=>simp[iS,hf]
        |some m=>
         have:n∈ids:=by rw[<-hn1];exact aD.2 ⟨_,mY hf,rfl⟩
         exact absurd (hio n this) (hno n hn)
       have hex:∀id∈ids,∃K,(id,K)∈nn:=λid R=>by rw[<-hn1] at R;obtain⟨p,Q,rfl⟩:=aD.1 R;exact⟨p.2,Q⟩
       have hρ:∀j∈names++ids,VT (iS nn j)=D j:=λj hj=>by
        rcases bu.1 hj with hj|hj
        .rw[hrenL j hj,abP j hj]
        .obtain⟨K,Q⟩:=hex j hj
         have:iS nn j=K:=by simp[iS,G j K Q]
         rw[this,hlocN j K Q]
       have hρn:∀j∈names++ids,iS nn j∈l.map (·.1):=λj hj=>by
        rw[Xu];simp only[cn,fo,bu];rcases bu.1 hj with hj|hj
        .rw[hrenL j hj];exact .inl (by simpa using hj)
        .obtain⟨K,Q⟩:=hex j hj
         have:iS nn j=K:=by simp[iS,G j K Q]
         rw[this];exact .inr (aD.2 ⟨_,Q,rfl⟩)
       have HE:∀id K,(id,K)∈names.map (λn=>(n,n))++nn->(id=K/\K∈names)\/(id,K)∈nn:=λid K Q=>by
        rcases bu.1 Q with Q|Q
        .obtain⟨n,hn,e⟩:=aD.1 Q;simp only[ck] at e;exact .inl ⟨e.1.symm.trans e.2,e.2▸hn⟩
        .exact .inr Q
       have Xr:∀id K,(id,K)∈names.map (λn=>(n,n))++nn->VT K=D id:=λid K Q=>by
        rcases HE id K Q with⟨rfl,hn⟩|Q
        .exact abP _ hn
        .exact hlocN _ _ Q
       obtain⟨u,hu,hr⟩:=honeA _ he F
       refine⟨F.defers,_,hu,_,μ1,VT,rfl,F.base,F.xZ, .inr (.inr (.inl ⟨x,rfl,WD hx (K9 hρ abJ hr),TZ hρn hx abJ⟩)),λK o ho=> ?_,λi j oi oj hi hj hij=> ?_,F.keep,
        λid R h9 hlt=>(abP id ((hnB id).2 ⟨R,h9⟩)).trans (F.fix id (S id) (by simp[iy,R]) h9 hlt),F.os,F.tape,F.output,F.grown,F.drawn⟩
       .obtain⟨id,ob,Q,qQ,hoc,rfl⟩:=Vo K o (mY ho);refine KV hρ hoc (F.obs id ob qQ) (Xr id K Q) (λb hb=> ?_);have hb':=((F.obs id ob qQ).block b hb).1;rcases HE id K Q with⟨rfl,hn⟩|Q
        .exact hb'
        .have R:id∈ids:=by rw[<-hn1];exact aD.2 ⟨_,Q,rfl⟩
         exact(F.BI (hio id R) hb').imp (λh=>h) .inl
       .obtain⟨id,ob,Q,qQ,_⟩:=Vo i oi (mY hi);obtain⟨id',ob',hp',Gl,_⟩:=Vo j oj (mY hj);intro hg;rw[Xr id i Q];rw[Xr id' j hp'];refine F.apart id id' ob ob' qQ Gl (λe=>hij ?_) hg;subst e;rcases HE id i Q with⟨e1,hn⟩|hq
        .rcases HE id j hp' with⟨e2,_⟩|hq'
         .exact e1.symm.trans e2
         .exact absurd (hio id (by rw[<-hn1];exact aD.2 ⟨_,hq',rfl⟩)) (hno id (e1▸hn))
        .rcases HE id j hp' with⟨e2,hn⟩|hq'
         .exact absurd (hio id (by rw[<-hn1];exact aD.2 ⟨_,hq,rfl⟩)) (hno id (e2▸hn))
         .have:=(G id i hq).symm.trans (G id j hq');injection this
      .cases z
    .cases z
  |false=>
  rw[how] at z;simp only[az] at z;split at z
  .rename_i n H;split at z
   .rename_i l U;simp only[aW,ck] at z;obtain⟨rfl,rfl⟩:=z;have G:=Bi U;have post:∀v,(∃A m c,D 10000= .slice A m c/\n<=m/\v= .slice A n c)->10000∈cL.map (·.1)->fN q μ S (cL.map (·.1)) (.self n) l w v μ1 D w':=λv ⟨A,m,c,k1,k2,k3⟩ hmem=>
     ⟨F.base,F.xZ, .inr (.inl ⟨n,A,m,c,rfl,hmem,k1,k2,k3⟩),λid o ho=>F.obs id o (G id o ho),λi j oi oj hi hj=>F.apart i j oi oj (G i oi hi) (G j oj hj),F.keep,
      λid R h9 hlt=>F.fix id (S id) (by simp[iy,R]) h9 hlt,F.os,F.tape,F.output,F.grown,F.drawn⟩
    unfold PW at H;split at H
    .rename_i t O abQ;have hmem:10000∈cL.map (·.1):=((hnB 10000).1 (by rw[abQ];simp)).1;split at H
     .rename_i e' sz' xs' he qQ;injection H with H;subst H;obtain⟨u,hu,hr⟩:=F.env t _ he;have hr:u=fS (D 10000):=hr;rw[jj (F.obs 10000 _ qQ)] at hr;obtain⟨vs,I,_⟩:=F.obs 10000 _ qQ;refine⟨F.defers,u,hone t u O hu,u,μ1,D,rfl,post u ?_ hmem⟩;rcases I.2 with⟨e1,e2⟩|⟨g,cap,cur,e1,_⟩
      .exact⟨none,0,0,e1,by omega,by rw[hr,e1,e2]⟩
      .exact⟨_,_,cap,e1,aU _,by rw[hr,e1]⟩
     .rename_i sz' n' e' sz2 xs' he qQ;injection H with H;subst H;obtain⟨u,hu,hr⟩:=F.env t _ he;obtain⟨A,m,c,A',c',k1,_,k2,_,k3,k4,_⟩:=hr;obtain⟨rfl,rfl⟩:=k4 rfl;exact⟨F.defers,u,hone t u O hu,u,μ1,D,rfl,post u ⟨A',m,c',k1,k2,by simpa using k3⟩ hmem⟩
     .cases H
    .cases H
   .cases z
  .rename_i H;split at z
   .rename_i st2 vs ht;split at z
    .rename_i l U;simp only[aW,ck] at z;obtain⟨rfl,rfl⟩:=z;obtain⟨μ2,us2,h2,hle2,hmap,hall⟩:=ML fn.results.toList F ht;obtain⟨v,hrun,hv⟩:=xo hmap;refine⟨h2.defers,v,hrun,v,μ2,D,rfl,?_⟩;have G:=Bi U
     exact⟨h2.base,h2.xZ, .inl (Wu hall hv),λid o ho=>h2.obs id o (G id o ho),λi j oi oj hi hj=>h2.apart i j oi oj (G i oi hi) (G j oj hj),h2.keep,
      λid R h9 hlt=>h2.fix id (S id) (by simp[iy,R]) h9 hlt,h2.os,h2.tape,h2.output,h2.grown,h2.drawn⟩
    .cases z
   .cases z
 cases e with
 |exit id=>simp[abm,abn] at hend
 |normal=>exact fin .normal hend ai
 |ret=>exact fin .ret hend ai
