/- THE ABSTRACT MACHINE. -/
import Derived.Test.YthphfjcnkinkpaaGreatDoorAmDraw
set_option linter.all false
namespace Go.AM
open Go.RowKit
def Ex.exit':Ex->Exit
 | .normal=> .normal
 | .exit id=> .exit id
 | .ret=> .ret
section
variable {P:Program} {N:Nat} {w0:World} {μ0:Mu} {L:s8} {h:Hint} {cB:eN}
def aap (N:Nat) (w0:World) (μ0:Mu) (L:s8) (e:Ex) (B:St):Exit->Act->World->Prop:=λz w D=>z=e.exit'/\∃q l,Rel N w0 μ0 L q l B w D
def Rel.canon {H:Mu} {B:Nat->Value} {F:St} {a:Act} {w:World} (q:Rel N w0 μ0 L H B F a w) (h:Hint) (key:Nat):Rel N w0 μ0 L H B (h.canon key F) a w:=by
 have get:∀{G:Type} (m:Nat->Option G) (l) (i) (v),find (vo m l) i=some v->m i=some v:=by intro G m l;induction l with
  |nil=>simp_all[vo,find]
  |cons j l O=>
   intro i v D;simp[vo] at D;split at D
   .simp[find] at D;cases K:Nat.beq j i with
    |true=>simp_all
    |false=>simp_all
   simp_all
 unfold Hint.canon;split
 rotate_left
 .exact q
 exact⟨q.small,q.names,q.fix,q.size,q.defers,λi s z=>q.env i s (get _ _ _ _ z),q.yc,q.base,λi o z=>q.obs i o (get _ _ _ _ z),
  λi j Q R z I=>q.apart i j _ _ (get _ _ _ _ z) (get _ _ _ _ I),q.keep,q.os,q.tape,q.output,q.grown,q.drawn⟩
def Rel.drew {D:Mu} {z:Nat->Value} {B:St} {a:Act} {w:World} (l:Rel N w0 μ0 L D z B a w):Rel N w0 μ0 L D z B a { w with drawn:=w.drawn+1 }:=
 ⟨l.small,l.names,l.fix,l.size,l.defers,l.env,l.yc,l.base,λi o I=>by have:=l.obs i o I;cases o with
  |box t cells=>exact this
  |mp k e Q U=>exact this
  |rn e s k O R xs V=>exact this
  |lp s=>obtain⟨K,F,G,H⟩:=this;exact⟨K,F,G,L.q.keep (w:=w) (λ_ _=>rfl) H⟩
  |row e S xs=>exact this,l.apart,l.keep,l.os,l.tape,l.output,l.grown,λq=>Nat.le_succ_of_le (l.drawn q)⟩
theorem E9:∀{l:List Nat} {I z:St} {F:Mu} {q:Nat->Value} {a:Act} {w:World},Rel N w0 μ0 L F q I a w->BS l I=some z->∃B,Rel N w0 μ0 L B q z a w
 |[],I,z,F,q,a,w,G,H=>by simp only[BS,bq] at H;subst H;exact⟨F,G⟩
 |id::l,I,z,F,q,a,w,G,H=>by
  simp only[BS] at H;obtain⟨O,D,Q⟩:=dA.1 H;obtain⟨R,_,K⟩:∃B,F.le B/\Rel N w0 μ0 L B q O a w:=by
   unfold St.PA at D;split at D
   .exact G.qy D
   .injection D with D;subst D;exact⟨F,Mu.le.refl _,G⟩
   .exact G.dy D
  exact E9 K Q
theorem Wv {B q:St} {D:Mu} {l:Nat->Value} {a:Act} {w:World} {id:Nat} (F:Rel N w0 μ0 L D l B a w) (G:h.adW id B=some q):∃z,Rel N w0 μ0 L z l q a w:=by grind[Hint.adW,E9]
def aar (q:Qp) (B:Mu) (P:Program) (N:Nat) (c:Code) (g:St->Bool) (F:St->Nat×St):Prop:=
 ∀(w0:World) (μ0:Mu) (L:s8) (D:Mu) (z:Nat->Value) (l:St) (a:Act) (w:World),L.q=q->B.le μ0->g l=true->Rel N w0 μ0 L D z l a w->c.wp P (aap N w0 μ0 L (exOf (F l).1) (F l).2) a w
def q7 (q:Qp) (B:Mu) (P:Program) (h:Hint) (N:Nat):Code->Prop
 | .seq a b=>match find h.blk (fk a) with
  |some x=>aar q B P N (.seq a b) x.1 x.2
  |none=>q7 q B P h N a/\q7 q B P h N b
 | .cond _ a b=>q7 q B P h N a/\q7 q B P h N b
 | .block _ c=>q7 q B P h N c
 | .loop c=>q7 q B P h N c
 | .scope c=>q7 q B P h N c
 |_=>True
def q7.none {q:Qp} {B:Mu} {P:Program} {h:Hint} {N:Nat} (D:h.blk=[]):∀c:Code,q7 q B P h N c:=by intro c;induction c with
 |seq x y l w=>simp only[q7,D,find];exact⟨l,w⟩
 |cond c x y l w=>exact⟨l,w⟩
 |block id c z=>exact z
 |loop c z=>exact z
 |scope c z=>exact z
 |_=>trivial
def CK {F:Fence} {n:Nat} {Q:Exit->Act->World->Prop} {a:Act} {w:World} {c:Code} (hs:c.wpIn F n P (Exit.noGoto Q) a w):(Code.scope c).wpIn F n P Q a w:=by intro b k S R I K;have z:(lone (b.atR a (.code (.scope c)::k)) _ w).fenced P F:=fenced_calm I K rfl;have D:Go.step P (lone (b.atR a (.code (.scope c)::k)) S w)= .next _:=step_lone_go (by rfl);obtain⟨e,G,H,B,q⟩:=hs b _ _ R I K;cases e with
 |normal=>have s2:Go.step P (lone (b.atR G (.inScope c::k)) S H)= .next _:=step_lone_go (by rfl);exact⟨_,_,_,B, .head z D (StepsIn.trans q (.one (fenced_calm I K rfl) s2))⟩
 |exit id=>exact⟨_,_,_,B,λk' hk=> .head z D (q.1 _ (by assumption)),λO hk=>let⟨_,U,V⟩:=q.2 O (by assumption);⟨_,U, .head z D V⟩⟩
 |goto l=>exact B.elim
 |ret=>exact⟨_,_,_,B, .of_steps (.one z D) q⟩
 |panic ch=>exact⟨_,_,_,B, .of_steps (.one z D) q⟩
 |outgrown=>exact⟨_,_,_,B, .of_steps (.one z D) q⟩
def Vf {B:Mu} (hBle:B.le μ0) (w6:iz L.q μ0 P cB) (hm:P.follows .mixedOrders=true) (n:Nat):∀(c:Code) (S:St) (e:Ex) (I:St),qQ N c=true->q7 L.q B P h N c->exec P h cB n c S=some (e,I)->
  ∀(U:Mu) (G:Nat->Value) (a:Act) (w:World),Rel N w0 μ0 L U G S a w->∀F,Wd F->(F.round=none\/h.blk=[])->c.wpIn F 0 P (aap N w0 μ0 L e I) a w:=by
 intro c;induction c with
 |skip=>intro S e I _ _ q U G a w R F V H;simp only[exec,bq,cD] at q;obtain⟨rfl,rfl⟩:=q;exact wpIn_skip ⟨rfl,U,G,R⟩
 |label l=>intro S e I _ _ q U G a w R F V H;simp only[exec,bq,cD] at q;obtain⟨rfl,rfl⟩:=q;exact wpIn_label ⟨rfl,U,G,R⟩
 |exit id=>intro S e I _ _ q U G a w R F V H;simp only[exec,bq,cD] at q;obtain⟨rfl,rfl⟩:=q;exact wpIn_exit ⟨rfl,U,G,R⟩
 |ret=>intro S e I _ _ q U G a w R F V H;simp only[exec,bq,cD] at q;obtain⟨rfl,rfl⟩:=q;exact wpIn_ret ⟨rfl,U,G,R⟩
 |region id ops draw=>
  intro S e I K Q q U G a w R F V H;have hd:∀o∈ops.toList,∀i,o.dst=some i->i<N:=λo ho i hi=>by simp only[qQ,cI] at K;have:=K o ho;simpa[hi,cK] using this
  simp only[exec] at q;obtain⟨st1,oH,q⟩:=dA.1 q;obtain⟨μ1,hR1⟩:=Wv R oH;clear R;have R:=hR1;cases draw with
  |true=>simp only[ak] at q;cases hs:tn 0 ops.toList with
   |false=>simp[hs] at q
   |true=>simp only[hs,ak] at q;cases hr:j0 P h cB ops 0 ops.toList [] (sE (yg ops.toList) st1) with
    |none=>simp[hr] at q
    |some s=>simp[hr] at q;obtain⟨rfl,rfl⟩:=q;exact wpIn_region_any hm (Va w6 hs hr hd (λa' w' O D h'=>⟨rfl,O,D,h'⟩) R.drew V)
  |false=>simp only[aA] at q;cases hr:qW P h cB ops ops.toList st1 with
   |none=>simp[hr] at q
   |some s=>simp[hr] at q;obtain⟨rfl,rfl⟩:=q;exact wpIn_region_list (PU w6 R hd hr (λa' w' O D h'=>⟨rfl,O,D,h'⟩) F V)
 |seq x y ihx ihy=>
  intro S e I K Q q U G a w R F V H;simp only[qQ,aV] at K;simp only[exec] at q;simp only[q7] at Q;cases hfb:find h.blk (fk x) with
  |some z=>simp only[hfb] at q Q;cases hg:z.1 S with
   |false=>simp[hg] at q
   |true=>
    simp only[hg,ak,bq,cD] at q;obtain⟨rfl,rfl⟩:=q;rcases H with H|H
    .rw[V.plain H,wpIn_wide];exact Q w0 μ0 L U G S a w rfl hBle hg R
    .rw[H] at hfb;cases hfb
  |none=>
  simp only[hfb] at q Q;refine wpIn_seq ?_;split at q
  .rename_i st1 hx;refine nH (ihx S _ _ K.1 Q.1 hx U G a w R F V H) ?_;rintro e' a' w' ⟨rfl,O,D,h'⟩;exact ihy st1 e I K.2 Q.2 q O D a' w' h' F V H
  .rename_i hne;refine nH (ihx S e I K.1 Q.1 q U G a w R F V H) ?_;rintro e' a' w' ⟨rfl,O,D,h'⟩;cases e with
   |normal=>exact absurd q (hne I)
   |exit id=>exact⟨rfl,O,D,h'⟩
   |ret=>exact⟨rfl,O,D,h'⟩
 |cond c x y ihx ihy=>
  intro S e I K Q q U G a w R F V H;simp only[qQ,aV] at K;simp only[exec] at q;split at q
  .rename_i t hc;have hcv:=bp R hc;simp only[fW,rep] at hcv;cases t with
   |true=>exact wpIn_cond_true hcv (ihx S e I K.1 Q.1 q U G a w R F V H)
   |false=>exact wpIn_cond_false hcv (ihy S e I K.2 Q.2 q U G a w R F V H)
  .cases q
 |block id c ih=>
  intro S e I K Q q U G a w R F V H;simp only[qQ] at K;simp only[exec] at q;refine wpIn_block ?_;split at q
  .rename_i j st1 hx;refine nH (ih S _ _ K Q hx U G a w R F V H) ?_;rintro e' a' w' ⟨rfl,O,D,h'⟩;cases hb:Nat.beq j id with
   |true=>simp only[hb,ak,bq,cD] at q;obtain⟨rfl,rfl⟩:=q;have:=beq_iff.1 hb;subst this;simp only[Ex.exit',Exit.inBlock,ia];exact⟨rfl,O,D,h'⟩
   |false=>
    simp only[hb,aA,bq,cD] at q;obtain⟨rfl,rfl⟩:=q
    have:j≠id:=λe=>by subst e;simp[pV] at hb
    simp only[Ex.exit',Exit.inBlock,az this];exact⟨rfl,O,D,h'⟩
  .rename_i hne;refine nH (ih S e I K Q q U G a w R F V H) ?_;rintro e' a' w' ⟨rfl,O,D,h'⟩;cases e with
   |normal=>exact⟨rfl,O,D,h'⟩
   |exit id=>exact absurd q (hne _ _)
   |ret=>exact⟨rfl,O,D,h'⟩
 |loop c ih=>
  intro S e I K Q q U G a w R F V H;simp only[qQ] at K;simp only[exec] at q;refine wpIn_loop_rounds n ?_;have key:∀(k:Nat) (S:St) (U:Mu) (G:Nat->Value) (a:Act) (w:World),Rel N w0 μ0 L U G S a w->iter h (fk c) (exec P h cB n c) k S=some (e,I)->Code.roundsIn F 0 P c (aap N w0 μ0 L e I) k a w:=by intro k;induction k with
   |zero=>intro S U G a w _ q;simp[iter] at q
   |succ k ihk=>
    intro S U G a w R q;rw[roundsIn_succ];simp only[iter] at q;split at q
    .rename_i st1 hx;refine nH (ih _ _ _ K Q hx U G a w (R.canon h _) F V H) ?_;rintro e' a' w' ⟨rfl,O,D,h'⟩;exact ihk st1 O D a' w' h' q
    .rename_i hne;refine nH (ih _ _ _ K Q q U G a w (R.canon h _) F V H) ?_;rintro e' a' w' ⟨rfl,O,D,h'⟩;cases e with
     |normal=>exact absurd q (hne _)
     |exit id=>exact⟨rfl,O,D,h'⟩
     |ret=>exact⟨rfl,O,D,h'⟩
  exact key n S U G a w R q
 |scope c ih=>intro S e I K Q q U G a w R F V H;simp only[qQ] at K;simp only[exec] at q;refine CK ?_;refine nH (ih S e I K Q q U G a w R F V H) ?_;rintro e' a' w' ⟨rfl,O,D,h'⟩;cases e<;>exact⟨rfl,O,D,h'⟩
 |rangeFunc f ps x y ihx ihy=>intro S e I _ _ q;simp[exec] at q
 |goto l=>intro S e I _ _ q;simp[exec] at q
 |refuse s=>intro S e I _ _ q;simp[exec] at q
def Mn {K:Mu} {q:Nat->Value} {I z:St} {a:Act} {w:World} (R:Rel N w0 μ0 L K q I a w) {id:Nat} (H:I.PB id=some z):∃B,K.le B/\Rel N w0 μ0 L B q z a w:=by
 unfold St.PB at H;split at H
 .obtain⟨S,O,Q⟩:=dA.1 H;obtain⟨U,G,D⟩:=sB R O;obtain⟨V,l,F⟩:=D.qy Q;exact⟨_,G.trans l,F⟩
 simp_all
def Mo {G:Mu} {D:Nat->Value} {K O:St} {a:Act} {w:World} (F:Rel N w0 μ0 L G D K a w) {t:Nat} {v:AV} (l:PC K t=some (O,v)):
  ∃q,Rel N w0 μ0 L q D O a w/\G.le q/\rep q v (a.tmps.getD t undef):=by
 have get:∀{G:Mu} {K:St},Rel N w0 μ0 L G D K a w->K.env t=some (.pv v)->rep G v (a.tmps.getD t undef):=λF I=>by
  obtain⟨u,S,R⟩:=F.env t _ I
  have:a.tmps.getD t undef=u:=by simp[S]
  rw[this];exact R
 unfold PC at l;split at l
 .rename_i v' I;simp only[bq,cD] at l;obtain⟨rfl,rfl⟩:=l;exact⟨G,F,Mu.le.refl _,get F I⟩
 .rename_i id I;split at l
  .rename_i V Q;split at l
   .rename_i cs z;simp only[bq,cD] at l;obtain⟨rfl,rfl⟩:=l;obtain⟨q,B,H⟩:=Mn F Q;obtain⟨u,S,R⟩:=H.env t _ z;have e:a.tmps.getD t undef=u:=by simp[S]
    refine⟨q,H,B,?_⟩;rw[e,rep];obtain⟨b,U,vs,e1,hc,hm⟩:=R;exact⟨b,U,vs,e1,hc.1,hc.2,hm⟩
   .cases l
  .cases l
 .rename_i id I;split at l
  .rename_i V Q;split at l
   .rename_i v' z;simp only[bq,cD] at l;obtain⟨rfl,rfl⟩:=l;obtain⟨q,B,H⟩:=F.dy Q;exact⟨q,H,B,get H z⟩
   .cases l
  .cases l
 .cases l
def sH (tmps:Array Value):ResultVar->Sem Value
 | .tmp t=>pure (tmps.getD t undef)
 | .cell a t=>do loadVar t (<-asAddr (tmps.getD a undef))
def Kg {G:Mu} {l:Nat->Value} {D:St} {a:Act} {w:World} (H:Rel N w0 μ0 L G l D a w) {z:Nat} {t:TypeId} {F:SV} (I:fB P ⟨none, .load t (.tmp z),t, "", #[],none⟩ D=some F):
  ∃v,(sH a.tmps (.cell z t)).run P w= .ok v w/\fW G l F v:=by
 obtain⟨v,B,R⟩:=zW H I;have O:a.eval (.tmp z)=a.tmps.getD _ _:=rfl;simp[execOp] at B;cases S:a.tmps.getD z undef with
 |pointer p=>cases p with
  |none=>simp_all[Instr.loadAt,Instr.sureAddr]
  |some q=>simp[Instr.loadAt,Instr.sureAddr] at B;simp[sH,asAddr];cases Q:(loadVar t q).run P w with
   |ok u K=>simp_all
   |halt x K=>simp_all
 |_=>simp_all[Instr.loadAt,Instr.sureAddr]
def vF {F:Mu} {l:Nat->Value} {D:St} {a:Act} {w:World} (z:Rel N w0 μ0 L F l D a w) {r:ResultVar} {q:SV} (B:KU P D r=some q):
  ∃v,(sH a.tmps r).run P w= .ok v w/\fW F l q v:=by
 cases r with
 |tmp t=>obtain⟨v,G,H⟩:=z.env t q B;exact⟨v,by simp[sH,G],H⟩
 |cell I t=>exact Kg z B
theorem MB:∀(l:List ResultVar) {R:Mu} {D:Nat->Value} {st F:St} {a:Act} {w:World} {V:List AV},Rel N w0 μ0 L R D st a w->tM P l st=some (F,V)->
  ∃B Q,Rel N w0 μ0 L B D F a w/\R.le B/\(l.mapM (sH a.tmps)).run P w= .ok Q w/\cS B V Q:=by
 intro l;induction l with
 |nil=>intro R D st F a w V U z;simp only[tM,bq,cD] at z;obtain⟨rfl,rfl⟩:=z;exact⟨R,[],U,Mu.le.refl _,rfl,dY⟩
 |cons x l ih=>
  intro R D st F a w V U z;have join:∀{H:Mu} {K:St} {v:AV} {u:Value} {G:List AV},Rel N w0 μ0 L H D K a w->R.le H->(sH a.tmps x).run P w= .ok u w->rep H v u->tM P l K=some (F,G)->V=v::G->
    ∃B Q,Rel N w0 μ0 L B D F a w/\R.le B/\((x::l).mapM (sH a.tmps)).run P w= .ok Q w/\cS B V Q:=by
   intro H K v u G S I hr q O e;obtain⟨μ2,Q,h2,hle2,hm,hall⟩:=ih S O;refine⟨μ2,u::Q,h2,I.trans hle2,?_,by grind[cT,yG]⟩;simp[q9,hr,hm]
  cases x with
  |tmp t=>
   simp only[tM] at z;split at z
   .rename_i K v hp;split at z
    .rename_i st2 G O;simp only[bq,cD] at z;obtain⟨rfl,rfl⟩:=z;obtain⟨H,S,I,q⟩:=Mo U hp;exact join S I rfl q O rfl
    .cases z
   .cases z
  |cell ad t=>
   simp only[tM] at z;split at z
   .rename_i v hp;split at z
    .rename_i st2 G O;simp only[bq] at z;obtain⟨rfl,rfl⟩:=z;obtain⟨u,hr,q⟩:=Kg U hp;exact join U (Mu.le.refl _) hr q O rfl
    simp_all
   .split at z
    .rename_i K oH;split at z
     .rename_i v hp1;split at z
      .rename_i st2 G O;obtain⟨rfl,rfl⟩:=z;obtain⟨H,I,S⟩:=U.dy oH;obtain⟨u,hr,q⟩:=Kg S hp1;exact join S I hr q O rfl
      simp_all
     simp_all
    simp_all
   simp_all
def tX {fn:Func} {tmps:Array Value} {w:World} {us:List Value} (h:(fn.results.toList.mapM (sH tmps)).run P w= .ok us w):
  ∃v,(results fn tmps).run P w= .ok v w/\((∃u,us=[u]/\v=u)\/(us.length≠1/\v= .tuple us.toArray)):=by
 have e:(results fn tmps)=(do
   let z<-fn.results.mapM (sH tmps)
   pure (if h:z.size=1 then z[0] else .tuple z)):=by
  unfold results;congr 1
 rw[e];obtain⟨l⟩:∃l,fn.results=⟨l⟩:=⟨fn.results.toList,ai⟩
 have D:(fn.results.mapM (sH tmps)).run P w= .ok us.toArray w:=by
  rename_i B;rw[B] at h⊢;simp only at h
  have:(List.toArray l).mapM (sH tmps)=Functor.map List.toArray (l.mapM (sH tmps)):=List.mapM_toArray ..
  rw[show(⟨l⟩:Array ResultVar)=l.toArray from rfl,this];simp[h]
 simp only[jq,D,kM,tO];by_cases q:us.length=1
 .match us,q with
  |[u],_=>exact⟨u,by simp, .inl ⟨u,rfl,rfl⟩⟩
 .exact⟨.tuple us.toArray,by simp[q], .inr ⟨q,rfl⟩⟩
theorem WD {B:Mu} {q:List AV} {w:List Value} {v:Value} (l:cS B q w) (G:(∃u,w=[u]/\v=u)\/(w.length≠1/\v= .tuple w.toArray)):rep B (result q) v:=by
 have z:=tI l;rcases G with⟨u,rfl,rfl⟩|⟨F,rfl⟩
 .match q,z with
  |[x],_=>obtain⟨K,H,e,D,_⟩:=l;injection e with e1 I;subst e1;exact D
 .have:result q= .gX q:=by
   match q,z with
   |[],_=>rfl
   |[x],z=>simp_all
   |_::_::_,_=>rfl
  rw[this,rep];simp_all
theorem Bj {names:List Nat} {G:St}:∀{l:List Nat} {cG:List (Nat×Ob)},qe names G l=some cG->∀id o,find cG id=some o->G.ob id=some o:=by intro l;induction l with
 |nil=>intro cG q id o w;simp only[qe,bq] at q;subst q;simp[find] at w
 |cons j l H=>
  intro cG q id o w;simp only[qe] at q;split at q
  .rename_i I K B D;cases F:I.closed names with
   |false=>simp[F] at q
   |true=>simp only[F,ak,bq] at q;subst q;simp only[find] at w;cases z:Nat.beq j id with
    |true=>simp only[z,ak,bq] at w;subst w;rw[<-beq_iff.1 z];exact B
    |false=>simp only[z,aA] at w;exact H D id o w
  .cases q
def L4 {names:List Nat} {w:St}:∀{l:List Nat} {cG:List (Nat×Ob)},qe names w l=some cG->cG.map (·.1)=l:=by intro l;induction l with
 |nil=>simp_all[qe]
 |cons j l z=>intro cG q;simp[qe] at q;grind
def Sr:∀(l:List SV) (i j:Nat) (s:SV),find (zz i l) j=some s->∃k,j=i+k/\l[k]? =some s:=by intro l;induction l with
 |nil=>intro i j s q;simp[zz,find] at q
 |cons x l B=>intro i j s q;simp only[zz,find] at q;cases w:Nat.beq i j with
  |true=>simp only[w,ak,bq] at q;subst q;exact⟨0,by have:=beq_iff.1 w;omega,rfl⟩
  |false=>simp only[w,aA] at q;obtain⟨k,rfl,z⟩:=B (i+1) j s q;exact⟨k+1,by omega,by simpa using z⟩
def abt {q:Type}:∀{l:List (Nat×q)} {i:Nat} {v:q},find l i=some v->i∈l.map (·.1):=by intro l;induction l with
 |nil=>simp_all[find]
 |cons x l B=>intro i v w;obtain⟨j,u⟩:=x;simp[find] at w;cases z:Nat.beq j i with
  |true=>simp_all
  |false=>simp_all
end
def Hs:∀(k:Nat) (l:List Nat),(vn k l).map (·.1)=l
 |_,[]=>rfl
 |k,id::l=>by simp[vn,Hs (k+1) l]
def xW:∀(k:Nat) (l:List Nat),∀p∈vn k l,25000+k<=p.2
 |_,[],p,q=>by cases q
 |k,id::l,p,q=>by
  simp[vn,aS] at q;rcases q with rfl|q
  .omega
  .have:=xW _ l p q;omega
def C1:∀(k:Nat) (l:List Nat),((vn k l).map (·.2)).Nodup
 |_,[]=>y3
 |k,id::l=>by simp only[vn,bS];refine gy.2 ⟨λq=> ?_,C1 (k+1) l⟩;obtain⟨p,w,e⟩:=aG.1 q;have:=xW (k+1) l p w;omega
def Mw {w:Mu} {l:Nat->Value} {q:oJ} {u:Value} (h:PN w l q u):PN w l (IS (Xe q)) u:=by cases q with
 |v a=>cases a with
  |self n=>simp[PN,rep] at h
  |_=>exact h
 |r n=>exact h
 |p n=>obtain⟨b,z,rfl⟩:=h;show _=gp _;rw[z];rfl
theorem rH {I:Mu} {q:Nat->Value} {F:SV} {x:AV} {u:Value} (h:ue F=some x) (z:fW I q F u):fW I q (uw x) u:=by
 unfold ue at h;split at h
 .injection h with h;subst h;exact z
 .injection h with h;subst h;obtain⟨b,w,rfl⟩:=z;show _=gp _;rw[w];rfl
 .rename_i B;cases l:B.all aaW with
  |false=>rw[l] at h;cases h
  |true=>
  rw[l,ak] at h;injection h with h;subst h;obtain⟨H,rfl,w,D⟩:=z;refine⟨H,rfl,?_,D⟩;clear D l;induction B generalizing H with
  |nil=>exact w
  |cons c B K=>obtain⟨v,G,rfl,O,Q⟩:=w;exact⟨v,G,rfl,Mw O,K G Q⟩
 .rename_i v;cases l:v.scalar with
  |false=>rw[l] at h;cases h
  |true=>
  rw[l,ak] at h;injection h with h;subst h;cases v<;>first|exact z|cases l
 .cases h
theorem NC {w:SV} {x:AV} (h:ue w=some x):∀l,x≠ .gX l:=λl e=>by
 subst e;unfold ue at h;split at h
 .cases h
 .cases h
 .grind
 .rename_i v;cases q:v.scalar with
  |false=>simp_all
  |true=>rw[q] at h;injection h with h;subst h;cases q
 grind
theorem M3 {x:AV} (h:∀l,x≠ .gX l):vV x=uw x:=by
 unfold vV;split
 .exact absurd rfl (h _)
 .exact absurd rfl (h _)
 .rfl
def WQ {H:Mu} {l:Nat->Value} {G:SV} {x:AV} {u:Value} (h:WO G=some x) (F:fW H l G u):fW H l (vV x) u:=by
 unfold WO at h;split at h
 .split at h
  .rename_i a b w z;injection h with h;subst h;obtain⟨p,q,e,B,D⟩:=F;exact⟨p,q,e,rH w B,rH z D⟩
  grind
 .split at h
  .rename_i a b c w z I;injection h with h;subst h;obtain⟨p,q,r,e,B,D,K⟩:=F;exact⟨p,q,r,e,rH w B,rH z D,rH I K⟩
  grind
 grind[M3,NC,rH]
theorem Ad {names:List Nat} {D:Nat->Nat} {l:List Nat} (q:∀j∈names,D j∈l) {B:SV} {x:AV} (h:ue (B.oN D)=some x) (z:B.closed names=true):(uw x).closed l=true:=by cases B with
 |row n=>simp only[SV.oN,ue,bq] at h;subst h;simpa[uw,SV.closed] using q n (by simpa[SV.closed] using z)
 |ptr n K=>
  simp only[SV.oN] at h;unfold ue at h;split at h
  .rename_i e;cases e
  .rename_i e;cases e;injection h with h;subst h;simpa[uw,SV.closed] using q n (by simpa[SV.closed] using z)
  .rename_i e;cases e
  .rename_i e;cases e
  .cases h
 |ag H=>
  simp only[SV.oN,ue] at h;cases w:(H.map (oJ.oN D)).all aaW with
  |false=>rw[w] at h;cases h
  |true=>
  rw[w,ak,bq] at h;subst h;simp only[uw,SV.closed,List.all_map,cI] at z w⊢;intro c G;have F:=z c G;have I:=w c G;cases c with
  |v a=>cases a with
   |self n=>cases I
   |_=>rfl
  |p n=>simpa[oJ.oN,IS,Xe] using q n (by simpa using F)
  |r n=>simpa[oJ.oN,IS,Xe] using q n (by simpa using F)
 |pv v=>
  simp only[SV.oN,ue] at h;cases w:v.scalar with
  |false=>rw[w] at h;cases h
  |true=>
  rw[w,ak] at h;injection h with h;subst h;cases v<;>first|rfl|cases w
 |_=>simp[SV.oN,ue] at h
def Ub {names:List Nat} {w:Nat->Nat} {l:List Nat} (F:∀j∈names,w j∈l) {q:SV} {x:AV} (h:WO (q.oN w)=some x) (D:q.closed names=true):(vV x).closed l=true:=by
 by_cases z:∃s t,q= .two s t
 .obtain⟨s,t,rfl⟩:=z;simp[SV.oN,WO] at h;split at h
  .injection h with h;subst h;obtain⟨G,c2⟩:=lK.1 D;simp[vV,SV.closed];grind[Ad]
  grind
 by_cases B:∃s t r,q= .three s t r
 .obtain⟨s,t,r,rfl⟩:=B;simp[SV.oN,WO] at h;split at h
  .injection h with h;subst h;simp only[SV.closed,aV] at D;simp[vV,SV.closed];grind[Ad]
  grind
 .have e:WO (q.oN w)=ue (q.oN w):=by
   cases q<;>first|exact absurd ⟨_,_,rfl⟩ z|exact absurd ⟨_,_,_,rfl⟩ B|rfl
  grind[M3,NC,Ad]
def UU {P:Program} {h:Hint} {cB:eN} {q:Qp} {B:Mu} {f:Nat} (hok:DK P=true) (hblk:∀fn c,P.funcs[f]? =some fn->fn.body=some c->q7 q B P h fn.ntmps c) (w6:iz q B P cB) {n:Nat} {fn:Func} {c:Code} {args:List SV} {cG sZ:List (Nat×Ob)} {r:AV} {e:Ex} {st:St}
  (hf:P.funcs[f]? =some fn) (hb:fn.body=some c) (Az:(Nat.ble args.length fn.ntmps&&(cG.map (·.1)).all (λi=> !(iK i)||giv i))=true)
  (hx:exec P h cB n c { env:=find (zz 0 args),ob:=find cG }=some (e,st)) (hend:abe P h.own fn cG e st=some (r,sZ)):
  ∀(w:World) (μ:Mu) (S:Nat->Value) (us:List Value),B.le μ->L0 μ w->(∀id o,find cG id=some o->nY w.heap.size (iq q S (cG.map (·.1))) μ S w id o)->W5 S cG->gY μ S args us->
   (∀w2,(callFunc f us.toArray).run P w2= .ok (.enter f us.toArray) w2)/\Calls P f us.toArray w λe w'=>∃v μ' loc',e= .returned v/\fL q μ S (cG.map (·.1)) r sZ w v μ' loc' w':=by
 intro w μ S us hBle oH hobs hap BE;simp only[aV] at Az;simp only[DK,aV] at hok;obtain⟨⟨hm,hfuncs⟩,_⟩:=hok;have hfn:Vj fn=true:=cI.1 hfuncs fn (aR (show P.funcs.toList[f]? =some fn by simpa using hf));simp only[Vj,hb,aV,jx] at hfn;obtain⟨⟨hsmall,hname⟩,F9⟩:=hfn;have hlen:=qm BE;have hle:args.length<=fn.ntmps:=fF Az.1;refine⟨λw2=> ?_,?_⟩
 .have hname':¬(fn.name= "runtime.NumGoroutine"):=by simpa using hname
  simp[callFunc,hf,hname',hb]
 refine calls_of_wp hf hb ?_;have hR:Rel fn.ntmps w μ (iq q S (cG.map (·.1))) μ S { env:=find (zz 0 args),ob:=find cG } { tmps:=us.toArray++Array.replicate (fn.ntmps-us.toArray.size) undef,defers:=[] } w:=by
  refine⟨fF hsmall,?_,?_,?_,rfl,?_,oH,⟨Mu.le.refl _,λ_ _ _ h=> .inl h⟩,hobs,hap,λ_ _ _=>rfl,rfl,rfl,rfl,aZ _,λ_=>aZ _⟩
  .intro id R
   have:¬(id∈cG.map (·.1)):=λhm=>by
    have:=cI.1 Az.2 id hm;have h0:iK id=true:=by simp[iK,cK];omega
    rw[h0] at this;simp only[giv,h0,dS,pX,y5] at this;have:=fF this;omega
   simp only[iq,az this]
  .intro id v V _ _;simp only[iq] at V;split at V
   .injection V
   .cases V
  .simp;omega
  .intro i s hi;obtain⟨k,hk,hs⟩:=Sr args 0 i s hi;obtain⟨u,hu,hr⟩:=Nv BE hs;have hlt:=(bR.1 hu).1;refine⟨u,?_,hr⟩;rw[hk,eO,uL (by simpa using hlt)];simpa using hu
 refine wp_mono (wpIn_wide.1 (Vf (B:=B) hBle (w6.mono hBle) hm n c _ e st F9 (hblk fn c hf hb) hx μ S _ w hR _ Wd.wide (.inl rfl))) ?_;rintro e' a' w' ⟨rfl,μ1,D,F⟩;have fin:∀(e:Ex),abe P h.own fn cG e st=some (r,sZ)->(∀id,e≠ .exit id)->a'.defers=[]/\∃v,(results fn a'.tmps).run P w'= .ok v w'/\∃v' μ' loc',Ending.returned v= .returned v'/\fL q μ S (cG.map (·.1)) r sZ w v' μ' loc' w':=by
  intro e hend hne;have hone:∀t u,fn.results.toList=[.tmp t]->a'.tmps[t]? =some u->(results fn a'.tmps).run P w'= .ok u w':=λt u K hu=>by
   obtain⟨v,U,V⟩:=tX (P:=P) (fn:=fn) (tmps:=a'.tmps) (w:=w') (us:=[u]) (by
    rw[K]
    have:a'.tmps.getD t undef=u:=by simp[hu]
    simp[q9,sH,this])
   rcases V with⟨u',e,rfl⟩|⟨hne,_⟩
   .injection e with e;rw[e];exact U
   .simp at hne
  have hone1:∀rv u,fn.results.toList=[rv]->(sH a'.tmps rv).run P w'= .ok u w'->(results fn a'.tmps).run P w'= .ok u w':=λrv u K hu=>by
   obtain⟨v,U,V⟩:=tX (P:=P) (fn:=fn) (tmps:=a'.tmps) (w:=w') (us:=[u]) (by
    rw[K]
    simp[q9,hu])
   rcases V with⟨u',e,rfl⟩|⟨hne,_⟩
   .injection e with e;rw[e];exact U
   .simp at hne
  have honeA:∀sv,WC P st fn.results.toList=some sv->∀{μ1 D},Rel fn.ntmps w μ (iq q S (cG.map (·.1))) μ1 D st a' w'->∃u,(results fn a'.tmps).run P w'= .ok u w'/\fW μ1 D sv u:=λsv V μ1 D F=>by
   unfold WC at V;split at V
   .rename_i rv K;obtain⟨u,hu,hr⟩:=vF F V;exact⟨u,hone1 rv _ K hu,hr⟩
   .rename_i rv rq K;split at V
    .rename_i s1 s2 e1 e2;injection V with V;subst V;obtain⟨u,hu,hr⟩:=vF F e1;obtain⟨u2,hu2,hr2⟩:=vF F e2
     obtain⟨v,U,V⟩:=tX (P:=P) (fn:=fn) (tmps:=a'.tmps) (w:=w') (us:=[u,u2]) (by
      rw[K]
      simp[q9,hu,hu2])
     rcases V with⟨u',e,_⟩|⟨_,rfl⟩
     .simp at e
     .exact⟨_,U,_,_,rfl,hr,hr2⟩
    .cases V
   .rename_i rv rq rp K;split at V
    .rename_i s1 s2 s3 e1 e2 e3;injection V with V;subst V;obtain⟨u,hu,hr⟩:=vF F e1;obtain⟨u2,hu2,hr2⟩:=vF F e2;obtain⟨u3,hu3,hr3⟩:=vF F e3
     obtain⟨v,U,V⟩:=tX (P:=P) (fn:=fn) (tmps:=a'.tmps) (w:=w') (us:=[u,u2,u3]) (by
      rw[K]
      simp[q9,hu,hu2,hu3])
     rcases V with⟨u',e,_⟩|⟨_,rfl⟩
     .simp at e
     .exact⟨_,U,_,_,_,rfl,hr,hr2,hr3⟩
    .cases V
   .cases V
  have hnB:∀i,i∈((cG.map (·.1)).filter λi=> !(iK i))↔i∈cG.map (·.1)/\10000<=i:=λi=>by
   rw[c7];refine and_congr_right λ_=> ?_
   cases ho:iK i with
   |true=>
        have:i<10000:=by simpa[iK,cK] using ho
        simp;omega
   |false=>
    have:¬i<10000:=λhlt=>by
     have:iK i=true:=by simpa[iK,cK] using hlt
     rw[ho] at this;cases this
    simp;omega
  have z:(bif h.own then match Ws fn st,qe ((cG.map (·.1)).filter λi=> !(iK i)) st ((cG.map (·.1)).filter λi=> !(iK i)) with
   |some r,some l=>some (r,l)
   |_,_=>OB P fn ((cG.map (·.1)).filter λi=> !(iK i)) st
  else match PY fn ((cG.map (·.1)).filter λi=> !(iK i)) st with
   |some n=>match qe ((cG.map (·.1)).filter λi=> !(iK i)) st ((cG.map (·.1)).filter λi=> !(iK i)) with
    |some l=>some (AV.self n,l)
    |none=>none
   |none=>match tM P fn.results.toList st with
   |some (st',vs)=>match qe ((cG.map (·.1)).filter λi=> !(iK i)) st' ((cG.map (·.1)).filter λi=> !(iK i)) with
    |some l=>some (result vs,l)
    |none=>none
   |none=>none)=some (r,sZ):=by
   cases e with
   |exit id=>exact absurd rfl (hne id)
   |normal=>exact hend
   |ret=>exact hend
  cases how:h.own with
  |true=>
   rw[how] at z;simp only[ak] at z;split at z
   .rename_i r0 l I CV;simp only[bq,cD] at z;obtain⟨rfl,rfl⟩:=z;have G:=Bj CV;unfold Ws at I;split at I
    .rename_i t K;split at I
     .rename_i id he;split at I
      .rename_i e' sz' xs' R sY;injection I with I;subst I;obtain⟨u,hu,hr⟩:=F.env t _ he;have hr:u=gp (D id):=hr;rw[jF (F.obs id _ sY)] at hr;subst hr;have hidl:id<10000:=by simpa[iK,cK] using R
       obtain⟨us',I,hrc,hblk'⟩:=F.obs id _ sY
       refine⟨F.defers,_,hone t _ K hu,_,μ1,D,rfl,F.base,F.yc, .inr (.inr (.inr ⟨e',sz',xs',us',rfl,I,hrc,λg hg=> ?_⟩)),λid o ho=>F.obs id o (G id o ho),λi j oi oj hi hj=>F.apart i j oi oj (G i oi hi) (G j oj hj),F.keep,
        λid R h9 hlt=>F.fix id (S id) (by simp[iq,R]) h9 hlt,F.os,F.tape,F.output,F.grown,F.drawn⟩
       have hgb:mG (D id) g:= .inl hg;refine⟨?_,(hblk' g hgb).2,λj o ho hb=> ?_⟩
       .exact F.DH hidl (hblk' g hgb).1
       .have hj:10000<=j:=by
         have:=abt ho;rw[L4 CV] at this;exact((hnB j).1 this).2
        exact F.apart j id o _ (G j o ho) sY (λe=>by omega) g hb hgb
      .cases I
     .cases I
    .cases I
   .have z:OB P fn ((cG.map (·.1)).filter λi=> !(iK i)) st=some (r,sZ):=z;generalize abH:((cG.map (·.1)).filter λi=> !(iK i))=names at z hnB;have hno:∀n∈names,¬n<10000:=λn hn hlt=>by
     have:=((hnB n).1 hn).2;omega
    unfold OB at z;split at z
    .rename_i sv he
     .simp only[] at z;generalize hids:(gI st 200 (sv.ids++names.flatMap (Cv st)) []).filter iK=ids at z;have hio:∀id∈ids,id<10000:=λid hi=>by
       rw[<-hids] at hi;simpa[iK,cK] using(c7.1 hi).2
      generalize hnn:vn 0 ids=nn at z;have hn1:nn.map (·.1)=ids:=by rw[<-hnn];exact Hs _ _
      have hn2:(nn.map (·.2)).Nodup:=by rw[<-hnn];exact C1 _ _
      have hn3:∀p∈nn,25000<=p.2:=λp Q=>by have:=xW 0 ids p (by rw[hnn];exact Q);omega
      cases hc:(distinct ids&&names.all (λn=>Nat.blt n 25000)&&sv.closed (names++ids)) with
      |false=>rw[hc] at z;cases z
      |true=>
      rw[hc,ak] at z;simp only[aV,cI] at hc;obtain⟨⟨hdis,hsm⟩,abB⟩:=hc;have hsm:∀n∈names,n<25000:=λn hn=>by simpa[cK] using hsm n hn
      have hnd:=mP hdis;split at z
      .rename_i x l hx hl;simp only[bq,cD] at z;obtain⟨rfl,rfl⟩:=z;obtain⟨XA,Vt⟩:=xS hl;have G:∀id O,(id,O)∈nn->find nn id=some O:=λid O Q=>jN (by rw[hn1];exact hnd) Q
       have hswap:∀id O,(id,O)∈nn->find (swap nn) O=some id:=λid O Q=>jN (by rw[yQ];exact hn2) (BJ Q)
       let V5:Nat->Value:=λO=>match find (swap nn) O with
        |some id=>D id
        |none=>D O
       have hlocN:∀id O,(id,O)∈nn->V5 O=D id:=λid O Q=>by simp only[V5,hswap id O Q]
       have abG:∀n∈names,V5 n=D n:=λn hn=>by cases hf:find (swap nn) n with
        |none=>simp only[V5,hf]
        |some id=>
         have h0:=mR hf
         have:n∈nn.map (·.2):=by rw[<-yQ];exact aG.2 ⟨_,h0,rfl⟩
         obtain⟨p,Q,e⟩:=aG.1 this;have F:=hn3 p Q;have h2:=hsm n hn;omega
       have hrenL:∀n∈names,iN nn n=n:=λn hn=>by cases hf:find nn n with
        |none=>simp[iN,hf]
        |some m=>
         have:n∈ids:=by rw[<-hn1];exact aG.2 ⟨_,mR hf,rfl⟩
         exact absurd (hio n this) (hno n hn)
       have hex:∀id∈ids,∃O,(id,O)∈nn:=λid R=>by rw[<-hn1] at R;obtain⟨p,Q,rfl⟩:=aG.1 R;exact⟨p.2,Q⟩
       have hρ:∀j∈names++ids,V5 (iN nn j)=D j:=λj hj=>by
        rcases bu.1 hj with hj|hj
        .rw[hrenL j hj,abG j hj]
        .obtain⟨O,Q⟩:=hex j hj
         have:iN nn j=O:=by simp[iN,G j O Q]
         rw[this,hlocN j O Q]
       have hρn:∀j∈names++ids,iN nn j∈l.map (·.1):=λj hj=>by
        rw[XA];simp only[cL,e8,bu];rcases bu.1 hj with hj|hj
        .rw[hrenL j hj];exact .inl (by simpa using hj)
        .obtain⟨O,Q⟩:=hex j hj
         have:iN nn j=O:=by simp[iN,G j O Q]
         rw[this];exact .inr (aG.2 ⟨_,Q,rfl⟩)
       have Hl:∀id O,(id,O)∈names.map (λn=>(n,n))++nn->(id=O/\O∈names)\/(id,O)∈nn:=λid O Q=>by
        rcases bu.1 Q with Q|Q
        .obtain⟨n,hn,e⟩:=aG.1 Q;simp only[cD] at e;exact .inl ⟨e.1.symm.trans e.2,e.2▸hn⟩
        .exact .inr Q
       have Xw:∀id O,(id,O)∈names.map (λn=>(n,n))++nn->V5 O=D id:=λid O Q=>by
        rcases Hl id O Q with⟨rfl,hn⟩|Q
        .exact abG _ hn
        .exact hlocN _ _ Q
       obtain⟨u,hu,hr⟩:=honeA _ he F
       refine⟨F.defers,_,hu,_,μ1,V5,rfl,F.base,F.yc, .inr (.inr (.inl ⟨x,rfl,WQ hx (KR hρ abB hr),Ub hρn hx abB⟩)),λO o ho=> ?_,λi j oi oj hi hj hij=> ?_,F.keep,
        λid R h9 hlt=>(abG id ((hnB id).2 ⟨R,h9⟩)).trans (F.fix id (S id) (by simp[iq,R]) h9 hlt),F.os,F.tape,F.output,F.grown,F.drawn⟩
       .obtain⟨id,ob,Q,sY,hoc,rfl⟩:=Vt O o (mR ho);refine KD hρ hoc (F.obs id ob sY) (Xw id O Q) (λb hb=> ?_);have hb':=((F.obs id ob sY).block b hb).1;rcases Hl id O Q with⟨rfl,hn⟩|Q
        .exact hb'
        .have R:id∈ids:=by rw[<-hn1];exact aG.2 ⟨_,Q,rfl⟩
         exact(F.DH (hio id R) hb').imp (λh=>h) .inl
       .obtain⟨id,ob,Q,sY,_⟩:=Vt i oi (mR hi);obtain⟨id',ob',hp',JZ,_⟩:=Vt j oj (mR hj);intro hg;rw[Xw id i Q];rw[Xw id' j hp'];refine F.apart id id' ob ob' sY JZ (λe=>hij ?_) hg;subst e;rcases Hl id i Q with⟨e1,hn⟩|hq
        .rcases Hl id j hp' with⟨e2,_⟩|hq'
         .exact e1.symm.trans e2
         .exact absurd (hio id (by rw[<-hn1];exact aG.2 ⟨_,hq',rfl⟩)) (hno id (e1▸hn))
        .rcases Hl id j hp' with⟨e2,hn⟩|hq'
         .exact absurd (hio id (by rw[<-hn1];exact aG.2 ⟨_,hq,rfl⟩)) (hno id (e2▸hn))
         .have:=(G id i hq).symm.trans (G id j hq');injection this
      .cases z
    .cases z
  |false=>
  rw[how] at z;simp only[aA] at z;split at z
  .rename_i n H;split at z
   .rename_i l CV;simp only[bq,cD] at z;obtain⟨rfl,rfl⟩:=z;have G:=Bj CV;have post:∀v,(∃A m c,D 10000= .slice A m c/\n<=m/\v= .slice A n c)->10000∈cG.map (·.1)->fL q μ S (cG.map (·.1)) (.self n) l w v μ1 D w':=λv ⟨A,m,c,k1,k2,k3⟩ hmem=>
     ⟨F.base,F.yc, .inr (.inl ⟨n,A,m,c,rfl,hmem,k1,k2,k3⟩),λid o ho=>F.obs id o (G id o ho),λi j oi oj hi hj=>F.apart i j oi oj (G i oi hi) (G j oj hj),F.keep,
      λid R h9 hlt=>F.fix id (S id) (by simp[iq,R]) h9 hlt,F.os,F.tape,F.output,F.grown,F.drawn⟩
    unfold PY at H;split at H
    .rename_i t K abH;have hmem:10000∈cG.map (·.1):=((hnB 10000).1 (by rw[abH];simp)).1;split at H
     .rename_i e' sz' xs' he sY;injection H with H;subst H;obtain⟨u,hu,hr⟩:=F.env t _ he;have hr:u=gp (D 10000):=hr;rw[jF (F.obs 10000 _ sY)] at hr;obtain⟨vs,I,_⟩:=F.obs 10000 _ sY;refine⟨F.defers,u,hone t u K hu,u,μ1,D,rfl,post u ?_ hmem⟩;rcases I.2 with⟨e1,e2⟩|⟨g,cap,cur,e1,_⟩
      .exact⟨none,0,0,e1,by omega,by rw[hr,e1,e2]⟩
      .exact⟨_,_,cap,e1,aZ _,by rw[hr,e1]⟩
     .rename_i sz' n' e' sz2 xs' he sY;injection H with H;subst H;obtain⟨u,hu,hr⟩:=F.env t _ he;obtain⟨A,m,c,A',c',k1,_,k2,_,k3,k4,_⟩:=hr;obtain⟨rfl,rfl⟩:=k4 rfl;exact⟨F.defers,u,hone t u K hu,u,μ1,D,rfl,post u ⟨A',m,c',k1,k2,by simpa using k3⟩ hmem⟩
     .cases H
    .cases H
   .cases z
  .rename_i H;split at z
   .rename_i st2 vs ht;split at z
    .rename_i l CV;simp only[bq,cD] at z;obtain⟨rfl,rfl⟩:=z;obtain⟨μ2,us2,h2,hle2,hmap,hall⟩:=MB fn.results.toList F ht;obtain⟨v,U,V⟩:=tX hmap;refine⟨h2.defers,v,U,v,μ2,D,rfl,?_⟩;have G:=Bj CV
     exact⟨h2.base,h2.yc, .inl (WD hall V),λid o ho=>h2.obs id o (G id o ho),λi j oi oj hi hj=>h2.apart i j oi oj (G i oi hi) (G j oj hj),h2.keep,
      λid R h9 hlt=>h2.fix id (S id) (by simp[iq,R]) h9 hlt,h2.os,h2.tape,h2.output,h2.grown,h2.drawn⟩
    .cases z
   .cases z
 cases e with
 |exit id=>simp[abe,abf] at hend
 |normal=>exact fin .normal hend ai
 |ret=>exact fin .ret hend ai
