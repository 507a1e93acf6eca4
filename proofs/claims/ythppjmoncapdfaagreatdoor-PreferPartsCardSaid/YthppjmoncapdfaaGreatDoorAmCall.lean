/- THE ABSTRACT MACHINE. -/
import Derived.Test.YthppjmoncapdfaaGreatDoorAmDraw
set_option linter.all false
namespace Go.AM
open Go.RowKit
def Ex.exit':Ex->Exit
 | .normal=> .normal
 | .exit id=> .exit id
 | .ret=> .ret
section
variable {P:Program} {N:Nat} {w0:World} {μ0:Mu} {L:nV} {h:Hint} {bC:cr}
def K6 (N:Nat) (w0:World) (μ0:Mu) (L:nV) (e:Ex) (B:St):Exit->Act->World->Prop:=λz w D=>z=e.exit'/\∃q l,Rel N w0 μ0 L q l B w D
def Rel.canon {K:Mu} {D:Nat->Value} {I:St} {a:Act} {w:World} (q:Rel N w0 μ0 L K D I a w) (h:Hint) (key:Nat):Rel N w0 μ0 L K D (h.canon key I) a w:=by
 have get:∀{G:Type} (m:Nat->Option G) (l:List Nat) (i:Nat) (v:G),find (oF m l) i=some v->m i=some v:=by intro G m l;induction l with
  |nil=>intro i v z;simp[oF,find] at z
  |cons j l H=>
   intro i v z;simp only[oF] at z;split at z
   .rename_i x Q;simp only[find] at z;cases F:Nat.beq j i with
    |true=>simp only[F,ai,aB] at z;subst z;rw[<-beq_iff.1 F];exact Q
    |false=>simp only[F,aj] at z;exact H i v z
   .exact H i v z
 unfold Hint.canon;split
 rotate_left
 .exact q
 exact⟨q.small,q.names,q.fix,q.size,q.defers,λi s B=>q.env i s (get _ _ _ _ B),q.qk,q.base,λi o B=>q.obs i o (get _ _ _ _ B),
  λi j R S B O=>q.apart i j R S (get _ _ _ _ B) (get _ _ _ _ O),q.keep,q.os,q.tape,q.output,q.grown,q.drawn⟩
def Rel.drew {D:Mu} {z:Nat->Value} {B:St} {a:Act} {w:World} (l:Rel N w0 μ0 L D z B a w):Rel N w0 μ0 L D z B a { w with drawn:=w.drawn+1 }:=
 ⟨l.small,l.names,l.fix,l.size,l.defers,l.env,l.qk,l.base,λi o I=>by have:=l.obs i o I;cases o with
  |box t cells=>exact this
  |mp k e K Q=>exact this
  |mr k e s K Q=>exact this
  |rn e s k R S xs V=>exact this
  |it s n=>exact this
  |lp s=>obtain⟨O,F,G,H⟩:=this;exact⟨O,F,G,L.q.keep (w:=w) (λ_ _=>rfl) H⟩
  |row e U xs=>exact this,l.apart,l.keep,l.os,l.tape,l.output,l.grown,λq=>Nat.le_succ_of_le (l.drawn q)⟩
def yG:∀{l:List Nat} {I z:St} {F:Mu} {q:Nat->Value} {a:Act} {w:World},Rel N w0 μ0 L F q I a w->tW l I=some z->∃B,Rel N w0 μ0 L B q z a w
 |[],I,z,F,q,a,w,G,H=>by simp only[tW,aB] at H;subst H;exact⟨F,G⟩
 |id::l,I,z,F,q,a,w,G,H=>by
  simp only[tW] at H;obtain⟨O,D,Q⟩:=bZ.1 H;obtain⟨R,_,K⟩:∃B,F.le B/\Rel N w0 μ0 L B q O a w:=by
   unfold St.Ca at D;split at D
   .exact G.lU D
   .injection D with D;subst D;exact⟨F,Mu.le.refl _,G⟩
   .exact G.bY D
  exact yG K Q
def Cb {F z:St} {G:Mu} {q:Nat->Value} {a:Act} {w:World} {id:Nat} (D:Rel N w0 μ0 L G q F a w) (l:h.Qt id F=some z):∃B,Rel N w0 μ0 L B q z a w:=by
 unfold Hint.Qt at l;split at l
 .exact yG D l
 .injection l with l;subst l;exact⟨G,D⟩
def Bb (q:Qp) (B:Mu) (P:Program) (N:Nat) (c:Code) (g:St->Bool) (F:St->Nat×St):Prop:=
 ∀(w0:World) (μ0:Mu) (L:nV) (D:Mu) (z:Nat->Value) (l:St) (a:Act) (w:World),L.q=q->B.le μ0->g l=true->Rel N w0 μ0 L D z l a w->c.wp P (K6 N w0 μ0 L (TT (F l).1) (F l).2) a w
def jO (q:Qp) (B:Mu) (P:Program) (h:Hint) (N:Nat):Code->Prop
 | .seq a b=>match find h.blk (b9 a) with
  |some x=>Bb q B P N (.seq a b) x.1 x.2
  |none=>jO q B P h N a/\jO q B P h N b
 | .cond _ a b=>jO q B P h N a/\jO q B P h N b
 | .block _ c=>jO q B P h N c
 | .loop c=>jO q B P h N c
 | .scope c=>jO q B P h N c
 |_=>True
def jO.none {q:Qp} {B:Mu} {P:Program} {h:Hint} {N:Nat} (D:h.blk=[]):∀c:Code,jO q B P h N c:=by intro c;induction c with
 |seq x y l w=>simp only[jO,D,find];exact⟨l,w⟩
 |cond c x y l w=>exact⟨l,w⟩
 |block id c z=>exact z
 |loop c z=>exact z
 |scope c z=>exact z
 |_=>trivial
def wh {F:Fence} {n:Nat} {Q:Exit->Act->World->Prop} {a:Act} {w:World} {c:Code} (hs:c.wpIn F n P (Exit.noGoto Q) a w):(Code.scope c).wpIn F n P Q a w:=by intro b k D U K R;have G:(lone (b.atR a (.code (.scope c)::k)) D w).fenced P F:=fenced_calm K R rfl;have s1:Go.step P (lone (b.atR a (.code (.scope c)::k)) D w)= .next (lone (b.atR a (.code c:: .inScope c::k)) D w):=step_lone_go (by simp[stepG,stepG.exec,Frame.atR]);obtain⟨e,q,z,H,B⟩:=hs b (.inScope c::k) D U K R;cases e with
 |normal=>have s2:Go.step P (lone (b.atR q (.inScope c::k)) D z)= .next (lone (b.atR q k) D z):=step_lone_go (by simp[stepG,stepG.exec,Frame.atR]);exact⟨.normal,q,z,H, .head G s1 (StepsIn.trans B (.one (fenced_calm K R rfl) s2))⟩
 |exit id=>
  have V:exitTo id (.inScope c::k)=exitTo id k:=by simp[exitTo]
  exact⟨_,q,z,H,λk' O=> .head G s1 (B.1 k' (by rw[V];exact O)),λS O=>let⟨I,W,h2⟩:=B.2 S (by rw[V];exact O);⟨I,W, .head G s1 h2⟩⟩
 |goto l=>exact H.elim
 |ret=>exact⟨_,q,z,H, .of_steps (.one G s1) B⟩
 |panic ch=>exact⟨_,q,z,H, .of_steps (.one G s1) B⟩
 |outgrown=>exact⟨_,q,z,H, .of_steps (.one G s1) B⟩
def BJ {B:Mu} (RJ:B.le μ0) (uo:dX L.q μ0 P bC) (hm:P.follows .mixedOrders=true) (n:Nat):∀(c:Code) (S:St) (e:Ex) (I:St),kC N c=true->jO L.q B P h N c->exec P h bC n c S=some (e,I)->
  ∀(U:Mu) (G:Nat->Value) (a:Act) (w:World),Rel N w0 μ0 L U G S a w->∀F,Wd F->(F.round=none\/h.blk=[])->c.wpIn F 0 P (K6 N w0 μ0 L e I) a w:=by
 intro c;induction c with
 |skip=>intro S e I _ _ q U G a w R F V H;simp only[exec,aB,aQ] at q;obtain⟨rfl,rfl⟩:=q;exact wpIn_skip ⟨rfl,U,G,R⟩
 |label l=>intro S e I _ _ q U G a w R F V H;simp only[exec,aB,aQ] at q;obtain⟨rfl,rfl⟩:=q;exact wpIn_label ⟨rfl,U,G,R⟩
 |exit id=>intro S e I _ _ q U G a w R F V H;simp only[exec,aB,aQ] at q;obtain⟨rfl,rfl⟩:=q;exact wpIn_exit ⟨rfl,U,G,R⟩
 |ret=>intro S e I _ _ q U G a w R F V H;simp only[exec,aB,aQ] at q;obtain⟨rfl,rfl⟩:=q;exact wpIn_ret ⟨rfl,U,G,R⟩
 |region id ops draw=>
  intro S e I K Q q U G a w R F V H;have hd:∀o∈ops.toList,∀i,o.dst=some i->i<N:=λo ho i hi=>by simp only[kC,cH] at K;have:=K o ho;simpa[hi,bA] using this
  simp only[exec] at q;obtain⟨st1,oS,q⟩:=bZ.1 q;obtain⟨μ1,hR1⟩:=Cb R oS;clear R;have R:=hR1;cases draw with
  |true=>simp only[ai] at q;cases hs:om 0 ops.toList with
   |false=>simp[hs] at q
   |true=>simp only[hs,ai] at q;cases hr:gM P h bC ops 0 ops.toList [] (nH (rZ ops.toList) st1) with
    |none=>simp[hr] at q
    |some s=>simp[hr] at q;obtain⟨rfl,rfl⟩:=q;exact wpIn_region_any hm (JE uo hs hr hd (λa' w' O D W=>⟨rfl,O,D,W⟩) R.drew V)
  |false=>simp only[aj] at q;cases hr:lX P h bC ops ops.toList st1 with
   |none=>simp[hr] at q
   |some s=>simp[hr] at q;obtain⟨rfl,rfl⟩:=q;exact wpIn_region_list (yN uo R hd hr (λa' w' O D W=>⟨rfl,O,D,W⟩) F V)
 |seq x y Wy ihy=>
  intro S e I K Q q U G a w R F V H;simp only[kC,aF] at K;simp only[exec] at q;simp only[jO] at Q;cases ON:find h.blk (b9 x) with
  |some z=>simp only[ON] at q Q;cases hg:z.1 S with
   |false=>simp[hg] at q
   |true=>
    simp only[hg,ai,aB,aQ] at q;obtain⟨rfl,rfl⟩:=q;rcases H with H|H
    .rw[V.plain H,pY];exact Q w0 μ0 L U G S a w rfl RJ hg R
    .rw[H] at ON;cases ON
  |none=>
  simp only[ON] at q Q;refine wpIn_seq ?_;split at q
  .rename_i st1 hx;refine iW (Wy S _ _ K.1 Q.1 hx U G a w R F V H) ?_;rintro e' a' w' ⟨rfl,O,D,W⟩;exact ihy st1 e I K.2 Q.2 q O D a' w' W F V H
  .rename_i hne;refine iW (Wy S e I K.1 Q.1 q U G a w R F V H) ?_;rintro e' a' w' ⟨rfl,O,D,W⟩;cases e with
   |normal=>exact absurd q (hne I)
   |exit id=>exact⟨rfl,O,D,W⟩
   |ret=>exact⟨rfl,O,D,W⟩
 |cond c x y Wy ihy=>
  intro S e I K Q q U G a w R F V H;simp only[kC,aF] at K;simp only[exec] at q;split at q
  .rename_i t hc;have Wa:=aG R hc;simp only[eV,rep] at Wa;cases t with
   |true=>exact wpIn_cond_true Wa (Wy S e I K.1 Q.1 q U G a w R F V H)
   |false=>exact wpIn_cond_false Wa (ihy S e I K.2 Q.2 q U G a w R F V H)
  .cases q
 |block id c ih=>
  intro S e I K Q q U G a w R F V H;simp only[kC] at K;simp only[exec] at q;refine wpIn_block ?_;split at q
  .rename_i j st1 hx;refine iW (ih S _ _ K Q hx U G a w R F V H) ?_;rintro e' a' w' ⟨rfl,O,D,W⟩;cases hb:Nat.beq j id with
   |true=>simp only[hb,ai,aB,aQ] at q;obtain⟨rfl,rfl⟩:=q;have:=beq_iff.1 hb;subst this;simp only[Ex.exit',Exit.inBlock,js];exact⟨rfl,O,D,W⟩
   |false=>
    simp only[hb,aj,aB,aQ] at q;obtain⟨rfl,rfl⟩:=q
    have:j≠id:=λe=>by subst e;simp[eu] at hb
    simp only[Ex.exit',Exit.inBlock,az this];exact⟨rfl,O,D,W⟩
  .rename_i hne;refine iW (ih S e I K Q q U G a w R F V H) ?_;rintro e' a' w' ⟨rfl,O,D,W⟩;cases e with
   |normal=>exact⟨rfl,O,D,W⟩
   |exit id=>exact absurd q (hne _ _)
   |ret=>exact⟨rfl,O,D,W⟩
 |loop c ih=>
  intro S e I K Q q U G a w R F V H;simp only[kC] at K;simp only[exec] at q;refine wpIn_loop_rounds n ?_;have key:∀(k:Nat) (S:St) (U:Mu) (G:Nat->Value) (a:Act) (w:World),Rel N w0 μ0 L U G S a w->iter h (b9 c) (exec P h bC n c) k S=some (e,I)->Code.roundsIn F 0 P c (K6 N w0 μ0 L e I) k a w:=by intro k;induction k with
   |zero=>intro S U G a w _ q;simp[iter] at q
   |succ k ihk=>
    intro S U G a w R q;rw[roundsIn_succ];simp only[iter] at q;split at q
    .rename_i st1 hx;refine iW (ih _ _ _ K Q hx U G a w (R.canon h _) F V H) ?_;rintro e' a' w' ⟨rfl,O,D,W⟩;exact ihk st1 O D a' w' W q
    .rename_i hne;refine iW (ih _ _ _ K Q q U G a w (R.canon h _) F V H) ?_;rintro e' a' w' ⟨rfl,O,D,W⟩;cases e with
     |normal=>exact absurd q (hne _)
     |exit id=>exact⟨rfl,O,D,W⟩
     |ret=>exact⟨rfl,O,D,W⟩
  exact key n S U G a w R q
 |scope c ih=>intro S e I K Q q U G a w R F V H;simp only[kC] at K;simp only[exec] at q;refine wh ?_;refine iW (ih S e I K Q q U G a w R F V H) ?_;rintro e' a' w' ⟨rfl,O,D,W⟩;cases e<;>exact⟨rfl,O,D,W⟩
 |rangeFunc f ps x y Wy ihy=>intro S e I _ _ q;simp[exec] at q
 |goto l=>intro S e I _ _ q;simp[exec] at q
 |refuse s=>intro S e I _ _ q;simp[exec] at q
def Dg {O:Mu} {q:Nat->Value} {K z:St} {a:Act} {w:World} (S:Rel N w0 μ0 L O q K a w) {id:Nat} (D:K.Fi id=some z):∃B,O.le B/\Rel N w0 μ0 L B q z a w:=by
 unfold St.Fi at D;split at D
 .obtain⟨U,Q,R⟩:=bZ.1 D;obtain⟨V,H,F⟩:=nD S Q;obtain⟨I,l,G⟩:=F.lU R;exact⟨I,H.trans l,G⟩
 .cases D
def Dh {G:Mu} {D:Nat->Value} {K O:St} {a:Act} {w:World} (F:Rel N w0 μ0 L G D K a w) {t:Nat} {v:AV} (l:Fj K t=some (O,v)):
  ∃q,Rel N w0 μ0 L q D O a w/\G.le q/\rep q v (a.tmps.getD t undef):=by
 have get:∀{G:Mu} {K:St},Rel N w0 μ0 L G D K a w->K.env t=some (.pv v)->rep G v (a.tmps.getD t undef):=λF I=>by
  obtain⟨u,S,R⟩:=F.env t _ I
  have:a.tmps.getD t undef=u:=by simp[S]
  rw[this];exact R
 unfold Fj at l;split at l
 .rename_i v' I;simp only[aB,aQ] at l;obtain⟨rfl,rfl⟩:=l;exact⟨G,F,Mu.le.refl _,get F I⟩
 .rename_i id I;split at l
  .rename_i V Q;split at l
   .rename_i cs z;simp only[aB,aQ] at l;obtain⟨rfl,rfl⟩:=l;obtain⟨q,B,H⟩:=Dg F Q;obtain⟨u,S,R⟩:=H.env t _ z;have e:a.tmps.getD t undef=u:=by simp[S]
    refine⟨q,H,B,?_⟩;rw[e,rep];obtain⟨b,U,vs,e1,W,hm⟩:=R;exact⟨b,U,vs,e1,W.1,W.2,hm⟩
   .cases l
  .cases l
 .rename_i id I;split at l
  .rename_i V Q;split at l
   .rename_i v' z;simp only[aB,aQ] at l;obtain⟨rfl,rfl⟩:=l;obtain⟨q,B,H⟩:=F.bY Q;exact⟨q,H,B,get H z⟩
   .cases l
  .cases l
 .cases l
def qQ (l:Array Value):ResultVar->Sem Value
 | .tmp t=>pure (l.getD t undef)
 | .cell a t=>do loadVar t (<-asAddr (l.getD a undef))
def HS {I:Mu} {B:Nat->Value} {G:St} {a:Act} {w:World} (K:Rel N w0 μ0 L I B G a w) {z:Nat} {t:TypeId} {H:SV} (R:c8 P ⟨none, .load t (.tmp z),t, "", #[],none⟩ G=some H):
  ∃v,(qQ a.tmps (.cell z t)).run P w= .ok v w/\eV I B H v:=by
 obtain⟨v,l,Q⟩:=qN K R;refine⟨v,?_,Q⟩;have O:a.eval (.tmp z)=a.tmps.getD z undef:=rfl;simp only[execOp,ek] at l;rw[O] at l;cases D:a.tmps.getD z undef with
 |pointer p=>cases p with
  |none=>rw[D] at l;simp[Instr.loadAt,Instr.sureAddr] at l
  |some q=>rw[D] at l;simp only[Instr.loadAt,Instr.sureAddr,ek,jf,e9] at l;simp only[qQ,D,asAddr,ek,jf,e9];cases F:(loadVar t q).run P w with
   |ok u S=>rw[F] at l;simp only[e9,Result.ok.injEq,Next.value.injEq] at l;rw[l.1,l.2]
   |halt x S=>rw[F] at l;simp at l
 |_=>rw[D] at l;simp[Instr.loadAt,Instr.sureAddr] at l
def Dq:∀(l:List ResultVar) {S:Mu} {D:Nat->Value} {st F:St} {a:Act} {w:World} {W:List AV},Rel N w0 μ0 L S D st a w->oJ P l st=some (F,W)->
  ∃B R,Rel N w0 μ0 L B D F a w/\S.le B/\(l.mapM (qQ a.tmps)).run P w= .ok R w/\bl B W R:=by
 intro l;induction l with
 |nil=>intro S D st F a w W V q;simp only[oJ,aB,aQ] at q;obtain⟨rfl,rfl⟩:=q;exact⟨S,[],V,Mu.le.refl _,rfl,cF⟩
 |cons x l ih=>
  intro S D st F a w W V q;have join:∀{H:Mu} {K:St} {v:AV} {u:Value} {G:List AV},Rel N w0 μ0 L H D K a w->S.le H->(qQ a.tmps x).run P w= .ok u w->rep H v u->oJ P l K=some (F,G)->W=v::G->
    ∃B R,Rel N w0 μ0 L B D F a w/\S.le B/\((x::l).mapM (qQ a.tmps)).run P w= .ok R w/\bl B W R:=by
   intro H K v u G U I hr z Q e;obtain⟨μ2,R,h2,O,hm,hall⟩:=ih U Q;refine⟨μ2,u::R,h2,I.trans O,?_,by rw[e];exact bq (qP O _ _ z) hall⟩;simp[uL,hr,hm]
  cases x with
  |tmp t=>
   simp only[oJ] at q;split at q
   .rename_i K v hp;split at q
    .rename_i st2 G Q;simp only[aB,aQ] at q;obtain⟨rfl,rfl⟩:=q;obtain⟨H,U,I,z⟩:=Dh V hp;exact join U I rfl z Q rfl
    .cases q
   .cases q
  |cell ad t=>
   simp only[oJ] at q;split at q
   .rename_i v hp;split at q
    .rename_i st2 G Q;simp only[aB,aQ] at q;obtain⟨rfl,rfl⟩:=q;obtain⟨u,hr,z⟩:=HS V hp;exact join V (Mu.le.refl _) hr z Q rfl
    .cases q
   .rename_i id hp;split at q
    .rename_i K oS;split at q
     .rename_i v hp1;split at q
      .rename_i st2 G Q;simp only[aB,aQ] at q;obtain⟨rfl,rfl⟩:=q;obtain⟨H,I,U⟩:=V.bY oS;obtain⟨u,hr,z⟩:=HS U hp1;exact join U I hr z Q rfl
      .cases q
     .cases q
    .cases q
   .cases q
def Ao {fn:Func} {tmps:Array Value} {w:World} {us:List Value} (h:(fn.results.toList.mapM (qQ tmps)).run P w= .ok us w):
  ∃v,(results fn tmps).run P w= .ok v w/\((∃u,us=[u]/\v=u)\/(us.length≠1/\v= .tuple us.toArray)):=by
 have e:(results fn tmps)=(do
   let z<-fn.results.mapM (qQ tmps)
   pure (if h:z.size=1 then z[0] else .tuple z)):=by
  unfold results;congr 1
 rw[e];obtain⟨l⟩:∃l,fn.results=⟨l⟩:=⟨fn.results.toList,ah⟩
 have D:(fn.results.mapM (qQ tmps)).run P w= .ok us.toArray w:=by
  rename_i B;rw[B] at h⊢;simp only at h
  have:(List.toArray l).mapM (qQ tmps)=Functor.map List.toArray (l.mapM (qQ tmps)):=List.mapM_toArray ..
  rw[show(⟨l⟩:Array ResultVar)=l.toArray from rfl,this];simp[h]
 simp only[ek,D,e9,jf];by_cases q:us.length=1
 .match us,q with
  |[u],_=>exact⟨u,by simp, .inl ⟨u,rfl,rfl⟩⟩
 .exact⟨.tuple us.toArray,by simp[q], .inr ⟨q,rfl⟩⟩
def KL {D:Mu} {q:List AV} {w:List Value} {v:Value} (l:bl D q w) (H:(∃u,w=[u]/\v=u)\/(w.length≠1/\v= .tuple w.toArray)):rep D (result q) v:=by
 have z:=kB l;rcases H with⟨u,rfl,rfl⟩|⟨B,rfl⟩
 .match q,z with
  |[x],_=>rw[bl] at l;obtain⟨O,I,e,G,_⟩:=l;injection e with F K;subst F;exact G
 .have:result q= .jy q:=by
   match q,z with
   |[],_=>rfl
   |[x],z=>exact absurd (by simpa using z) B
   |_::_::_,_=>rfl
  rw[this,rep];exact⟨w,rfl,l⟩
def uV {names:List Nat} {H:St}:∀{l:List Nat} {q:List (Nat×Ob)},lE names H l=some q->∀id o,find q id=some o->H.ob id=some o:=by intro l;induction l with
 |nil=>intro q w id o z;simp only[lE,aB] at w;subst w;simp[find] at z
 |cons j l I=>
  intro q w id o z;simp only[lE] at w;split at w
  .rename_i K O D F;cases G:K.closed names with
   |false=>simp[G] at w
   |true=>simp only[G,ai,aB] at w;subst w;simp only[find] at z;cases B:Nat.beq j id with
    |true=>simp only[B,ai,aB] at z;subst z;rw[<-beq_iff.1 B];exact D
    |false=>simp only[B,aj] at z;exact I F id o z
  .cases w
def CW {names:List Nat} {H:St}:∀{l:List Nat} {q:List (Nat×Ob)},lE names H l=some q->q.map (·.1)=l:=by intro l;induction l with
 |nil=>intro q w;simp only[lE,aB] at w;subst w;rfl
 |cons j l F=>
  intro q w;simp only[lE] at w;split at w
  .rename_i G I D z;cases B:G.closed names with
   |false=>simp[B] at w
   |true=>simp only[B,ai,aB] at w;subst w;simp[F z]
  .cases w
def Ho:∀(l:List SV) (i j:Nat) (s:SV),find (tI i l) j=some s->∃k,j=i+k/\l[k]? =some s:=by intro l;induction l with
 |nil=>intro i j s q;simp[tI,find] at q
 |cons x l B=>intro i j s q;simp only[tI,find] at q;cases w:Nat.beq i j with
  |true=>simp only[w,ai,aB] at q;subst q;exact⟨0,by have:=beq_iff.1 w;omega,rfl⟩
  |false=>simp only[w,aj] at q;obtain⟨k,rfl,z⟩:=B (i+1) j s q;exact⟨k+1,by omega,by simpa using z⟩
def OD {z:Type}:∀{l:List (Nat×z)} {i:Nat} {v:z},find l i=some v->i∈l.map (·.1):=by intro l;induction l with
 |nil=>intro i v q;simp[find] at q
 |cons x l B=>intro i v q;obtain⟨j,u⟩:=x;simp only[find] at q;cases w:Nat.beq j i with
  |true=>simp[beq_iff.1 w]
  |false=>simp only[w,aj] at q;simp only[aK,aD];exact .inr (B q)
end
def Jo {P:Program} {h:Hint} {bC:cr} {q:Qp} {B:Mu} {f:Nat} (hok:xw P=true) (hblk:∀fn c,P.funcs[f]? =some fn->fn.body=some c->jO q B P h fn.ntmps c) (uo:dX q B P bC) {n:Nat} {fn:Func} {c:Code} {args:List SV} {D R:List (Nat×Ob)} {r:AV} {e:Ex} {st:St}
  (hf:P.funcs[f]? =some fn) (hb:fn.body=some c) (V:(Nat.ble args.length fn.ntmps&&(D.map (·.1)).all (λi=> !(sG i)))=true)
  (hx:exec P h bC n c { env:=find (tI 0 args),ob:=find D }=some (e,st)) (S:Ot P h.own fn D e st=some (r,R)):
  ∀(w:World) (μ:Mu) (K:Nat->Value) (us:List Value),B.le μ->Bf μ w->(∀id o,find D id=some o->jC w.heap.size (gJ q K (D.map (·.1))) μ K w id o)->K7 K D->fK μ K args us->
   (∀w2,(callFunc f us.toArray).run P w2= .ok (.enter f us.toArray) w2)/\Calls P f us.toArray w λe w'=>∃v μ' loc',e= .returned v/\dY q μ K (D.map (·.1)) r R w v μ' loc' w':=by
 intro w μ K us RJ oS OP hap wD;simp only[aF] at V;simp only[xw,aF] at hok;obtain⟨⟨hm,Uk⟩,_⟩:=hok;have hfn:JN fn=true:=cH.1 Uk fn (aS (show P.funcs.toList[f]? =some fn by simpa using hf));simp only[JN,hb,aF,ga] at hfn;obtain⟨⟨hsmall,hname⟩,uC⟩:=hfn;have hlen:=lN wD;have hle:args.length<=fn.ntmps:=cI V.1;refine⟨λw2=> ?_,?_⟩
 .have Ul:¬(fn.name= "runtime.NumGoroutine"):=by simpa using hname
  simp[callFunc,hf,Ul,hb]
 refine calls_of_wp hf hb ?_;have hR:Rel fn.ntmps w μ (gJ q K (D.map (·.1))) μ K { env:=find (tI 0 args),ob:=find D } { tmps:=us.toArray++Array.replicate (fn.ntmps-us.toArray.size) undef,defers:=[] } w:=by
  refine⟨cI hsmall,?_,?_,?_,rfl,?_,oS,⟨Mu.le.refl _,λ_ _ _ h=> .inl h⟩,OP,hap,λ_ _ _=>rfl,rfl,rfl,rfl,aJ _,λ_=>aJ _⟩
  .intro id W
   have:¬(id∈D.map (·.1)):=λhm=>by
    have:=cH.1 V.2 id hm;have h0:sG id=true:=by simpa[sG,bA] using W
    rw[h0] at this;cases this
   simp only[gJ,az this]
  .intro id v hv _;simp only[gJ] at hv;split at hv
   .injection hv
   .cases hv
  .simp;omega
  .intro i s hi;obtain⟨k,hk,hs⟩:=Ho args 0 i s hi;obtain⟨u,hu,hr⟩:=DX wD hs;have hlt:=(bp.1 hu).1;refine⟨u,?_,hr⟩;rw[hk,fW,pZ (by simpa using hlt)];simpa using hu
 refine wp_mono (pY.1 (BJ (B:=B) RJ (uo.mono RJ) hm n c _ e st uC (hblk fn c hf hb) hx μ K _ w hR _ Wd.wide (.inl rfl))) ?_;rintro e' a' w' ⟨rfl,μ1,O,I⟩;have fin:∀(e:Ex),Ot P h.own fn D e st=some (r,R)->(∀id,e≠ .exit id)->a'.defers=[]/\∃v,(results fn a'.tmps).run P w'= .ok v w'/\∃v' μ' loc',Ending.returned v= .returned v'/\dY q μ K (D.map (·.1)) r R w v' μ' loc' w':=by
  intro e S hne;have hone:∀t u,fn.results.toList=[.tmp t]->a'.tmps[t]? =some u->(results fn a'.tmps).run P w'= .ok u w':=λt u U hu=>by
   obtain⟨v,hrun,hv⟩:=Ao (P:=P) (fn:=fn) (tmps:=a'.tmps) (w:=w') (us:=[u]) (by
    rw[U]
    have:a'.tmps.getD t undef=u:=by simp[hu]
    simp[uL,qQ,this])
   rcases hv with⟨u',e,rfl⟩|⟨hne,_⟩
   .injection e with e;rw[e];exact hrun
   .simp at hne
  have z:(bif h.own then match KE fn st,lE (D.map (·.1)) st (D.map (·.1)) with
   |some r,some l=>some (r,l)
   |_,_=>none
  else match Fz fn (D.map (·.1)) st with
   |some n=>match lE (D.map (·.1)) st (D.map (·.1)) with
    |some l=>some (AV.self n,l)
    |none=>none
   |none=>match oJ P fn.results.toList st with
   |some (st',vs)=>match lE (D.map (·.1)) st' (D.map (·.1)) with
    |some l=>some (result vs,l)
    |none=>none
   |none=>none)=some (r,R):=by
   cases e with
   |exit id=>exact absurd rfl (hne id)
   |normal=>exact S
   |ret=>exact S
  cases how:h.own with
  |true=>
   rw[how] at z;simp only[ai] at z;split at z
   .rename_i r0 l G Q;simp only[aB,aQ] at z;obtain⟨rfl,rfl⟩:=z;have H:=uV Q;unfold KE at G;split at G
    .rename_i t U;split at G
     .rename_i id he;split at G
      .rename_i e' sz' xs' W qq;injection G with G;subst G;obtain⟨u,hu,hr⟩:=I.env t _ he;have hr:u=dO (O id):=hr;rw[fS (I.obs id _ qq)] at hr;subst hr;have hnot:¬id∈D.map (·.1):=λhm=>by
        have:=cH.1 V.2 id hm;rw[W] at this;cases this
       obtain⟨us',G,hrc,SR⟩:=I.obs id _ qq
       refine⟨I.defers,_,hone t _ U hu,_,μ1,O,rfl,I.base,I.qk, .inr (.inr ⟨e',sz',xs',us',rfl,G,hrc,λg hg=> ?_⟩),λid o ho=>I.obs id o (H id o ho),λi j oi oj hi hj=>I.apart i j oi oj (H i oi hi) (H j oj hj),I.keep,
        λid W hlt=>I.fix id (K id) (by simp[gJ,W]) hlt,I.os,I.tape,I.output,I.grown,I.drawn⟩
       have hgb:gE (O id) g:= .inl hg;refine⟨?_,(SR g hgb).2,λj o ho hb=> ?_⟩
       .rcases(SR g hgb).1 with h|⟨x,hx,_⟩
        .exact h
        .simp only[gJ,az hnot] at hx;cases hx
       .have hj:j∈D.map (·.1):=by
         have:=OD ho;rwa[CW Q] at this
        exact I.apart j id o _ (H j o ho) qq (λe=>hnot (e▸hj)) g hb hgb
      .cases G
     .cases G
    .cases G
   .cases z
  |false=>
  rw[how] at z;simp only[aj] at z;split at z
  .rename_i n F;split at z
   .rename_i l Q;simp only[aB,aQ] at z;obtain⟨rfl,rfl⟩:=z;have H:=uV Q;have post:∀v,(∃A m c,O 10000= .slice A m c/\n<=m/\v= .slice A n c)->10000∈D.map (·.1)->dY q μ K (D.map (·.1)) (.self n) l w v μ1 O w':=λv ⟨A,m,c,k1,k2,k3⟩ hmem=>
     ⟨I.base,I.qk, .inr (.inl ⟨n,A,m,c,rfl,hmem,k1,k2,k3⟩),λid o ho=>I.obs id o (H id o ho),λi j oi oj hi hj=>I.apart i j oi oj (H i oi hi) (H j oj hj),I.keep,
      λid W hlt=>I.fix id (K id) (by simp[gJ,W]) hlt,I.os,I.tape,I.output,I.grown,I.drawn⟩
    unfold Fz at F;split at F
    .rename_i t U Um;have hmem:10000∈D.map (·.1):=by rw[Um];simp
     split at F
     .rename_i e' sz' xs' he qq;injection F with F;subst F;obtain⟨u,hu,hr⟩:=I.env t _ he;have hr:u=dO (O 10000):=hr;rw[fS (I.obs 10000 _ qq)] at hr;obtain⟨vs,G,_⟩:=I.obs 10000 _ qq;refine⟨I.defers,u,hone t u U hu,u,μ1,O,rfl,post u ?_ hmem⟩;rcases G.2 with⟨e1,e2⟩|⟨g,cap,cur,e1,_⟩
      .exact⟨none,0,0,e1,by omega,by rw[hr,e1,e2]⟩
      .exact⟨_,_,cap,e1,aJ _,by rw[hr,e1]⟩
     .rename_i sz' n' e' sz2 xs' he qq;injection F with F;subst F;obtain⟨u,hu,hr⟩:=I.env t _ he;obtain⟨A,m,c,A',c',k1,_,k2,_,k3,k4,_⟩:=hr;obtain⟨rfl,rfl⟩:=k4 rfl;exact⟨I.defers,u,hone t u U hu,u,μ1,O,rfl,post u ⟨A',m,c',k1,k2,by simpa using k3⟩ hmem⟩
     .cases F
    .cases F
   .cases z
  .rename_i F;split at z
   .rename_i st2 vs ht;split at z
    .rename_i l Q;simp only[aB,aQ] at z;obtain⟨rfl,rfl⟩:=z;obtain⟨μ2,us2,h2,hle2,hmap,hall⟩:=Dq fn.results.toList I ht;obtain⟨v,hrun,hv⟩:=Ao hmap;refine⟨h2.defers,v,hrun,v,μ2,O,rfl,?_⟩;have H:=uV Q
     exact⟨h2.base,h2.qk, .inl (KL hall hv),λid o ho=>h2.obs id o (H id o ho),λi j oi oj hi hj=>h2.apart i j oi oj (H i oi hi) (H j oj hj),h2.keep,
      λid W hlt=>h2.fix id (K id) (by simp[gJ,W]) hlt,h2.os,h2.tape,h2.output,h2.grown,h2.drawn⟩
    .cases z
   .cases z
 cases e with
 |exit id=>simp[Ot,Ou] at S
 |normal=>exact fin .normal S ah
 |ret=>exact fin .ret S ah
