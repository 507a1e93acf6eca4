/- THE ABSTRACT MACHINE. -/
import Derived.Test.YthppjmoncapdfaaGreatDoorAmDraw
set_option linter.all false
namespace Go.AM
open Go.RowKit
def Ex.exit':Ex->Exit
 | .normal=> .normal
 | .exit id=> .exit id
 | .ret=> .ret
section
variable {P:Program} {N:Nat} {w0:World} {μ0:Mu} {L:rV} {h:Hint} {cI:dX}
def Vm (N:Nat) (w0:World) (μ0:Mu) (L:rV) (e:Ex) (B:St):Exit->Act->World->Prop:=λz w D=>z=e.exit'/\∃q l,Rel N w0 μ0 L q l B w D
def Rel.canon {K:Mu} {D:Nat->Value} {I:St} {a:Act} {w:World} (q:Rel N w0 μ0 L K D I a w) (h:Hint) (key:Nat):Rel N w0 μ0 L K D (h.canon key I) a w:=by
 have get:∀{G:Type} (m:Nat->Option G) (l:List Nat) (i:Nat) (v:G),find (sM m l) i=some v->m i=some v:=by intro G m l;induction l with
  |nil=>intro i v z;simp[sM,find] at z
  |cons j l H=>
   intro i v z;simp only[sM] at z;split at z
   .rename_i x Q;simp only[find] at z;cases F:Nat.beq j i with
    |true=>simp only[F,ai,aN] at z;subst z;rw[<-beq_iff.1 F];exact Q
    |false=>simp only[F,aA] at z;exact H i v z
   .exact H i v z
 unfold Hint.canon;split
 rotate_left
 .exact q
 exact⟨q.small,q.names,q.fix,q.size,q.defers,λi s B=>q.env i s (get _ _ _ _ B),q.uy,q.base,λi o B=>q.obs i o (get _ _ _ _ B),
  λi j R S B O=>q.apart i j R S (get _ _ _ _ B) (get _ _ _ _ O),q.keep,q.os,q.tape,q.output,q.grown,q.drawn⟩
def Rel.drew {D:Mu} {z:Nat->Value} {B:St} {a:Act} {w:World} (l:Rel N w0 μ0 L D z B a w):Rel N w0 μ0 L D z B a { w with drawn:=w.drawn+1 }:=
 ⟨l.small,l.names,l.fix,l.size,l.defers,l.env,l.uy,l.base,λi o I=>by have:=l.obs i o I;cases o with
  |box t cells=>exact this
  |mp k e K Q=>exact this
  |mr k e s K Q=>exact this
  |rn e s k R S xs V=>exact this
  |it s n=>exact this
  |lp s=>obtain⟨O,F,G,H⟩:=this;exact⟨O,F,G,L.q.keep (w:=w) (λ_ _=>rfl) H⟩
  |row e U xs=>exact this,l.apart,l.keep,l.os,l.tape,l.output,l.grown,λq=>Nat.le_succ_of_le (l.drawn q)⟩
def DZ:∀{l:List Nat} {I z:St} {F:Mu} {q:Nat->Value} {a:Act} {w:World},Rel N w0 μ0 L F q I a w->yI l I=some z->∃B,Rel N w0 μ0 L B q z a w
 |[],I,z,F,q,a,w,G,H=>by simp only[yI,aN] at H;subst H;exact⟨F,G⟩
 |id::l,I,z,F,q,a,w,G,H=>by
  simp only[yI] at H;obtain⟨O,D,Q⟩:=dM.1 H;obtain⟨R,_,K⟩:∃B,F.le B/\Rel N w0 μ0 L B q O a w:=by
   unfold St.Ji at D;split at D
   .exact G.pR D
   .injection D with D;subst D;exact⟨F,Mu.le.refl _,G⟩
   .exact G.dL D
  exact DZ K Q
def Jj {F z:St} {G:Mu} {q:Nat->Value} {a:Act} {w:World} {id:Nat} (D:Rel N w0 μ0 L G q F a w) (l:h.ac9 id F=some z):∃B,Rel N w0 μ0 L B q z a w:=by
 unfold Hint.ac9 at l;split at l
 .exact DZ D l
 .injection l with l;subst l;exact⟨G,D⟩
def Hx (q:Qp) (B:Mu) (P:Program) (N:Nat) (c:Code) (g:St->Bool) (F:St->Nat×St):Prop:=
 ∀(w0:World) (μ0:Mu) (L:rV) (D:Mu) (z:Nat->Value) (l:St) (a:Act) (w:World),L.q=q->B.le μ0->g l=true->Rel N w0 μ0 L D z l a w->c.wp P (Vm N w0 μ0 L (exOf (F l).1) (F l).2) a w
def mE (q:Qp) (B:Mu) (P:Program) (h:Hint) (N:Nat):Code->Prop
 | .seq a b=>match find h.blk (dU a) with
  |some x=>Hx q B P N (.seq a b) x.1 x.2
  |none=>mE q B P h N a/\mE q B P h N b
 | .cond _ a b=>mE q B P h N a/\mE q B P h N b
 | .block _ c=>mE q B P h N c
 | .loop c=>mE q B P h N c
 | .scope c=>mE q B P h N c
 |_=>True
def mE.none {q:Qp} {B:Mu} {P:Program} {h:Hint} {N:Nat} (D:h.blk=[]):∀c:Code,mE q B P h N c:=by intro c;induction c with
 |seq x y l w=>simp only[mE,D,find];exact⟨l,w⟩
 |cond c x y l w=>exact⟨l,w⟩
 |block id c z=>exact z
 |loop c z=>exact z
 |scope c z=>exact z
 |_=>trivial
def Bm {F:Fence} {n:Nat} {Q:Exit->Act->World->Prop} {a:Act} {w:World} {c:Code} (hs:c.wpIn F n P (Exit.noGoto Q) a w):(Code.scope c).wpIn F n P Q a w:=by intro b k D U K R;have G:(lone (b.atR a (.code (.scope c)::k)) D w).fenced P F:=fenced_calm K R rfl;have s1:Go.step P (lone (b.atR a (.code (.scope c)::k)) D w)= .next (lone (b.atR a (.code c:: .inScope c::k)) D w):=step_lone_go (by simp[stepG,stepG.exec,Frame.atR]);obtain⟨e,q,z,H,B⟩:=hs b (.inScope c::k) D U K R;cases e with
 |normal=>have s2:Go.step P (lone (b.atR q (.inScope c::k)) D z)= .next (lone (b.atR q k) D z):=step_lone_go (by simp[stepG,stepG.exec,Frame.atR]);exact⟨.normal,q,z,H, .head G s1 (StepsIn.trans B (.one (fenced_calm K R rfl) s2))⟩
 |exit id=>
  have V:exitTo id (.inScope c::k)=exitTo id k:=by simp[exitTo]
  exact⟨_,q,z,H,λk' O=> .head G s1 (B.1 k' (by rw[V];exact O)),λS O=>let⟨I,h1,h2⟩:=B.2 S (by rw[V];exact O);⟨I,h1, .head G s1 h2⟩⟩
 |goto l=>exact H.elim
 |ret=>exact⟨_,q,z,H, .of_steps (.one G s1) B⟩
 |panic ch=>exact⟨_,q,z,H, .of_steps (.one G s1) B⟩
 |outgrown=>exact⟨_,q,z,H, .of_steps (.one G s1) B⟩
def Iq {B:Mu} (hBle:B.le μ0) (y6:fQ L.q μ0 P cI) (hm:P.follows .mixedOrders=true) (n:Nat):∀(c:Code) (S:St) (e:Ex) (I:St),nP N c=true->mE L.q B P h N c->exec P h cI n c S=some (e,I)->
  ∀(U:Mu) (G:Nat->Value) (a:Act) (w:World),Rel N w0 μ0 L U G S a w->∀F,Wd F->(F.round=none\/h.blk=[])->c.wpIn F 0 P (Vm N w0 μ0 L e I) a w:=by
 intro c;induction c with
 |skip=>intro S e I _ _ q U G a w R F V H;simp only[exec,aN,bB] at q;obtain⟨rfl,rfl⟩:=q;exact wpIn_skip ⟨rfl,U,G,R⟩
 |label l=>intro S e I _ _ q U G a w R F V H;simp only[exec,aN,bB] at q;obtain⟨rfl,rfl⟩:=q;exact wpIn_label ⟨rfl,U,G,R⟩
 |exit id=>intro S e I _ _ q U G a w R F V H;simp only[exec,aN,bB] at q;obtain⟨rfl,rfl⟩:=q;exact wpIn_exit ⟨rfl,U,G,R⟩
 |ret=>intro S e I _ _ q U G a w R F V H;simp only[exec,aN,bB] at q;obtain⟨rfl,rfl⟩:=q;exact wpIn_ret ⟨rfl,U,G,R⟩
 |region id ops draw=>
  intro S e I K Q q U G a w R F V H;have hd:∀o∈ops.toList,∀i,o.dst=some i->i<N:=λo ho i hi=>by simp only[nP,cz] at K;have:=K o ho;simpa[hi,cD] using this
  simp only[exec] at q;obtain⟨st1,s9,q⟩:=dM.1 q;obtain⟨μ1,hR1⟩:=Jj R s9;clear R;have R:=hR1;cases draw with
  |true=>simp only[ai] at q;cases hs:sd 0 ops.toList with
   |false=>simp[hs] at q
   |true=>simp only[hs,ai] at q;cases hr:jL P h cI ops 0 ops.toList [] (rG (wI ops.toList) st1) with
    |none=>simp[hr] at q
    |some s=>simp[hr] at q;obtain⟨rfl,rfl⟩:=q;exact wpIn_region_any hm (Ts y6 hs hr hd (λa' w' O D h'=>⟨rfl,O,D,h'⟩) R.drew V)
  |false=>simp only[aA] at q;cases hr:pV P h cI ops ops.toList st1 with
   |none=>simp[hr] at q
   |some s=>simp[hr] at q;obtain⟨rfl,rfl⟩:=q;exact wpIn_region_list (D8 y6 R hd hr (λa' w' O D h'=>⟨rfl,O,D,h'⟩) F V)
 |seq x y ihx ihy=>
  intro S e I K Q q U G a w R F V H;simp only[nP,aJ] at K;simp only[exec] at q;simp only[mE] at Q;cases hfb:find h.blk (dU x) with
  |some z=>simp only[hfb] at q Q;cases hg:z.1 S with
   |false=>simp[hg] at q
   |true=>
    simp only[hg,ai,aN,bB] at q;obtain⟨rfl,rfl⟩:=q;rcases H with H|H
    .rw[V.plain H,tS];exact Q w0 μ0 L U G S a w rfl hBle hg R
    .rw[H] at hfb;cases hfb
  |none=>
  simp only[hfb] at q Q;refine wpIn_seq ?_;split at q
  .rename_i st1 hx;refine kU (ihx S _ _ K.1 Q.1 hx U G a w R F V H) ?_;rintro e' a' w' ⟨rfl,O,D,h'⟩;exact ihy st1 e I K.2 Q.2 q O D a' w' h' F V H
  .rename_i hne;refine kU (ihx S e I K.1 Q.1 q U G a w R F V H) ?_;rintro e' a' w' ⟨rfl,O,D,h'⟩;cases e with
   |normal=>exact absurd q (hne I)
   |exit id=>exact⟨rfl,O,D,h'⟩
   |ret=>exact⟨rfl,O,D,h'⟩
 |cond c x y ihx ihy=>
  intro S e I K Q q U G a w R F V H;simp only[nP,aJ] at K;simp only[exec] at q;split at q
  .rename_i t hc;have hcv:=aY R hc;simp only[gH,rep] at hcv;cases t with
   |true=>exact wpIn_cond_true hcv (ihx S e I K.1 Q.1 q U G a w R F V H)
   |false=>exact wpIn_cond_false hcv (ihy S e I K.2 Q.2 q U G a w R F V H)
  .cases q
 |block id c ih=>
  intro S e I K Q q U G a w R F V H;simp only[nP] at K;simp only[exec] at q;refine wpIn_block ?_;split at q
  .rename_i j st1 hx;refine kU (ih S _ _ K Q hx U G a w R F V H) ?_;rintro e' a' w' ⟨rfl,O,D,h'⟩;cases hb:Nat.beq j id with
   |true=>simp only[hb,ai,aN,bB] at q;obtain⟨rfl,rfl⟩:=q;have:=beq_iff.1 hb;subst this;simp only[Ex.exit',Exit.inBlock,fS];exact⟨rfl,O,D,h'⟩
   |false=>
    simp only[hb,aA,aN,bB] at q;obtain⟨rfl,rfl⟩:=q
    have:j≠id:=λe=>by subst e;simp[fZ] at hb
    simp only[Ex.exit',Exit.inBlock,au this];exact⟨rfl,O,D,h'⟩
  .rename_i hne;refine kU (ih S e I K Q q U G a w R F V H) ?_;rintro e' a' w' ⟨rfl,O,D,h'⟩;cases e with
   |normal=>exact⟨rfl,O,D,h'⟩
   |exit id=>exact absurd q (hne _ _)
   |ret=>exact⟨rfl,O,D,h'⟩
 |loop c ih=>
  intro S e I K Q q U G a w R F V H;simp only[nP] at K;simp only[exec] at q;refine wpIn_loop_rounds n ?_;have key:∀(k:Nat) (S:St) (U:Mu) (G:Nat->Value) (a:Act) (w:World),Rel N w0 μ0 L U G S a w->iter h (dU c) (exec P h cI n c) k S=some (e,I)->Code.roundsIn F 0 P c (Vm N w0 μ0 L e I) k a w:=by intro k;induction k with
   |zero=>intro S U G a w _ q;simp[iter] at q
   |succ k ihk=>
    intro S U G a w R q;rw[roundsIn_succ];simp only[iter] at q;split at q
    .rename_i st1 hx;refine kU (ih _ _ _ K Q hx U G a w (R.canon h _) F V H) ?_;rintro e' a' w' ⟨rfl,O,D,h'⟩;exact ihk st1 O D a' w' h' q
    .rename_i hne;refine kU (ih _ _ _ K Q q U G a w (R.canon h _) F V H) ?_;rintro e' a' w' ⟨rfl,O,D,h'⟩;cases e with
     |normal=>exact absurd q (hne _)
     |exit id=>exact⟨rfl,O,D,h'⟩
     |ret=>exact⟨rfl,O,D,h'⟩
  exact key n S U G a w R q
 |scope c ih=>intro S e I K Q q U G a w R F V H;simp only[nP] at K;simp only[exec] at q;refine Bm ?_;refine kU (ih S e I K Q q U G a w R F V H) ?_;rintro e' a' w' ⟨rfl,O,D,h'⟩;cases e<;>exact⟨rfl,O,D,h'⟩
 |rangeFunc f ps x y ihx ihy=>intro S e I _ _ q;simp[exec] at q
 |goto l=>intro S e I _ _ q;simp[exec] at q
 |refuse s=>intro S e I _ _ q;simp[exec] at q
def KQ {O:Mu} {q:Nat->Value} {K z:St} {a:Act} {w:World} (S:Rel N w0 μ0 L O q K a w) {id:Nat} (D:K.NH id=some z):∃B,O.le B/\Rel N w0 μ0 L B q z a w:=by
 unfold St.NH at D;split at D
 .obtain⟨U,Q,R⟩:=dM.1 D;obtain⟨V,H,F⟩:=rD S Q;obtain⟨I,l,G⟩:=F.pR R;exact⟨I,H.trans l,G⟩
 .cases D
def KR {G:Mu} {D:Nat->Value} {K O:St} {a:Act} {w:World} (F:Rel N w0 μ0 L G D K a w) {t:Nat} {v:AV} (l:NI K t=some (O,v)):
  ∃q,Rel N w0 μ0 L q D O a w/\G.le q/\rep q v (a.tmps.getD t undef):=by
 have get:∀{G:Mu} {K:St},Rel N w0 μ0 L G D K a w->K.env t=some (.pv v)->rep G v (a.tmps.getD t undef):=λF I=>by
  obtain⟨u,S,R⟩:=F.env t _ I
  have:a.tmps.getD t undef=u:=by simp[S]
  rw[this];exact R
 unfold NI at l;split at l
 .rename_i v' I;simp only[aN,bB] at l;obtain⟨rfl,rfl⟩:=l;exact⟨G,F,Mu.le.refl _,get F I⟩
 .rename_i id I;split at l
  .rename_i V Q;split at l
   .rename_i cs z;simp only[aN,bB] at l;obtain⟨rfl,rfl⟩:=l;obtain⟨q,B,H⟩:=KQ F Q;obtain⟨u,S,R⟩:=H.env t _ z;have e:a.tmps.getD t undef=u:=by simp[S]
    refine⟨q,H,B,?_⟩;rw[e,rep];obtain⟨b,U,vs,e1,hc,hm⟩:=R;exact⟨b,U,vs,e1,hc.1,hc.2,hm⟩
   .cases l
  .cases l
 .rename_i id I;split at l
  .rename_i V Q;split at l
   .rename_i v' z;simp only[aN,bB] at l;obtain⟨rfl,rfl⟩:=l;obtain⟨q,B,H⟩:=F.dL Q;exact⟨q,H,B,get H z⟩
   .cases l
  .cases l
 .cases l
def vk (l:Array Value):ResultVar->Sem Value
 | .tmp t=>pure (l.getD t undef)
 | .cell a t=>do loadVar t (<-asAddr (l.getD a undef))
def Rh {H:Mu} {z:Nat->Value} {F:St} {a:Act} {w:World} (I:Rel N w0 μ0 L H z F a w) {ad:Nat} {t:TypeId} {G:SV} (Q:eY P ⟨none, .load t (.tmp ad),t, "", #[],none⟩ F=some G):
  ∃v,(vk a.tmps (.cell ad t)).run P w= .ok v w/\gH H z G v:=by
 obtain⟨v,l,O⟩:=vh I Q;refine⟨v,?_,O⟩;have K:a.eval (.tmp ad)=a.tmps.getD ad undef:=rfl;simp only[execOp,fW] at l;rw[K] at l;cases B:a.tmps.getD ad undef with
 |pointer p=>cases p with
  |none=>rw[B] at l;simp[Instr.loadAt,Instr.sureAddr] at l
  |some q=>rw[B] at l;simp only[Instr.loadAt,Instr.sureAddr,fW,lg,gO] at l;simp only[vk,B,asAddr,fW,lg,gO];cases D:(loadVar t q).run P w with
   |ok u R=>rw[D] at l;simp only[gO,Result.ok.injEq,Next.value.injEq] at l;rw[l.1,l.2]
   |halt x R=>rw[D] at l;simp at l
 |_=>rw[B] at l;simp[Instr.loadAt,Instr.sureAddr] at l
def K1:∀(l:List ResultVar) {S:Mu} {D:Nat->Value} {st F:St} {a:Act} {w:World} {vs:List AV},Rel N w0 μ0 L S D st a w->sS P l st=some (F,vs)->
  ∃B R,Rel N w0 μ0 L B D F a w/\S.le B/\(l.mapM (vk a.tmps)).run P w= .ok R w/\cn B vs R:=by
 intro l;induction l with
 |nil=>intro S D st F a w vs V q;simp only[sS,aN,bB] at q;obtain⟨rfl,rfl⟩:=q;exact⟨S,[],V,Mu.le.refl _,rfl,dg⟩
 |cons x l ih=>
  intro S D st F a w vs V q;have join:∀{H:Mu} {K:St} {v:AV} {u:Value} {G:List AV},Rel N w0 μ0 L H D K a w->S.le H->(vk a.tmps x).run P w= .ok u w->rep H v u->sS P l K=some (F,G)->vs=v::G->
    ∃B R,Rel N w0 μ0 L B D F a w/\S.le B/\((x::l).mapM (vk a.tmps)).run P w= .ok R w/\cn B vs R:=by
   intro H K v u G U I hr z Q e;obtain⟨μ2,R,h2,O,hm,hall⟩:=ih U Q;refine⟨μ2,u::R,h2,I.trans O,?_,by rw[e];exact bN (vj O _ _ z) hall⟩;simp[zD,hr,hm]
  cases x with
  |tmp t=>
   simp only[sS] at q;split at q
   .rename_i K v hp;split at q
    .rename_i st2 G Q;simp only[aN,bB] at q;obtain⟨rfl,rfl⟩:=q;obtain⟨H,U,I,z⟩:=KR V hp;exact join U I rfl z Q rfl
    .cases q
   .cases q
  |cell ad t=>
   simp only[sS] at q;split at q
   .rename_i v hp;split at q
    .rename_i st2 G Q;simp only[aN,bB] at q;obtain⟨rfl,rfl⟩:=q;obtain⟨u,hr,z⟩:=Rh V hp;exact join V (Mu.le.refl _) hr z Q rfl
    .cases q
   .rename_i id hp;split at q
    .rename_i K s9;split at q
     .rename_i v hp1;split at q
      .rename_i st2 G Q;simp only[aN,bB] at q;obtain⟨rfl,rfl⟩:=q;obtain⟨H,I,U⟩:=V.dL s9;obtain⟨u,hr,z⟩:=Rh U hp1;exact join U I hr z Q rfl
      .cases q
     .cases q
    .cases q
   .cases q
def Gf {fn:Func} {tmps:Array Value} {w:World} {us:List Value} (h:(fn.results.toList.mapM (vk tmps)).run P w= .ok us w):
  ∃v,(results fn tmps).run P w= .ok v w/\((∃u,us=[u]/\v=u)\/(us.length≠1/\v= .tuple us.toArray)):=by
 have e:(results fn tmps)=(do
   let z<-fn.results.mapM (vk tmps)
   pure (if h:z.size=1 then z[0] else .tuple z)):=by
  unfold results;congr 1
 rw[e];obtain⟨l⟩:∃l,fn.results=⟨l⟩:=⟨fn.results.toList,ah⟩
 have D:(fn.results.mapM (vk tmps)).run P w= .ok us.toArray w:=by
  rename_i B;rw[B] at h⊢;simp only at h
  have:(List.toArray l).mapM (vk tmps)=Functor.map List.toArray (l.mapM (vk tmps)):=List.mapM_toArray ..
  rw[show(⟨l⟩:Array ResultVar)=l.toArray from rfl,this];simp[h]
 simp only[fW,D,gO,lg];by_cases q:us.length=1
 .match us,q with
  |[u],_=>exact⟨u,by simp, .inl ⟨u,rfl,rfl⟩⟩
 .exact⟨.tuple us.toArray,by simp[q], .inr ⟨q,rfl⟩⟩
def UW {D:Mu} {q:List AV} {w:List Value} {v:Value} (l:cn D q w) (G:(∃u,w=[u]/\v=u)\/(w.length≠1/\v= .tuple w.toArray)):rep D (result q) v:=by
 have z:=nK l;rcases G with⟨u,rfl,rfl⟩|⟨B,rfl⟩
 .match q,z with
  |[x],_=>rw[cn] at l;obtain⟨K,H,e,F,_⟩:=l;injection e with e1 I;subst e1;exact F
 .have:result q= .lR q:=by
   match q,z with
   |[],_=>rfl
   |[x],z=>exact absurd (by simpa using z) B
   |_::_::_,_=>rfl
  rw[this,rep];exact⟨w,rfl,l⟩
def zO {names:List Nat} {G:St}:∀{l:List Nat} {cF:List (Nat×Ob)},oT names G l=some cF->∀id o,find cF id=some o->G.ob id=some o:=by intro l;induction l with
 |nil=>intro cF q id o w;simp only[oT,aN] at q;subst q;simp[find] at w
 |cons j l H=>
  intro cF q id o w;simp only[oT] at q;split at q
  .rename_i I K B D;cases F:I.closed names with
   |false=>simp[F] at q
   |true=>simp only[F,ai,aN] at q;subst q;simp only[find] at w;cases z:Nat.beq j id with
    |true=>simp only[z,ai,aN] at w;subst w;rw[<-beq_iff.1 z];exact B
    |false=>simp only[z,aA] at w;exact H D id o w
  .cases q
def Ky {names:List Nat} {G:St}:∀{l:List Nat} {cF:List (Nat×Ob)},oT names G l=some cF->cF.map (·.1)=l:=by intro l;induction l with
 |nil=>intro cF q;simp only[oT,aN] at q;subst q;rfl
 |cons j l D=>
  intro cF q;simp only[oT] at q;split at q
  .rename_i F H B w;cases z:F.closed names with
   |false=>simp[z] at q
   |true=>simp only[z,ai,aN] at q;subst q;simp[D w]
  .cases q
def Qo:∀(l:List SV) (i j:Nat) (s:SV),find (yf i l) j=some s->∃k,j=i+k/\l[k]? =some s:=by intro l;induction l with
 |nil=>intro i j s q;simp[yf,find] at q
 |cons x l B=>intro i j s q;simp only[yf,find] at q;cases w:Nat.beq i j with
  |true=>simp only[w,ai,aN] at q;subst q;exact⟨0,by have:=beq_iff.1 w;omega,rfl⟩
  |false=>simp only[w,aA] at q;obtain⟨k,rfl,z⟩:=B (i+1) j s q;exact⟨k+1,by omega,by simpa using z⟩
def aaj {z:Type}:∀{l:List (Nat×z)} {i:Nat} {v:z},find l i=some v->i∈l.map (·.1):=by intro l;induction l with
 |nil=>intro i v q;simp[find] at q
 |cons x l B=>intro i v q;obtain⟨j,u⟩:=x;simp only[find] at q;cases w:Nat.beq j i with
  |true=>simp[beq_iff.1 w]
  |false=>simp only[w,aA] at q;simp only[aS,aG];exact .inr (B q)
end
def S8 {P:Program} {h:Hint} {cI:dX} {q:Qp} {B:Mu} {f:Nat} (hok:Cm P=true) (hblk:∀fn c,P.funcs[f]? =some fn->fn.body=some c->mE q B P h fn.ntmps c) (y6:fQ q B P cI) {n:Nat} {fn:Func} {c:Code} {args:List SV} {cF Q:List (Nat×Ob)} {r:AV} {e:Ex} {st:St}
  (hf:P.funcs[f]? =some fn) (hb:fn.body=some c) (U:(Nat.ble args.length fn.ntmps&&(cF.map (·.1)).all (λi=> !(w8 i)))=true)
  (hx:exec P h cI n c { env:=find (yf 0 args),ob:=find cF }=some (e,st)) (R:Z4 P h.own fn cF e st=some (r,Q)):
  ∀(w:World) (μ:Mu) (I:Nat->Value) (us:List Value),B.le μ->HA μ w->(∀id o,find cF id=some o->lU w.heap.size (jJ q I (cF.map (·.1))) μ I w id o)->Vn I cF->iF μ I args us->
   (∀w2,(callFunc f us.toArray).run P w2= .ok (.enter f us.toArray) w2)/\Calls P f us.toArray w λe w'=>∃v μ' loc',e= .returned v/\fR q μ I (cF.map (·.1)) r Q w v μ' loc' w':=by
 intro w μ I us hBle s9 aay hap By;simp only[aJ] at U;simp only[Cm,aJ] at hok;obtain⟨⟨hm,hfuncs⟩,_⟩:=hok;have hfn:TE fn=true:=cz.1 hfuncs fn (aI (show P.funcs.toList[f]? =some fn by simpa using hf));simp only[TE,hb,aJ,iA] at hfn;obtain⟨⟨hsmall,hname⟩,zj⟩:=hfn;have hlen:=pz By;have hle:args.length<=fn.ntmps:=dw U.1;refine⟨λw2=> ?_,?_⟩
 .have hname':¬(fn.name= "runtime.NumGoroutine"):=by simpa using hname
  simp[callFunc,hf,hname',hb]
 refine calls_of_wp hf hb ?_;have hR:Rel fn.ntmps w μ (jJ q I (cF.map (·.1))) μ I { env:=find (yf 0 args),ob:=find cF } { tmps:=us.toArray++Array.replicate (fn.ntmps-us.toArray.size) undef,defers:=[] } w:=by
  refine⟨dw hsmall,?_,?_,?_,rfl,?_,s9,⟨Mu.le.refl _,λ_ _ _ h=> .inl h⟩,aay,hap,λ_ _ _=>rfl,rfl,rfl,rfl,aU _,λ_=>aU _⟩
  .intro id V
   have:¬(id∈cF.map (·.1)):=λhm=>by
    have:=cz.1 U.2 id hm;have h0:w8 id=true:=by simpa[w8,cD] using V
    rw[h0] at this;cases this
   simp only[jJ,au this]
  .intro id v hv _;simp only[jJ] at hv;split at hv
   .injection hv
   .cases hv
  .simp;omega
  .intro i s hi;obtain⟨k,hk,hs⟩:=Qo args 0 i s hi;obtain⟨u,hu,hr⟩:=LQ By hs;have hlt:=(bF.1 hu).1;refine⟨u,?_,hr⟩;rw[hk,gy,tT (by simpa using hlt)];simpa using hu
 refine wp_mono (tS.1 (Iq (B:=B) hBle (y6.mono hBle) hm n c _ e st zj (hblk fn c hf hb) hx μ I _ w hR _ Wd.wide (.inl rfl))) ?_;rintro e' a' w' ⟨rfl,μ1,K,H⟩;have fin:∀(e:Ex),Z4 P h.own fn cF e st=some (r,Q)->(∀id,e≠ .exit id)->a'.defers=[]/\∃v,(results fn a'.tmps).run P w'= .ok v w'/\∃v' μ' loc',Ending.returned v= .returned v'/\fR q μ I (cF.map (·.1)) r Q w v' μ' loc' w':=by
  intro e R hne;have hone:∀t u,fn.results.toList=[.tmp t]->a'.tmps[t]? =some u->(results fn a'.tmps).run P w'= .ok u w':=λt u S hu=>by
   obtain⟨v,hrun,hv⟩:=Gf (P:=P) (fn:=fn) (tmps:=a'.tmps) (w:=w') (us:=[u]) (by
    rw[S]
    have:a'.tmps.getD t undef=u:=by simp[hu]
    simp[zD,vk,this])
   rcases hv with⟨u',e,rfl⟩|⟨hne,_⟩
   .injection e with e;rw[e];exact hrun
   .simp at hne
  have z:(bif h.own then match UM fn st,oT (cF.map (·.1)) st (cF.map (·.1)) with
   |some r,some l=>some (r,l)
   |_,_=>none
  else match N2 fn (cF.map (·.1)) st with
   |some n=>match oT (cF.map (·.1)) st (cF.map (·.1)) with
    |some l=>some (AV.self n,l)
    |none=>none
   |none=>match sS P fn.results.toList st with
   |some (st',vs)=>match oT (cF.map (·.1)) st' (cF.map (·.1)) with
    |some l=>some (result vs,l)
    |none=>none
   |none=>none)=some (r,Q):=by
   cases e with
   |exit id=>exact absurd rfl (hne id)
   |normal=>exact R
   |ret=>exact R
  cases how:h.own with
  |true=>
   rw[how] at z;simp only[ai] at z;split at z
   .rename_i r0 l F O;simp only[aN,bB] at z;obtain⟨rfl,rfl⟩:=z;have G:=zO O;unfold UM at F;split at F
    .rename_i t S;split at F
     .rename_i id he;split at F
      .rename_i e' sz' xs' V sg;injection F with F;subst F;obtain⟨u,hu,hr⟩:=H.env t _ he;have hr:u=fH (K id):=hr;rw[iS (H.obs id _ sg)] at hr;subst hr;have hnot:¬id∈cF.map (·.1):=λhm=>by
        have:=cz.1 U.2 id hm;rw[V] at this;cases this
       obtain⟨us',F,hrc,hblk'⟩:=H.obs id _ sg
       refine⟨H.defers,_,hone t _ S hu,_,μ1,K,rfl,H.base,H.uy, .inr (.inr ⟨e',sz',xs',us',rfl,F,hrc,λg hg=> ?_⟩),λid o ho=>H.obs id o (G id o ho),λi j oi oj hi hj=>H.apart i j oi oj (G i oi hi) (G j oj hj),H.keep,
        λid V hlt=>H.fix id (I id) (by simp[jJ,V]) hlt,H.os,H.tape,H.output,H.grown,H.drawn⟩
       have hgb:jw (K id) g:= .inl hg;refine⟨?_,(hblk' g hgb).2,λj o ho hb=> ?_⟩
       .rcases(hblk' g hgb).1 with h|⟨x,hx,_⟩
        .exact h
        .simp only[jJ,au hnot] at hx;cases hx
       .have hj:j∈cF.map (·.1):=by
         have:=aaj ho;rwa[Ky O] at this
        exact H.apart j id o _ (G j o ho) sg (λe=>hnot (e▸hj)) g hb hgb
      .cases F
     .cases F
    .cases F
   .cases z
  |false=>
  rw[how] at z;simp only[aA] at z;split at z
  .rename_i n D;split at z
   .rename_i l O;simp only[aN,bB] at z;obtain⟨rfl,rfl⟩:=z;have G:=zO O;have post:∀v,(∃A m c,K 10000= .slice A m c/\n<=m/\v= .slice A n c)->10000∈cF.map (·.1)->fR q μ I (cF.map (·.1)) (.self n) l w v μ1 K w':=λv ⟨A,m,c,k1,k2,k3⟩ hmem=>
     ⟨H.base,H.uy, .inr (.inl ⟨n,A,m,c,rfl,hmem,k1,k2,k3⟩),λid o ho=>H.obs id o (G id o ho),λi j oi oj hi hj=>H.apart i j oi oj (G i oi hi) (G j oj hj),H.keep,
      λid V hlt=>H.fix id (I id) (by simp[jJ,V]) hlt,H.os,H.tape,H.output,H.grown,H.drawn⟩
    unfold N2 at D;split at D
    .rename_i t S hnames;have hmem:10000∈cF.map (·.1):=by rw[hnames];simp
     split at D
     .rename_i e' sz' xs' he sg;injection D with D;subst D;obtain⟨u,hu,hr⟩:=H.env t _ he;have hr:u=fH (K 10000):=hr;rw[iS (H.obs 10000 _ sg)] at hr;obtain⟨vs,F,_⟩:=H.obs 10000 _ sg;refine⟨H.defers,u,hone t u S hu,u,μ1,K,rfl,post u ?_ hmem⟩;rcases F.2 with⟨e1,e2⟩|⟨g,cap,cur,e1,_⟩
      .exact⟨none,0,0,e1,by omega,by rw[hr,e1,e2]⟩
      .exact⟨_,_,cap,e1,aU _,by rw[hr,e1]⟩
     .rename_i sz' n' e' sz2 xs' he sg;injection D with D;subst D;obtain⟨u,hu,hr⟩:=H.env t _ he;obtain⟨A,m,c,A',c',k1,_,k2,_,k3,k4,_⟩:=hr;obtain⟨rfl,rfl⟩:=k4 rfl;exact⟨H.defers,u,hone t u S hu,u,μ1,K,rfl,post u ⟨A',m,c',k1,k2,by simpa using k3⟩ hmem⟩
     .cases D
    .cases D
   .cases z
  .rename_i D;split at z
   .rename_i st2 vs ht;split at z
    .rename_i l O;simp only[aN,bB] at z;obtain⟨rfl,rfl⟩:=z;obtain⟨μ2,us2,h2,hle2,hmap,hall⟩:=K1 fn.results.toList H ht;obtain⟨v,hrun,hv⟩:=Gf hmap;refine⟨h2.defers,v,hrun,v,μ2,K,rfl,?_⟩;have G:=zO O
     exact⟨h2.base,h2.uy, .inl (UW hall hv),λid o ho=>h2.obs id o (G id o ho),λi j oi oj hi hj=>h2.apart i j oi oj (G i oi hi) (G j oj hj),h2.keep,
      λid V hlt=>h2.fix id (I id) (by simp[jJ,V]) hlt,h2.os,h2.tape,h2.output,h2.grown,h2.drawn⟩
    .cases z
   .cases z
 cases e with
 |exit id=>simp[Z4,Z5] at R
 |normal=>exact fin .normal R ah
 |ret=>exact fin .ret R ah
