/- THE ABSTRACT MACHINE. -/
import Derived.Test.YtacapiamkgkkjaaGreatDoorAmDraw
set_option linter.all false
namespace Go.AM
open Go.RowKit
def Ex.exit':Ex->Exit
 | .normal=> .normal
 | .exit id=> .exit id
 | .ret=> .ret
section
variable {P:Program} {N:Nat} {w0:World} {μ0:Mu} {L:sI} {h:Hint} {cC:eM}
def Ze (N:Nat) (w0:World) (μ0:Mu) (L:sI) (e:Ex) (B:St):Exit->Act->World->Prop:=λz w D=>z=e.exit'/\∃q l,Rel N w0 μ0 L q l B w D
def Rel.canon {K:Mu} {D:Nat->Value} {I:St} {a:Act} {w:World} (q:Rel N w0 μ0 L K D I a w) (h:Hint) (key:Nat):Rel N w0 μ0 L K D (h.canon key I) a w:=by
 have get:∀{G:Type} (m:Nat->Option G) (l:List Nat) (i:Nat) (v:G),find (s7 m l) i=some v->m i=some v:=by intro G m l;induction l with
  |nil=>intro i v z;simp[s7,find] at z
  |cons j l H=>
   intro i v z;simp only[s7] at z;split at z
   .rename_i x Q;simp only[find] at z;cases F:Nat.beq j i with
    |true=>simp only[F,aj,aM] at z;subst z;rw[<-beq_iff.1 F];exact Q
    |false=>simp only[F,au] at z;exact H i v z
   .exact H i v z
 unfold Hint.canon;split
 rotate_left
 .exact q
 exact⟨q.small,q.names,q.fix,q.size,q.defers,λi s B=>q.env i s (get _ _ _ _ B),q.xI,q.base,λi o B=>q.obs i o (get _ _ _ _ B),
  λi j R S B O=>q.apart i j R S (get _ _ _ _ B) (get _ _ _ _ O),q.keep,q.os,q.tape,q.output,q.grown,q.drawn⟩
def Rel.drew {D:Mu} {z:Nat->Value} {B:St} {a:Act} {w:World} (l:Rel N w0 μ0 L D z B a w):Rel N w0 μ0 L D z B a { w with drawn:=w.drawn+1 }:=
 ⟨l.small,l.names,l.fix,l.size,l.defers,l.env,l.xI,l.base,λi o I=>by have:=l.obs i o I;cases o with
  |box t cells=>exact this
  |mp k e K Q=>exact this
  |mr k e s K Q=>exact this
  |rn e s k R S xs V=>exact this
  |it s n=>exact this
  |lp s=>obtain⟨O,F,G,H⟩:=this;exact⟨O,F,G,L.q.keep (w:=w) (λ_ _=>rfl) H⟩
  |row e U xs=>exact this,l.apart,l.keep,l.os,l.tape,l.output,l.grown,λq=>Nat.le_succ_of_le (l.drawn q)⟩
def EV:∀{l:List Nat} {I z:St} {F:Mu} {q:Nat->Value} {a:Act} {w:World},Rel N w0 μ0 L F q I a w->zn l I=some z->∃B,Rel N w0 μ0 L B q z a w
 |[],I,z,F,q,a,w,G,H=>by simp only[zn,aM] at H;subst H;exact⟨F,G⟩
 |id::l,I,z,F,q,a,w,G,H=>by
  simp only[zn] at H;obtain⟨O,D,Q⟩:=dx.1 H;obtain⟨R,_,K⟩:∃B,F.le B/\Rel N w0 μ0 L B q O a w:=by
   unfold St.Kk at D;split at D
   .exact G.qu D
   .injection D with D;subst D;exact⟨F,Mu.le.refl _,G⟩
   .exact G.cZ D
  exact EV K Q
def U9 {F z:St} {G:Mu} {q:Nat->Value} {a:Act} {w:World} {id:Nat} (D:Rel N w0 μ0 L G q F a w) (l:h.acA id F=some z):∃B,Rel N w0 μ0 L B q z a w:=by
 unfold Hint.acA at l;split at l
 .exact EV D l
 .injection l with l;subst l;exact⟨G,D⟩
def Zg (q:Qp) (B:Mu) (P:Program) (N:Nat) (c:Code) (g:St->Bool) (F:St->Nat×St):Prop:=
 ∀(w0:World) (μ0:Mu) (L:sI) (D:Mu) (z:Nat->Value) (l:St) (a:Act) (w:World),L.q=q->B.le μ0->g l=true->Rel N w0 μ0 L D z l a w->c.wp P (Ze N w0 μ0 L (exOf (F l).1) (F l).2) a w
def qV (q:Qp) (B:Mu) (P:Program) (h:Hint) (N:Nat):Code->Prop
 | .seq a b=>match find h.blk (e7 a) with
  |some x=>Zg q B P N (.seq a b) x.1 x.2
  |none=>qV q B P h N a/\qV q B P h N b
 | .cond _ a b=>qV q B P h N a/\qV q B P h N b
 | .block _ c=>qV q B P h N c
 | .loop c=>qV q B P h N c
 | .scope c=>qV q B P h N c
 |_=>True
def qV.none {q:Qp} {B:Mu} {P:Program} {h:Hint} {N:Nat} (D:h.blk=[]):∀c:Code,qV q B P h N c:=by intro c;induction c with
 |seq x y l w=>simp only[qV,D,find];exact⟨l,w⟩
 |cond c x y l w=>exact⟨l,w⟩
 |block id c z=>exact z
 |loop c z=>exact z
 |scope c z=>exact z
 |_=>trivial
def Cu {F:Fence} {n:Nat} {Q:Exit->Act->World->Prop} {a:Act} {w:World} {c:Code} (hs:c.wpIn F n P (Exit.noGoto Q) a w):(Code.scope c).wpIn F n P Q a w:=by intro b k D V O S;have G:(lone (b.atR a (.code (.scope c)::k)) D w).fenced P F:=fenced_calm O S rfl;have I:Go.step P (lone (b.atR a (.code (.scope c)::k)) D w)= .next (lone (b.atR a (.code c:: .inScope c::k)) D w):=step_lone_go (by simp[stepG,stepG.exec,Frame.atR]);obtain⟨e,q,z,H,B⟩:=hs b (.inScope c::k) D V O S;cases e with
 |normal=>have s2:Go.step P (lone (b.atR q (.inScope c::k)) D z)= .next (lone (b.atR q k) D z):=step_lone_go (by simp[stepG,stepG.exec,Frame.atR]);exact⟨.normal,q,z,H, .head G I (StepsIn.trans B (.one (fenced_calm O S rfl) s2))⟩
 |exit id=>
  have hx:exitTo id (.inScope c::k)=exitTo id k:=by simp[exitTo]
  exact⟨_,q,z,H,λk' R=> .head G I (B.1 k' (by rw[hx];exact R)),λU R=>let⟨K,h1,h2⟩:=B.2 U (by rw[hx];exact R);⟨K,h1, .head G I h2⟩⟩
 |goto l=>exact H.elim
 |ret=>exact⟨_,q,z,H, .of_steps (.one G I) B⟩
 |panic ch=>exact⟨_,q,z,H, .of_steps (.one G I) B⟩
 |outgrown=>exact⟨_,q,z,H, .of_steps (.one G I) B⟩
def T4 {B:Mu} (hBle:B.le μ0) (wI:iw L.q μ0 P cC) (hm:P.follows .mixedOrders=true) (n:Nat):∀(c:Code) (S:St) (e:Ex) (I:St),qL N c=true->qV L.q B P h N c->exec P h cC n c S=some (e,I)->
  ∀(U:Mu) (G:Nat->Value) (a:Act) (w:World),Rel N w0 μ0 L U G S a w->∀F,Wd F->(F.round=none\/h.blk=[])->c.wpIn F 0 P (Ze N w0 μ0 L e I) a w:=by
 intro c;induction c with
 |skip=>intro S e I _ _ q U G a w R F V H;simp only[exec,aM,bD] at q;obtain⟨rfl,rfl⟩:=q;exact wpIn_skip ⟨rfl,U,G,R⟩
 |label l=>intro S e I _ _ q U G a w R F V H;simp only[exec,aM,bD] at q;obtain⟨rfl,rfl⟩:=q;exact wpIn_label ⟨rfl,U,G,R⟩
 |exit id=>intro S e I _ _ q U G a w R F V H;simp only[exec,aM,bD] at q;obtain⟨rfl,rfl⟩:=q;exact wpIn_exit ⟨rfl,U,G,R⟩
 |ret=>intro S e I _ _ q U G a w R F V H;simp only[exec,aM,bD] at q;obtain⟨rfl,rfl⟩:=q;exact wpIn_ret ⟨rfl,U,G,R⟩
 |region id ops draw=>
  intro S e I K Q q U G a w R F V H;have hd:∀o∈ops.toList,∀i,o.dst=some i->i<N:=λo ho i hi=>by simp only[qL,cF] at K;have:=K o ho;simpa[hi,cz] using this
  simp only[exec] at q;obtain⟨st1,oE,q⟩:=dx.1 q;obtain⟨μ1,hR1⟩:=U9 R oE;clear R;have R:=hR1;cases draw with
  |true=>simp only[aj] at q;cases hs:sN 0 ops.toList with
   |false=>simp[hs] at q
   |true=>simp only[hs,aj] at q;cases hr:kz P h cC ops 0 ops.toList [] (r7 (xK ops.toList) st1) with
    |none=>simp[hr] at q
    |some s=>simp[hr] at q;obtain⟨rfl,rfl⟩:=q;exact wpIn_region_any hm (TY wI hs hr hd (λa' w' O D h'=>⟨rfl,O,D,h'⟩) R.drew V)
  |false=>simp only[au] at q;cases hr:qR P h cC ops ops.toList st1 with
   |none=>simp[hr] at q
   |some s=>simp[hr] at q;obtain⟨rfl,rfl⟩:=q;exact wpIn_region_list (O4 wI R hd hr (λa' w' O D h'=>⟨rfl,O,D,h'⟩) F V)
 |seq x y ihx ihy=>
  intro S e I K Q q U G a w R F V H;simp only[qL,aK] at K;simp only[exec] at q;simp only[qV] at Q;cases hfb:find h.blk (e7 x) with
  |some z=>simp only[hfb] at q Q;cases hg:z.1 S with
   |false=>simp[hg] at q
   |true=>
    simp only[hg,aj,aM,bD] at q;obtain⟨rfl,rfl⟩:=q;rcases H with H|H
    .rw[V.plain H,wpIn_wide];exact Q w0 μ0 L U G S a w rfl hBle hg R
    .rw[H] at hfb;cases hfb
  |none=>
  simp only[hfb] at q Q;refine wpIn_seq ?_;split at q
  .rename_i st1 hx;refine nG (ihx S _ _ K.1 Q.1 hx U G a w R F V H) ?_;rintro e' a' w' ⟨rfl,O,D,h'⟩;exact ihy st1 e I K.2 Q.2 q O D a' w' h' F V H
  .rename_i hne;refine nG (ihx S e I K.1 Q.1 q U G a w R F V H) ?_;rintro e' a' w' ⟨rfl,O,D,h'⟩;cases e with
   |normal=>exact absurd q (hne I)
   |exit id=>exact⟨rfl,O,D,h'⟩
   |ret=>exact⟨rfl,O,D,h'⟩
 |cond c x y ihx ihy=>
  intro S e I K Q q U G a w R F V H;simp only[qL,aK] at K;simp only[exec] at q;split at q
  .rename_i t hc;have hcv:=aZ R hc;simp only[fQ,rep] at hcv;cases t with
   |true=>exact wpIn_cond_true hcv (ihx S e I K.1 Q.1 q U G a w R F V H)
   |false=>exact wpIn_cond_false hcv (ihy S e I K.2 Q.2 q U G a w R F V H)
  .cases q
 |block id c ih=>
  intro S e I K Q q U G a w R F V H;simp only[qL] at K;simp only[exec] at q;refine wpIn_block ?_;split at q
  .rename_i j st1 hx;refine nG (ih S _ _ K Q hx U G a w R F V H) ?_;rintro e' a' w' ⟨rfl,O,D,h'⟩;cases hb:Nat.beq j id with
   |true=>simp only[hb,aj,aM,bD] at q;obtain⟨rfl,rfl⟩:=q;have:=beq_iff.1 hb;subst this;simp only[Ex.exit',Exit.inBlock,fZ];exact⟨rfl,O,D,h'⟩
   |false=>
    simp only[hb,au,aM,bD] at q;obtain⟨rfl,rfl⟩:=q
    have:j≠id:=λe=>by subst e;simp[gz] at hb
    simp only[Ex.exit',Exit.inBlock,aA this];exact⟨rfl,O,D,h'⟩
  .rename_i hne;refine nG (ih S e I K Q q U G a w R F V H) ?_;rintro e' a' w' ⟨rfl,O,D,h'⟩;cases e with
   |normal=>exact⟨rfl,O,D,h'⟩
   |exit id=>exact absurd q (hne _ _)
   |ret=>exact⟨rfl,O,D,h'⟩
 |loop c ih=>
  intro S e I K Q q U G a w R F V H;simp only[qL] at K;simp only[exec] at q;refine wpIn_loop_rounds n ?_;have key:∀(k:Nat) (S:St) (U:Mu) (G:Nat->Value) (a:Act) (w:World),Rel N w0 μ0 L U G S a w->iter h (e7 c) (exec P h cC n c) k S=some (e,I)->Code.roundsIn F 0 P c (Ze N w0 μ0 L e I) k a w:=by intro k;induction k with
   |zero=>intro S U G a w _ q;simp[iter] at q
   |succ k ihk=>
    intro S U G a w R q;rw[roundsIn_succ];simp only[iter] at q;split at q
    .rename_i st1 hx;refine nG (ih _ _ _ K Q hx U G a w (R.canon h _) F V H) ?_;rintro e' a' w' ⟨rfl,O,D,h'⟩;exact ihk st1 O D a' w' h' q
    .rename_i hne;refine nG (ih _ _ _ K Q q U G a w (R.canon h _) F V H) ?_;rintro e' a' w' ⟨rfl,O,D,h'⟩;cases e with
     |normal=>exact absurd q (hne _)
     |exit id=>exact⟨rfl,O,D,h'⟩
     |ret=>exact⟨rfl,O,D,h'⟩
  exact key n S U G a w R q
 |scope c ih=>intro S e I K Q q U G a w R F V H;simp only[qL] at K;simp only[exec] at q;refine Cu ?_;refine nG (ih S e I K Q q U G a w R F V H) ?_;rintro e' a' w' ⟨rfl,O,D,h'⟩;cases e<;>exact⟨rfl,O,D,h'⟩
 |rangeFunc f ps x y ihx ihy=>intro S e I _ _ q;simp[exec] at q
 |goto l=>intro S e I _ _ q;simp[exec] at q
 |refuse s=>intro S e I _ _ q;simp[exec] at q
def LO {O:Mu} {q:Nat->Value} {K z:St} {a:Act} {w:World} (S:Rel N w0 μ0 L O q K a w) {id:Nat} (D:K.OS id=some z):∃B,O.le B/\Rel N w0 μ0 L B q z a w:=by
 unfold St.OS at D;split at D
 .obtain⟨U,Q,R⟩:=dx.1 D;obtain⟨V,H,F⟩:=rZ S Q;obtain⟨I,l,G⟩:=F.qu R;exact⟨I,H.trans l,G⟩
 .cases D
def LP {G:Mu} {D:Nat->Value} {K O:St} {a:Act} {w:World} (F:Rel N w0 μ0 L G D K a w) {t:Nat} {v:AV} (l:OT K t=some (O,v)):
  ∃q,Rel N w0 μ0 L q D O a w/\G.le q/\rep q v (a.tmps.getD t undef):=by
 have get:∀{G:Mu} {K:St},Rel N w0 μ0 L G D K a w->K.env t=some (.pv v)->rep G v (a.tmps.getD t undef):=λF I=>by
  obtain⟨u,S,R⟩:=F.env t _ I
  have:a.tmps.getD t undef=u:=by simp[S]
  rw[this];exact R
 unfold OT at l;split at l
 .rename_i v' I;simp only[aM,bD] at l;obtain⟨rfl,rfl⟩:=l;exact⟨G,F,Mu.le.refl _,get F I⟩
 .rename_i id I;split at l
  .rename_i V Q;split at l
   .rename_i cs z;simp only[aM,bD] at l;obtain⟨rfl,rfl⟩:=l;obtain⟨q,B,H⟩:=LO F Q;obtain⟨u,S,R⟩:=H.env t _ z;have e:a.tmps.getD t undef=u:=by simp[S]
    refine⟨q,H,B,?_⟩;rw[e,rep];obtain⟨b,U,vs,e1,hc,hm⟩:=R;exact⟨b,U,vs,e1,hc.1,hc.2,hm⟩
   .cases l
  .cases l
 .rename_i id I;split at l
  .rename_i V Q;split at l
   .rename_i v' z;simp only[aM,bD] at l;obtain⟨rfl,rfl⟩:=l;obtain⟨q,B,H⟩:=F.cZ Q;exact⟨q,H,B,get H z⟩
   .cases l
  .cases l
 .cases l
def se (tmps:Array Value):ResultVar->Sem Value
 | .tmp t=>pure (tmps.getD t undef)
 | .cell a t=>do loadVar t (<-asAddr (tmps.getD a undef))
def JM {I:Mu} {B:Nat->Value} {G:St} {a:Act} {w:World} (K:Rel N w0 μ0 L I B G a w) {z:Nat} {t:TypeId} {H:SV} (R:eU P ⟨none, .load t (.tmp z),t, "", #[],none⟩ G=some H):
  ∃v,(se a.tmps (.cell z t)).run P w= .ok v w/\fQ I B H v:=by
 obtain⟨v,l,Q⟩:=vS K R;refine⟨v,?_,Q⟩;have O:a.eval (.tmp z)=a.tmps.getD z undef:=rfl;simp only[execOp,gj] at l;rw[O] at l;cases D:a.tmps.getD z undef with
 |pointer p=>cases p with
  |none=>rw[D] at l;simp[Instr.loadAt,Instr.sureAddr] at l
  |some q=>rw[D] at l;simp only[Instr.loadAt,Instr.sureAddr,gj,lZ,gG] at l;simp only[se,D,asAddr,gj,lZ,gG];cases F:(loadVar t q).run P w with
   |ok u S=>rw[F] at l;simp only[gG,Result.ok.injEq,Next.value.injEq] at l;rw[l.1,l.2]
   |halt x S=>rw[F] at l;simp at l
 |_=>rw[D] at l;simp[Instr.loadAt,Instr.sureAddr] at l
def Gc {F:Mu} {l:Nat->Value} {D:St} {a:Act} {w:World} (z:Rel N w0 μ0 L F l D a w) {r:ResultVar} {q:SV} (B:Xa P D r=some q):
  ∃v,(se a.tmps r).run P w= .ok v w/\fQ F l q v:=by
 cases r with
 |tmp t=>obtain⟨v,G,H⟩:=z.env t q B;exact⟨v,by simp[se,G],H⟩
 |cell I t=>exact JM z B
def L2:∀(l:List ResultVar) {S:Mu} {D:Nat->Value} {st F:St} {a:Act} {w:World} {vs:List AV},Rel N w0 μ0 L S D st a w->tf P l st=some (F,vs)->
  ∃B R,Rel N w0 μ0 L B D F a w/\S.le B/\(l.mapM (se a.tmps)).run P w= .ok R w/\cI B vs R:=by
 intro l;induction l with
 |nil=>intro S D st F a w vs V q;simp only[tf,aM,bD] at q;obtain⟨rfl,rfl⟩:=q;exact⟨S,[],V,Mu.le.refl _,rfl,dM⟩
 |cons x l ih=>
  intro S D st F a w vs V q;have join:∀{H:Mu} {K:St} {v:AV} {u:Value} {G:List AV},Rel N w0 μ0 L H D K a w->S.le H->(se a.tmps x).run P w= .ok u w->rep H v u->tf P l K=some (F,G)->vs=v::G->
    ∃B R,Rel N w0 μ0 L B D F a w/\S.le B/\((x::l).mapM (se a.tmps)).run P w= .ok R w/\cI B vs R:=by
   intro H K v u G U I hr z Q e;obtain⟨μ2,R,h2,O,hm,hall⟩:=ih U Q;refine⟨μ2,u::R,h2,I.trans O,?_,by rw[e];exact cK (yd O _ _ z) hall⟩;simp[tn,hr,hm]
  cases x with
  |tmp t=>
   simp only[tf] at q;split at q
   .rename_i K v hp;split at q
    .rename_i st2 G Q;simp only[aM,bD] at q;obtain⟨rfl,rfl⟩:=q;obtain⟨H,U,I,z⟩:=LP V hp;exact join U I rfl z Q rfl
    .cases q
   .cases q
  |cell ad t=>
   simp only[tf] at q;split at q
   .rename_i v hp;split at q
    .rename_i st2 G Q;simp only[aM,bD] at q;obtain⟨rfl,rfl⟩:=q;obtain⟨u,hr,z⟩:=JM V hp;exact join V (Mu.le.refl _) hr z Q rfl
    .cases q
   .rename_i id hp;split at q
    .rename_i K oE;split at q
     .rename_i v hp1;split at q
      .rename_i st2 G Q;simp only[aM,bD] at q;obtain⟨rfl,rfl⟩:=q;obtain⟨H,I,U⟩:=V.cZ oE;obtain⟨u,hr,z⟩:=JM U hp1;exact join U I hr z Q rfl
      .cases q
     .cases q
    .cases q
   .cases q
def wT {fn:Func} {tmps:Array Value} {w:World} {us:List Value} (h:(fn.results.toList.mapM (se tmps)).run P w= .ok us w):
  ∃v,(results fn tmps).run P w= .ok v w/\((∃u,us=[u]/\v=u)\/(us.length≠1/\v= .tuple us.toArray)):=by
 have e:(results fn tmps)=(do
   let z<-fn.results.mapM (se tmps)
   pure (if h:z.size=1 then z[0] else .tuple z)):=by
  unfold results;congr 1
 rw[e];obtain⟨l⟩:∃l,fn.results=⟨l⟩:=⟨fn.results.toList,ai⟩
 have D:(fn.results.mapM (se tmps)).run P w= .ok us.toArray w:=by
  rename_i B;rw[B] at h⊢;simp only at h
  have:(List.toArray l).mapM (se tmps)=Functor.map List.toArray (l.mapM (se tmps)):=List.mapM_toArray ..
  rw[show(⟨l⟩:Array ResultVar)=l.toArray from rfl,this];simp[h]
 simp only[gj,D,gG,lZ];by_cases q:us.length=1
 .match us,q with
  |[u],_=>exact⟨u,by simp, .inl ⟨u,rfl,rfl⟩⟩
 .exact⟨.tuple us.toArray,by simp[q], .inr ⟨q,rfl⟩⟩
def Vj {D:Mu} {q:List AV} {w:List Value} {v:Value} (l:cI D q w) (G:(∃u,w=[u]/\v=u)\/(w.length≠1/\v= .tuple w.toArray)):rep D (result q) v:=by
 have z:=s9 l;rcases G with⟨u,rfl,rfl⟩|⟨B,rfl⟩
 .match q,z with
  |[x],_=>rw[cI] at l;obtain⟨K,H,e,F,_⟩:=l;injection e with e1 I;subst e1;exact F
 .have:result q= .gM q:=by
   match q,z with
   |[],_=>rfl
   |[x],z=>exact absurd (by simpa using z) B
   |_::_::_,_=>rfl
  rw[this,rep];exact⟨w,rfl,l⟩
def AI {names:List Nat} {G:St}:∀{l:List Nat} {cL:List (Nat×Ob)},p9 names G l=some cL->∀id o,find cL id=some o->G.ob id=some o:=by intro l;induction l with
 |nil=>intro cL q id o w;simp only[p9,aM] at q;subst q;simp[find] at w
 |cons j l H=>
  intro cL q id o w;simp only[p9] at q;split at q
  .rename_i I K B D;cases F:I.closed names with
   |false=>simp[F] at q
   |true=>simp only[F,aj,aM] at q;subst q;simp only[find] at w;cases z:Nat.beq j id with
    |true=>simp only[z,aj,aM] at w;subst w;rw[<-beq_iff.1 z];exact B
    |false=>simp only[z,au] at w;exact H D id o w
  .cases q
def Ls {names:List Nat} {G:St}:∀{l:List Nat} {cL:List (Nat×Ob)},p9 names G l=some cL->cL.map (·.1)=l:=by intro l;induction l with
 |nil=>intro cL q;simp only[p9,aM] at q;subst q;rfl
 |cons j l D=>
  intro cL q;simp only[p9] at q;split at q
  .rename_i F H B w;cases z:F.closed names with
   |false=>simp[z] at q
   |true=>simp only[z,aj,aM] at q;subst q;simp[D w]
  .cases q
def Rj:∀(l:List SV) (i j:Nat) (s:SV),find (yZ i l) j=some s->∃k,j=i+k/\l[k]? =some s:=by intro l;induction l with
 |nil=>intro i j s q;simp[yZ,find] at q
 |cons x l B=>intro i j s q;simp only[yZ,find] at q;cases w:Nat.beq i j with
  |true=>simp only[w,aj,aM] at q;subst q;exact⟨0,by have:=beq_iff.1 w;omega,rfl⟩
  |false=>simp only[w,au] at q;obtain⟨k,rfl,z⟩:=B (i+1) j s q;exact⟨k+1,by omega,by simpa using z⟩
def aag {z:Type}:∀{l:List (Nat×z)} {i:Nat} {v:z},find l i=some v->i∈l.map (·.1):=by intro l;induction l with
 |nil=>intro i v q;simp[find] at q
 |cons x l B=>intro i v q;obtain⟨j,u⟩:=x;simp only[find] at q;cases w:Nat.beq j i with
  |true=>simp[beq_iff.1 w]
  |false=>simp only[w,au] at q;simp only[bu,aI];exact .inr (B q)
end
def He:∀(k:Nat) (l:List Nat),(ve k l).map (·.1)=l
 |_,[]=>rfl
 |k,id::l=>by simp[ve,He (k+1) l]
def xz:∀(k:Nat) (l:List Nat),∀p∈ve k l,25000+k<=p.2
 |_,[],p,q=>by cases q
 |k,id::l,p,q=>by
  simp only[ve,aI] at q;rcases q with rfl|q
  .exact aW _
  .have:=xz (k+1) l p q;omega
def CL:∀(k:Nat) (l:List Nat),((ve k l).map (·.2)).Nodup
 |_,[]=>yD
 |k,id::l=>by simp only[ve,bu];refine fM.2 ⟨λq=> ?_,CL (k+1) l⟩;obtain⟨p,w,e⟩:=aD.1 q;have:=xz (k+1) l p w;omega
def LW {w:Mu} {l:Nat->Value} {q:oC} {u:Value} (h:O0 w l q u):O0 w l (Ii (VN q)) u:=by cases q with
 |v a=>cases a with
  |self n=>simp only[O0,rep] at h
  |_=>exact h
 |r n=>exact h
 |p n=>obtain⟨b,z,rfl⟩:=h;show _=fH _;rw[z];rfl
def BF {I:Mu} {q:Nat->Value} {F:SV} {x:AV} {u:Value} (h:wY F=some x) (z:fQ I q F u):fQ I q (zc x) u:=by
 unfold wY at h;split at h
 .injection h with h;subst h;exact z
 .injection h with h;subst h;obtain⟨b,w,rfl⟩:=z;show _=fH _;rw[w];rfl
 .rename_i B;cases l:B.all VO with
  |false=>rw[l] at h;cases h
  |true=>
  rw[l,aj] at h;injection h with h;subst h;obtain⟨H,rfl,w,D⟩:=z;refine⟨H,rfl,?_,D⟩;clear D l;induction B generalizing H with
  |nil=>exact w
  |cons c B K=>obtain⟨v,G,rfl,O,Q⟩:=w;exact⟨v,G,rfl,LW O,K G Q⟩
 .rename_i v;cases l:v.scalar with
  |false=>rw[l] at h;cases h
  |true=>
  rw[l,aj] at h;injection h with h;subst h;cases v<;>first|exact z|cases l
 .cases h
def M3 {q:SV} {x:AV} (h:wY q=some x):∀a b,x≠ .gM [a,b]:=λa b e=>by
 subst e;unfold wY at h;split at h
 .cases h
 .cases h
 .cases l:List.all _ VO<;>rw[l] at h<;>cases h
 .rename_i v;cases l:v.scalar with
  |false=>rw[l] at h;cases h
  |true=>rw[l,aj] at h;injection h with h;subst h;cases l
 .cases h
def Mp {x:AV} (h:∀a b,x≠ .gM [a,b]):vE x=zc x:=by
 unfold vE;split
 .exact absurd rfl (h _ _)
 .rfl
def Vt {B:Mu} {l:Nat->Value} {z:SV} {x:AV} {u:Value} (h:YX z=some x) (w:fQ B l z u):fQ B l (vE x) u:=by
 unfold YX at h;split at h
 .split at h
  .rename_i a b D F;injection h with h;subst h;obtain⟨p,q,e,G,H⟩:=w;exact⟨p,q,e,BF D G,BF F H⟩
  .cases h
 .rw[Mp (M3 h)];exact BF h w
def zF {names:List Nat} {D:Nat->Nat} {l:List Nat} (q:∀j∈names,D j∈l) {B:SV} {x:AV} (h:wY (B.pG D)=some x) (z:B.closed names=true):(zc x).closed l=true:=by cases B with
 |row n=>simp only[SV.pG,wY,aM] at h;subst h;simpa[zc,SV.closed] using q n (by simpa[SV.closed] using z)
 |ptr n K=>
  simp only[SV.pG] at h;unfold wY at h;split at h
  .rename_i e;cases e
  .rename_i e;cases e;injection h with h;subst h;simpa[zc,SV.closed] using q n (by simpa[SV.closed] using z)
  .rename_i e;cases e
  .rename_i e;cases e
  .cases h
 |ag H=>
  simp only[SV.pG,wY] at h;cases w:(H.map (oC.pG D)).all VO with
  |false=>rw[w] at h;cases h
  |true=>
  rw[w,aj,aM] at h;subst h;simp only[zc,SV.closed,List.all_map,cF] at z w⊢;intro c G;have F:=z c G;have I:=w c G;cases c with
  |v a=>cases a with
   |self n=>cases I
   |_=>rfl
  |p n=>simpa[oC.pG,Ii,VN] using q n (by simpa using F)
  |r n=>simpa[oC.pG,Ii,VN] using q n (by simpa using F)
 |pv v=>
  simp only[SV.pG,wY] at h;cases w:v.scalar with
  |false=>rw[w] at h;cases h
  |true=>
  rw[w,aj] at h;injection h with h;subst h;cases v<;>first|rfl|cases w
 |_=>simp[SV.pG,wY] at h
theorem SR {names:List Nat} {B:Nat->Nat} {l:List Nat} (q:∀j∈names,B j∈l) {w:SV} {x:AV} (h:YX (w.pG B)=some x) (D:w.closed names=true):(vE x).closed l=true:=by
 by_cases z:∃s t,w= .two s t
 .obtain⟨s,t,rfl⟩:=z;simp only[SV.pG,YX] at h;split at h
  .rename_i a b G z;injection h with h;subst h;obtain⟨F,c2⟩:=lP.1 D;simp only[vE,SV.closed,aK];exact⟨zF q G F,zF q z c2⟩
  .cases h
 .have e:YX (w.pG B)=wY (w.pG B):=by
   cases w<;>first|exact absurd ⟨_,_,rfl⟩ z|rfl
  rw[e] at h;rw[Mp (M3 h)];exact zF q h D
def TE {P:Program} {h:Hint} {cC:eM} {q:Qp} {B:Mu} {f:Nat} (hok:Dx P=true) (hblk:∀fn c,P.funcs[f]? =some fn->fn.body=some c->qV q B P h fn.ntmps c) (wI:iw q B P cC) {n:Nat} {fn:Func} {c:Code} {args:List SV} {cL V:List (Nat×Ob)} {r:AV} {e:Ex} {st:St}
  (hf:P.funcs[f]? =some fn) (hb:fn.body=some c) (zW:(Nat.ble args.length fn.ntmps&&(cL.map (·.1)).all (λi=> !(iC i)||giv i))=true)
  (hx:exec P h cC n c { env:=find (yZ 0 args),ob:=find cL }=some (e,st)) (hend:Z3 P h.own fn cL e st=some (r,V)):
  ∀(w:World) (μ:Mu) (S:Nat->Value) (us:List Value),B.le μ->Lq μ w->(∀id o,find cL id=some o->ni w.heap.size (gZ q S (cL.map (·.1))) μ S w id o)->VE S cL->ia μ S args us->
   (∀w2,(callFunc f us.toArray).run P w2= .ok (.enter f us.toArray) w2)/\Calls P f us.toArray w λe w'=>∃v μ' loc',e= .returned v/\fF q μ S (cL.map (·.1)) r V w v μ' loc' w':=by
 intro w μ S us hBle oE hobs hap Ag;simp only[aK] at zW;simp only[Dx,aK] at hok;obtain⟨⟨hm,hfuncs⟩,_⟩:=hok;have hfn:T8 fn=true:=cF.1 hfuncs fn (bf (show P.funcs.toList[f]? =some fn by simpa using hf));simp only[T8,hb,aK,gO] at hfn;obtain⟨⟨hsmall,hname⟩,Af⟩:=hfn;have hlen:=qh Ag;have hle:args.length<=fn.ntmps:=ff zW.1;refine⟨λw2=> ?_,?_⟩
 .have hname':¬(fn.name= "runtime.NumGoroutine"):=by simpa using hname
  simp[callFunc,hf,hname',hb]
 refine calls_of_wp hf hb ?_;have hR:Rel fn.ntmps w μ (gZ q S (cL.map (·.1))) μ S { env:=find (yZ 0 args),ob:=find cL } { tmps:=us.toArray++Array.replicate (fn.ntmps-us.toArray.size) undef,defers:=[] } w:=by
  refine⟨ff hsmall,?_,?_,?_,rfl,?_,oE,⟨Mu.le.refl _,λ_ _ _ h=> .inl h⟩,hobs,hap,λ_ _ _=>rfl,rfl,rfl,rfl,aW _,λ_=>aW _⟩
  .intro id R
   have:¬(id∈cL.map (·.1)):=λhm=>by
    have:=cF.1 zW.2 id hm;have h0:iC id=true:=by simp[iC,cz];omega
    rw[h0] at this;simp only[giv,h0,di,ja,rz] at this;have:=ff this;omega
   simp only[gZ,aA this]
  .intro id v hv _ _;simp only[gZ] at hv;split at hv
   .injection hv
   .cases hv
  .simp;omega
  .intro i s hi;obtain⟨k,hk,hs⟩:=Rj args 0 i s hi;obtain⟨u,hu,hr⟩:=MV Ag hs;have hlt:=(bP.1 hu).1;refine⟨u,?_,hr⟩;rw[hk,eN,uB (by simpa using hlt)];simpa using hu
 refine wp_mono (wpIn_wide.1 (T4 (B:=B) hBle (wI.mono hBle) hm n c _ e st Af (hblk fn c hf hb) hx μ S _ w hR _ Wd.wide (.inl rfl))) ?_;rintro e' a' w' ⟨rfl,μ1,D,F⟩;have fin:∀(e:Ex),Z3 P h.own fn cL e st=some (r,V)->(∀id,e≠ .exit id)->a'.defers=[]/\∃v,(results fn a'.tmps).run P w'= .ok v w'/\∃v' μ' loc',Ending.returned v= .returned v'/\fF q μ S (cL.map (·.1)) r V w v' μ' loc' w':=by
  intro e hend hne;have hone:∀t u,fn.results.toList=[.tmp t]->a'.tmps[t]? =some u->(results fn a'.tmps).run P w'= .ok u w':=λt u O hu=>by
   obtain⟨v,hrun,hv⟩:=wT (P:=P) (fn:=fn) (tmps:=a'.tmps) (w:=w') (us:=[u]) (by
    rw[O]
    have:a'.tmps.getD t undef=u:=by simp[hu]
    simp[tn,se,this])
   rcases hv with⟨u',e,rfl⟩|⟨hne,_⟩
   .injection e with e;rw[e];exact hrun
   .simp at hne
  have hone1:∀rv u,fn.results.toList=[rv]->(se a'.tmps rv).run P w'= .ok u w'->(results fn a'.tmps).run P w'= .ok u w':=λrv u O hu=>by
   obtain⟨v,hrun,hv⟩:=wT (P:=P) (fn:=fn) (tmps:=a'.tmps) (w:=w') (us:=[u]) (by
    rw[O]
    simp[tn,hu])
   rcases hv with⟨u',e,rfl⟩|⟨hne,_⟩
   .injection e with e;rw[e];exact hrun
   .simp at hne
  have honeA:∀sv,Vi P st fn.results.toList=some sv->∀{μ1 D},Rel fn.ntmps w μ (gZ q S (cL.map (·.1))) μ1 D st a' w'->∃u,(results fn a'.tmps).run P w'= .ok u w'/\fQ μ1 D sv u:=λsv hv μ1 D F=>by
   unfold Vi at hv;split at hv
   .rename_i rv O;obtain⟨u,hu,hr⟩:=Gc F hv;exact⟨u,hone1 rv _ O hu,hr⟩
   .rename_i rv rq O;split at hv
    .rename_i s1 s2 e1 e2;injection hv with hv;subst hv;obtain⟨u,hu,hr⟩:=Gc F e1;obtain⟨u2,Y6,hr2⟩:=Gc F e2
     obtain⟨v,hrun,hv⟩:=wT (P:=P) (fn:=fn) (tmps:=a'.tmps) (w:=w') (us:=[u,u2]) (by
      rw[O]
      simp[tn,hu,Y6])
     rcases hv with⟨u',e,_⟩|⟨_,rfl⟩
     .simp at e
     .exact⟨_,hrun,_,_,rfl,hr,hr2⟩
    .cases hv
   .cases hv
  have hnB:∀i,i∈((cL.map (·.1)).filter λi=> !(iC i))↔i∈cL.map (·.1)/\10000<=i:=λi=>by
   rw[cE];refine and_congr_right λ_=> ?_
   cases ho:iC i with
   |true=>
        have:i<10000:=by simpa[iC,cz] using ho
        simp;omega
   |false=>
    have:¬i<10000:=λhlt=>by
     have:iC i=true:=by simpa[iC,cz] using hlt
     rw[ho] at this;cases this
    simp;omega
  have z:(bif h.own then match U7 fn st,p9 ((cL.map (·.1)).filter λi=> !(iC i)) st ((cL.map (·.1)).filter λi=> !(iC i)) with
   |some r,some l=>some (r,l)
   |_,_=>NT P fn ((cL.map (·.1)).filter λi=> !(iC i)) st
  else match O7 fn ((cL.map (·.1)).filter λi=> !(iC i)) st with
   |some n=>match p9 ((cL.map (·.1)).filter λi=> !(iC i)) st ((cL.map (·.1)).filter λi=> !(iC i)) with
    |some l=>some (AV.self n,l)
    |none=>none
   |none=>match tf P fn.results.toList st with
   |some (st',vs)=>match p9 ((cL.map (·.1)).filter λi=> !(iC i)) st' ((cL.map (·.1)).filter λi=> !(iC i)) with
    |some l=>some (result vs,l)
    |none=>none
   |none=>none)=some (r,V):=by
   cases e with
   |exit id=>exact absurd rfl (hne id)
   |normal=>exact hend
   |ret=>exact hend
  cases how:h.own with
  |true=>
   rw[how] at z;simp only[aj] at z;split at z
   .rename_i r0 l I U;simp only[aM,bD] at z;obtain⟨rfl,rfl⟩:=z;have G:=AI U;unfold U7 at I;split at I
    .rename_i t O;split at I
     .rename_i id he;split at I
      .rename_i e' sz' xs' R qC;injection I with I;subst I;obtain⟨u,hu,hr⟩:=F.env t _ he;have hr:u=fH (D id):=hr;rw[jj (F.obs id _ qC)] at hr;subst hr;have hidl:id<10000:=by simpa[iC,cz] using R
       obtain⟨us',I,hrc,hblk'⟩:=F.obs id _ qC
       refine⟨F.defers,_,hone t _ O hu,_,μ1,D,rfl,F.base,F.xI, .inr (.inr (.inr ⟨e',sz',xs',us',rfl,I,hrc,λg hg=> ?_⟩)),λid o ho=>F.obs id o (G id o ho),λi j oi oj hi hj=>F.apart i j oi oj (G i oi hi) (G j oj hj),F.keep,
        λid R h9 hlt=>F.fix id (S id) (by simp[gZ,R]) h9 hlt,F.os,F.tape,F.output,F.grown,F.drawn⟩
       have hgb:lE (D id) g:= .inl hg;refine⟨?_,(hblk' g hgb).2,λj o ho hb=> ?_⟩
       .exact F.Bg hidl (hblk' g hgb).1
       .have hj:10000<=j:=by
         have:=aag ho;rw[Ls U] at this;exact((hnB j).1 this).2
        exact F.apart j id o _ (G j o ho) qC (λe=>by omega) g hb hgb
      .cases I
     .cases I
    .cases I
   .have z:NT P fn ((cL.map (·.1)).filter λi=> !(iC i)) st=some (r,V):=z;generalize aaw:((cL.map (·.1)).filter λi=> !(iC i))=names at z hnB;have hno:∀n∈names,¬n<10000:=λn hn hlt=>by
     have:=((hnB n).1 hn).2;omega
    unfold NT at z;split at z
    .rename_i sv he
     .simp only[] at z;generalize hids:(gD st 200 (sv.ids++names.flatMap (B4 st)) []).filter iC=ids at z;have hio:∀id∈ids,id<10000:=λid hi=>by
       rw[<-hids] at hi;simpa[iC,cz] using(cE.1 hi).2
      generalize hnn:ve 0 ids=nn at z;have hn1:nn.map (·.1)=ids:=by rw[<-hnn];exact He _ _
      have hn2:(nn.map (·.2)).Nodup:=by rw[<-hnn];exact CL _ _
      have hn3:∀p∈nn,25000<=p.2:=λp Q=>by have:=xz 0 ids p (by rw[hnn];exact Q);omega
      cases hc:(distinct ids&&names.all (λn=>Nat.blt n 25000)&&sv.closed (names++ids)) with
      |false=>rw[hc] at z;cases z
      |true=>
      rw[hc,aj] at z;simp only[aK,cF] at hc;obtain⟨⟨aaq,hsm⟩,aao⟩:=hc;have hsm:∀n∈names,n<25000:=λn hn=>by simpa[cz] using hsm n hn
      have hnd:=mP aaq;split at z
      .rename_i x l hx hl;simp only[aM,bD] at z;obtain⟨rfl,rfl⟩:=z;obtain⟨Yn,Ui⟩:=xx hl;have G:∀id K,(id,K)∈nn->find nn id=some K:=λid K Q=>jL (by rw[hn1];exact hnd) Q
       have hswap:∀id K,(id,K)∈nn->find (swap nn) K=some id:=λid K Q=>jL (by rw[yt];exact hn2) (Be Q)
       let UL:Nat->Value:=λK=>match find (swap nn) K with
        |some id=>D id
        |none=>D K
       have hlocN:∀id K,(id,K)∈nn->UL K=D id:=λid K Q=>by simp only[UL,hswap id K Q]
       have aav:∀n∈names,UL n=D n:=λn hn=>by cases hf:find (swap nn) n with
        |none=>simp only[UL,hf]
        |some id=>
         have h0:=mR hf
         have:n∈nn.map (·.2):=by rw[<-yt];exact aD.2 ⟨_,h0,rfl⟩
         obtain⟨p,Q,e⟩:=aD.1 this;have F:=hn3 p Q;have h2:=hsm n hn;omega
       have hrenL:∀n∈names,iD nn n=n:=λn hn=>by cases hf:find nn n with
        |none=>simp[iD,hf]
        |some m=>
         have:n∈ids:=by rw[<-hn1];exact aD.2 ⟨_,mR hf,rfl⟩
         exact absurd (hio n this) (hno n hn)
       have hex:∀id∈ids,∃K,(id,K)∈nn:=λid R=>by rw[<-hn1] at R;obtain⟨p,Q,rfl⟩:=aD.1 R;exact⟨p.2,Q⟩
       have hρ:∀j∈names++ids,UL (iD nn j)=D j:=λj hj=>by
        rcases bA.1 hj with hj|hj
        .rw[hrenL j hj,aav j hj]
        .obtain⟨K,Q⟩:=hex j hj
         have:iD nn j=K:=by simp[iD,G j K Q]
         rw[this,hlocN j K Q]
       have hρn:∀j∈names++ids,iD nn j∈l.map (·.1):=λj hj=>by
        rw[Yn];simp only[bZ,fk,bA];rcases bA.1 hj with hj|hj
        .rw[hrenL j hj];exact .inl (by simpa using hj)
        .obtain⟨K,Q⟩:=hex j hj
         have:iD nn j=K:=by simp[iD,G j K Q]
         rw[this];exact .inr (aD.2 ⟨_,Q,rfl⟩)
       have G2:∀id K,(id,K)∈names.map (λn=>(n,n))++nn->(id=K/\K∈names)\/(id,K)∈nn:=λid K Q=>by
        rcases bA.1 Q with Q|Q
        .obtain⟨n,hn,e⟩:=aD.1 Q;simp only[bD] at e;exact .inl ⟨e.1.symm.trans e.2,e.2▸hn⟩
        .exact .inr Q
       have Wc:∀id K,(id,K)∈names.map (λn=>(n,n))++nn->UL K=D id:=λid K Q=>by
        rcases G2 id K Q with⟨rfl,hn⟩|Q
        .exact aav _ hn
        .exact hlocN _ _ Q
       obtain⟨u,hu,hr⟩:=honeA _ he F
       refine⟨F.defers,_,hu,_,μ1,UL,rfl,F.base,F.xI, .inr (.inr (.inl ⟨x,rfl,Vt hx (Kt hρ aao hr),SR hρn hx aao⟩)),λK o ho=> ?_,λi j oi oj hi hj hij=> ?_,F.keep,
        λid R h9 hlt=>(aav id ((hnB id).2 ⟨R,h9⟩)).trans (F.fix id (S id) (by simp[gZ,R]) h9 hlt),F.os,F.tape,F.output,F.grown,F.drawn⟩
       .obtain⟨id,ob,Q,qC,hoc,rfl⟩:=Ui K o (mR ho);refine Kc hρ hoc (F.obs id ob qC) (Wc id K Q) (λb hb=> ?_);have hb':=((F.obs id ob qC).block b hb).1;rcases G2 id K Q with⟨rfl,hn⟩|Q
        .exact hb'
        .have R:id∈ids:=by rw[<-hn1];exact aD.2 ⟨_,Q,rfl⟩
         exact(F.Bg (hio id R) hb').imp (λh=>h) .inl
       .obtain⟨id,ob,Q,qC,_⟩:=Ui i oi (mR hi);obtain⟨id',ob',hp',Ey,_⟩:=Ui j oj (mR hj);intro hg;rw[Wc id i Q];rw[Wc id' j hp'];refine F.apart id id' ob ob' qC Ey (λe=>hij ?_) hg;subst e;rcases G2 id i Q with⟨e1,hn⟩|hq
        .rcases G2 id j hp' with⟨e2,_⟩|hq'
         .exact e1.symm.trans e2
         .exact absurd (hio id (by rw[<-hn1];exact aD.2 ⟨_,hq',rfl⟩)) (hno id (e1▸hn))
        .rcases G2 id j hp' with⟨e2,hn⟩|hq'
         .exact absurd (hio id (by rw[<-hn1];exact aD.2 ⟨_,hq,rfl⟩)) (hno id (e2▸hn))
         .have:=(G id i hq).symm.trans (G id j hq');injection this
      .cases z
    .cases z
  |false=>
  rw[how] at z;simp only[au] at z;split at z
  .rename_i n H;split at z
   .rename_i l U;simp only[aM,bD] at z;obtain⟨rfl,rfl⟩:=z;have G:=AI U;have post:∀v,(∃A m c,D 10000= .slice A m c/\n<=m/\v= .slice A n c)->10000∈cL.map (·.1)->fF q μ S (cL.map (·.1)) (.self n) l w v μ1 D w':=λv ⟨A,m,c,k1,k2,k3⟩ hmem=>
     ⟨F.base,F.xI, .inr (.inl ⟨n,A,m,c,rfl,hmem,k1,k2,k3⟩),λid o ho=>F.obs id o (G id o ho),λi j oi oj hi hj=>F.apart i j oi oj (G i oi hi) (G j oj hj),F.keep,
      λid R h9 hlt=>F.fix id (S id) (by simp[gZ,R]) h9 hlt,F.os,F.tape,F.output,F.grown,F.drawn⟩
    unfold O7 at H;split at H
    .rename_i t O aaw;have hmem:10000∈cL.map (·.1):=((hnB 10000).1 (by rw[aaw];simp)).1;split at H
     .rename_i e' sz' xs' he qC;injection H with H;subst H;obtain⟨u,hu,hr⟩:=F.env t _ he;have hr:u=fH (D 10000):=hr;rw[jj (F.obs 10000 _ qC)] at hr;obtain⟨vs,I,_⟩:=F.obs 10000 _ qC;refine⟨F.defers,u,hone t u O hu,u,μ1,D,rfl,post u ?_ hmem⟩;rcases I.2 with⟨e1,e2⟩|⟨g,cap,cur,e1,_⟩
      .exact⟨none,0,0,e1,by omega,by rw[hr,e1,e2]⟩
      .exact⟨_,_,cap,e1,aW _,by rw[hr,e1]⟩
     .rename_i sz' n' e' sz2 xs' he qC;injection H with H;subst H;obtain⟨u,hu,hr⟩:=F.env t _ he;obtain⟨A,m,c,A',c',k1,_,k2,_,k3,k4,_⟩:=hr;obtain⟨rfl,rfl⟩:=k4 rfl;exact⟨F.defers,u,hone t u O hu,u,μ1,D,rfl,post u ⟨A',m,c',k1,k2,by simpa using k3⟩ hmem⟩
     .cases H
    .cases H
   .cases z
  .rename_i H;split at z
   .rename_i st2 vs ht;split at z
    .rename_i l U;simp only[aM,bD] at z;obtain⟨rfl,rfl⟩:=z;obtain⟨μ2,us2,h2,hle2,hmap,hall⟩:=L2 fn.results.toList F ht;obtain⟨v,hrun,hv⟩:=wT hmap;refine⟨h2.defers,v,hrun,v,μ2,D,rfl,?_⟩;have G:=AI U
     exact⟨h2.base,h2.xI, .inl (Vj hall hv),λid o ho=>h2.obs id o (G id o ho),λi j oi oj hi hj=>h2.apart i j oi oj (G i oi hi) (G j oj hj),h2.keep,
      λid R h9 hlt=>h2.fix id (S id) (by simp[gZ,R]) h9 hlt,h2.os,h2.tape,h2.output,h2.grown,h2.drawn⟩
    .cases z
   .cases z
 cases e with
 |exit id=>simp[Z3,Z4] at hend
 |normal=>exact fin .normal hend ai
 |ret=>exact fin .ret hend ai
