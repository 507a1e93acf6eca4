/- THE ABSTRACT MACHINE. -/
import Derived.Test.YtfoddgpndoeeaaaGreatDoorAmDraw
set_option linter.unusedVariables false
set_option linter.unusedSimpArgs false
namespace Go.AM
open Go.RowKit
def Ex.exit':Ex→Exit
 | .normal=> .normal
 | .exit id=> .exit id
 | .ret=> .ret
section
variable {P:Program} {N:Nat} {w0:World} {μ0:Mu} {L:ku} {h:Hint} {aV:cQ}
def JK (N:Nat) (w0:World) (μ0:Mu) (L:ku) (e:Ex) (st:St):Exit→Act→World→Prop:=fun e' a' w'=>e'=e.exit'∧∃μ' loc',Rel N w0 μ0 L μ' loc' st a' w'
theorem Rel.canon {μ:Mu} {loc:Nat→Value} {st:St} {a:Act} {w:World} (hR:Rel N w0 μ0 L μ loc st a w) (h:Hint) (key:Nat):Rel N w0 μ0 L μ loc (h.canon key st) a w:=by
 have get:∀{α:Type} (m:Nat→Option α) (l:List Nat) (i:Nat) (v:α),find (kS m l) i=some v→m i=some v:=by
  intro α m l
  induction l with
  |nil=>intro i v hv;simp [kS,find] at hv
  |cons j l ih=>
   intro i v hv;simp only [kS] at hv;split at hv
   ·rename_i x hx
    simp only [find] at hv;cases hb:Nat.beq j i with
    |true=>simp only [hb,cond_true,Option.some.injEq] at hv;subst hv;rw [←beq_iff.1 hb];exact hx
    |false=>simp only [hb,cond_false] at hv;exact ih i v hv
   ·exact ih i v hv
 unfold Hint.canon;split
 rotate_left
 ·exact hR
 exact ⟨hR.small,hR.names,hR.fix,hR.size,hR.defers,fun i s hi=>hR.env i s (get _ _ _ _ hi),hR.ou,hR.base,fun i o hi=>hR.obs i o (get _ _ _ _ hi),
  fun i j oi oj hi hj=>hR.apart i j oi oj (get _ _ _ _ hi) (get _ _ _ _ hj),hR.keep,hR.os,hR.tape,hR.output,hR.grown,hR.drawn⟩
theorem Rel.drew {μ:Mu} {loc:Nat→Value} {st:St} {a:Act} {w:World} (hR:Rel N w0 μ0 L μ loc st a w):Rel N w0 μ0 L μ loc st a { w with drawn:=w.drawn+1 }:=
 ⟨hR.small,hR.names,hR.fix,hR.size,hR.defers,hR.env,hR.ou,hR.base,fun i o hi=>by
  have:=hR.obs i o hi;cases o with
  |box t cells=>exact this
  |mp k e ks vs=>exact this
  |mr k e s ks vs=>exact this
  |rn e s k e' s' xs ys=>exact this
  |it s n=>exact this
  |row e sz xs=>exact this,hR.apart,hR.keep,hR.os,hR.tape,hR.output,hR.grown,fun q=>Nat.le_succ_of_le (hR.drawn q)⟩
theorem uY:∀{l:List Nat} {st st':St} {μ:Mu} {loc:Nat→Value} {a:Act} {w:World},Rel N w0 μ0 L μ loc st a w→pR l st=some st'→∃μ',Rel N w0 μ0 L μ' loc st' a w
 |[],st,st',μ,loc,a,w,hR,hv=>by simp only [pR,Option.some.injEq] at hv;subst hv;exact ⟨μ,hR⟩
 |id::l,st,st',μ,loc,a,w,hR,hv=>by
  simp only [pR] at hv;obtain ⟨st1,h1,h2⟩:=Option.bind_eq_some_iff.1 hv;obtain ⟨μ1,_,zd⟩:∃μ',μ.le μ'∧Rel N w0 μ0 L μ' loc st1 a w:=by
   unfold St.zO at h1;split at h1
   ·exact hR.gQ h1
   ·injection h1 with h1;subst h1;exact ⟨μ,Mu.le.refl _,hR⟩
   ·exact hR.bZ h1
  exact uY zd h2
theorem zP {st st':St} {μ:Mu} {loc:Nat→Value} {a:Act} {w:World} {id:Nat} (hR:Rel N w0 μ0 L μ loc st a w) (hv:h.O0 id st=some st'):∃μ',Rel N w0 μ0 L μ' loc st' a w:=by
 unfold Hint.O0 at hv;split at hv
 ·exact uY hR hv
 ·injection hv with hv;subst hv;exact ⟨μ,hR⟩
def yC (q:Prop) (B:Mu) (P:Program) (N:Nat) (c:Code) (g:St→Bool) (F:St→Nat×St):Prop:=
 ∀(w0:World) (μ0:Mu) (L:ku) (μ:Mu) (loc:Nat→Value) (st:St) (a:Act) (w:World),L.q=q→B.le μ0→g st=true→Rel N w0 μ0 L μ loc st a w→c.wp P (JK N w0 μ0 L (SB (F st).1) (F st).2) a w
def gG (q:Prop) (B:Mu) (P:Program) (h:Hint) (N:Nat):Code→Prop
 | .seq a b=>match find h.blk (bY a) with
  |some x=>yC q B P N (.seq a b) x.1 x.2
  |none=>gG q B P h N a∧gG q B P h N b
 | .cond _ a b=>gG q B P h N a∧gG q B P h N b
 | .block _ c=>gG q B P h N c
 | .loop c=>gG q B P h N c
 | .scope c=>gG q B P h N c
 |_=>True
theorem gG.none {q:Prop} {B:Mu} {P:Program} {h:Hint} {N:Nat} (hb:h.blk=[]):∀c:Code,gG q B P h N c:=by
 intro c
 induction c with
 |seq x y Kb Ln=>simp only [gG,hb,find];exact ⟨Kb,Ln⟩
 |cond c x y Kb Ln=>exact ⟨Kb,Ln⟩
 |block id c ih=>exact ih
 |loop c ih=>exact ih
 |scope c ih=>exact ih
 |_=>trivial
theorem su {F:Fence} {n:Nat} {Q:Exit→Act→World→Prop} {a:Act} {w:World} {c:Code} (hs:c.wpIn F n P (Exit.noGoto Q) a w):(Code.scope c).wpIn F n P Q a w:=by
 intro b k cs hro hb hr;have h0:(lone (b.atR a (.code (.scope c)::k)) cs w).fenced P F:=fenced_calm hb hr rfl;have s1:Go.step P (lone (b.atR a (.code (.scope c)::k)) cs w)= .next (lone (b.atR a (.code c:: .inScope c::k)) cs w):=step_lone_go (by simp [stepG,stepG.exec,Frame.atR]);obtain ⟨e,a₁,w₁,hq,Lb⟩:=hs b (.inScope c::k) cs hro hb hr;cases e with
 |normal=>
  have s2:Go.step P (lone (b.atR a₁ (.inScope c::k)) cs w₁)= .next (lone (b.atR a₁ k) cs w₁):=step_lone_go (by simp [stepG,stepG.exec,Frame.atR]);exact ⟨.normal,a₁,w₁,hq, .head h0 s1 (StepsIn.trans Lb (.one (fenced_calm hb hr rfl) s2))⟩
 |exit id=>
  have hx:exitTo id (.inScope c::k)=exitTo id k:=by simp [exitTo]
  exact ⟨_,a₁,w₁,hq,fun k' hk=> .head h0 s1 (Lb.1 k' (by rw [hx];exact hk)),fun hr' hk=>let ⟨k₁,h1,h2⟩:=Lb.2 hr' (by rw [hx];exact hk);⟨k₁,h1, .head h0 s1 h2⟩⟩
 |goto l=>exact hq.elim
 |ret=>exact ⟨_,a₁,w₁,hq, .of_steps (.one h0 s1) Lb⟩
 |panic ch=>exact ⟨_,a₁,w₁,hq, .of_steps (.one h0 s1) Lb⟩
 |outgrown=>exact ⟨_,a₁,w₁,hq, .of_steps (.one h0 s1) Lb⟩
theorem yY {B:Mu} (Qe:B.le μ0) (eB:dD L.q μ0 P aV) (hm:P.follows .mixedOrders=true) (n:Nat):∀(c:Code) (st:St) (e:Ex) (st':St),gP N c=true→gG L.q B P h N c→exec P h aV n c st=some (e,st')→
  ∀(μ:Mu) (loc:Nat→Value) (a:Act) (w:World),Rel N w0 μ0 L μ loc st a w→∀F,Wd F→(F.round=none∨h.blk=[])→c.wpIn F 0 P (JK N w0 μ0 L e st') a w:=by
 intro c
 induction c with
 |skip=>intro st e st' _ _ hv μ loc a w hR F hF hro;simp only [exec,Option.some.injEq,Prod.mk.injEq] at hv;obtain ⟨rfl,rfl⟩:=hv;exact wpIn_skip ⟨rfl,μ,loc,hR⟩
 |label l=>intro st e st' _ _ hv μ loc a w hR F hF hro;simp only [exec,Option.some.injEq,Prod.mk.injEq] at hv;obtain ⟨rfl,rfl⟩:=hv;exact wpIn_label ⟨rfl,μ,loc,hR⟩
 |exit id=>intro st e st' _ _ hv μ loc a w hR F hF hro;simp only [exec,Option.some.injEq,Prod.mk.injEq] at hv;obtain ⟨rfl,rfl⟩:=hv;exact wpIn_exit ⟨rfl,μ,loc,hR⟩
 |ret=>intro st e st' _ _ hv μ loc a w hR F hF hro;simp only [exec,Option.some.injEq,Prod.mk.injEq] at hv;obtain ⟨rfl,rfl⟩:=hv;exact wpIn_ret ⟨rfl,μ,loc,hR⟩
 |region id ops draw=>
  intro st e st' hok hbk hv μ loc a w hR F hF hro;have hd:∀o∈ops.toList,∀i,o.dst=some i→i<N:=fun o ho i hi=>by
   simp only [gP,List.all_eq_true] at hok;have:=hok o ho;simpa [hi,Nat.blt_eq] using this
  simp only [exec] at hv;obtain ⟨st1,fm,hv⟩:=Option.bind_eq_some_iff.1 hv;obtain ⟨μ1,zd⟩:=zP hR fm;clear hR;have hR:=zd;cases draw with
  |true=>
   simp only [cond_true] at hv;cases hs:kC 0 ops.toList with
   |false=>simp [hs] at hv
   |true=>
    simp only [hs,cond_true] at hv;cases hr:eV P h aV ops 0 ops.toList [] (jX (nI ops.toList) st1) with
    |none=>simp [hr] at hv
    |some s=>
     simp [hr] at hv;obtain ⟨rfl,rfl⟩:=hv;exact wpIn_region_any hm (HA eB hs hr hd (fun a' w' μ' loc' h'=>⟨rfl,μ',loc',h'⟩) hR.drew hF)
  |false=>
   simp only [cond_false] at hv;cases hr:iT P h aV ops ops.toList st1 with
   |none=>simp [hr] at hv
   |some s=>
    simp [hr] at hv;obtain ⟨rfl,rfl⟩:=hv;exact wpIn_region_list (va eB hR hd hr (fun a' w' μ' loc' h'=>⟨rfl,μ',loc',h'⟩) F hF)
 |seq x y Kb Ln=>
  intro st e st' hok hbk hv μ loc a w hR F hF hro;simp only [gP,Bool.and_eq_true] at hok;simp only [exec] at hv;simp only [gG] at hbk;cases ym:find h.blk (bY x) with
  |some z=>
   simp only [ym] at hv hbk;cases hg:z.1 st with
   |false=>simp [hg] at hv
   |true=>
    simp only [hg,cond_true,Option.some.injEq,Prod.mk.injEq] at hv;obtain ⟨rfl,rfl⟩:=hv;rcases hro with hro|hro
    ·rw [hF.plain hro,wpIn_wide];exact hbk w0 μ0 L μ loc st a w rfl Qe hg hR
    ·rw [hro] at ym;cases ym
  |none=>
  simp only [ym] at hv hbk;refine wpIn_seq ?_;split at hv
  ·rename_i st1 hx
   refine wpIn_mono (Kb st _ _ hok.1 hbk.1 hx μ loc a w hR F hF hro) ?_
   rintro e' a' w' ⟨rfl,μ',loc',h'⟩
   exact Ln st1 e st' hok.2 hbk.2 hv μ' loc' a' w' h' F hF hro
  ·rename_i hne
   refine wpIn_mono (Kb st e st' hok.1 hbk.1 hv μ loc a w hR F hF hro) ?_
   rintro e' a' w' ⟨rfl,μ',loc',h'⟩
   cases e with
   |normal=>exact absurd hv (hne st')
   |exit id=>exact ⟨rfl,μ',loc',h'⟩
   |ret=>exact ⟨rfl,μ',loc',h'⟩
 |cond c x y Kb Ln=>
  intro st e st' hok hbk hv μ loc a w hR F hF hro;simp only [gP,Bool.and_eq_true] at hok;simp only [exec] at hv;split at hv
  ·rename_i t hc
   have Po:=aG hR hc;simp only [cH,rep] at Po;cases t with
   |true=>exact wpIn_cond_true Po (Kb st e st' hok.1 hbk.1 hv μ loc a w hR F hF hro)
   |false=>exact wpIn_cond_false Po (Ln st e st' hok.2 hbk.2 hv μ loc a w hR F hF hro)
  ·cases hv
 |block id c ih=>
  intro st e st' hok hbk hv μ loc a w hR F hF hro;simp only [gP] at hok;simp only [exec] at hv;refine wpIn_block ?_;split at hv
  ·rename_i j st1 hx
   refine wpIn_mono (ih st _ _ hok hbk hx μ loc a w hR F hF hro) ?_
   rintro e' a' w' ⟨rfl,μ',loc',h'⟩
   cases hb:Nat.beq j id with
   |true=>
    simp only [hb,cond_true,Option.some.injEq,Prod.mk.injEq] at hv;obtain ⟨rfl,rfl⟩:=hv;have:=beq_iff.1 hb;subst this;simp only [Ex.exit',Exit.inBlock,if_true];exact ⟨rfl,μ',loc',h'⟩
   |false=>
    simp only [hb,cond_false,Option.some.injEq,Prod.mk.injEq] at hv;obtain ⟨rfl,rfl⟩:=hv;have:j≠id:=fun e=>by subst e;simp [Nat.beq_refl] at hb
    simp only [Ex.exit',Exit.inBlock,if_neg this];exact ⟨rfl,μ',loc',h'⟩
  ·rename_i hne
   refine wpIn_mono (ih st e st' hok hbk hv μ loc a w hR F hF hro) ?_
   rintro e' a' w' ⟨rfl,μ',loc',h'⟩
   cases e with
   |normal=>exact ⟨rfl,μ',loc',h'⟩
   |exit id=>exact absurd hv (hne _ _)
   |ret=>exact ⟨rfl,μ',loc',h'⟩
 |loop c ih=>
  intro st e st' hok hbk hv μ loc a w hR F hF hro;simp only [gP] at hok;simp only [exec] at hv;refine wpIn_loop_rounds n ?_;have key:∀(k:Nat) (st:St) (μ:Mu) (loc:Nat→Value) (a:Act) (w:World),Rel N w0 μ0 L μ loc st a w→iter h (bY c) (exec P h aV n c) k st=some (e,st')→Code.roundsIn F 0 P c (JK N w0 μ0 L e st') k a w:=by
   intro k
   induction k with
   |zero=>intro st μ loc a w _ hv;simp [iter] at hv
   |succ k ihk=>
    intro st μ loc a w hR hv;rw [roundsIn_succ];simp only [iter] at hv;split at hv
    ·rename_i st1 hx
     refine wpIn_mono (ih _ _ _ hok hbk hx μ loc a w (hR.canon h _) F hF hro) ?_
     rintro e' a' w' ⟨rfl,μ',loc',h'⟩
     exact ihk st1 μ' loc' a' w' h' hv
    ·rename_i hne
     refine wpIn_mono (ih _ _ _ hok hbk hv μ loc a w (hR.canon h _) F hF hro) ?_
     rintro e' a' w' ⟨rfl,μ',loc',h'⟩
     cases e with
     |normal=>exact absurd hv (hne _)
     |exit id=>exact ⟨rfl,μ',loc',h'⟩
     |ret=>exact ⟨rfl,μ',loc',h'⟩
  exact key n st μ loc a w hR hv
 |scope c ih=>
  intro st e st' hok hbk hv μ loc a w hR F hF hro;simp only [gP] at hok;simp only [exec] at hv;refine su ?_;refine wpIn_mono (ih st e st' hok hbk hv μ loc a w hR F hF hro) ?_
  rintro e' a' w' ⟨rfl,μ',loc',h'⟩
  cases e<;>exact ⟨rfl,μ',loc',h'⟩
 |rangeFunc f ps x y Kb Ln=>intro st e st' _ _ hv;simp [exec] at hv
 |goto l=>intro st e st' _ _ hv;simp [exec] at hv
 |refuse s=>intro st e st' _ _ hv;simp [exec] at hv
theorem A6 {μ:Mu} {loc:Nat→Value} {st st':St} {a:Act} {w:World} (hR:Rel N w0 μ0 L μ loc st a w) {id:Nat} (hv:st.DS id=some st'):∃μ',μ.le μ'∧Rel N w0 μ0 L μ' loc st' a w:=by
 unfold St.DS at hv;split at hv
 ·obtain ⟨st1,h1,h2⟩:=Option.bind_eq_some_iff.1 hv
  obtain ⟨μ1,hle,zd⟩:=jV hR h1;obtain ⟨μ2,hle2,J4⟩:=zd.gQ h2;exact ⟨μ2,hle.trans hle2,J4⟩
 ·cases hv
theorem A7 {μ:Mu} {loc:Nat→Value} {st st':St} {a:Act} {w:World} (hR:Rel N w0 μ0 L μ loc st a w) {t:Nat} {v:AV} (hv:DT st t=some (st',v)):
  ∃μ',Rel N w0 μ0 L μ' loc st' a w∧μ.le μ'∧rep μ' v (a.tmps.getD t undef):=by
 have get:∀{μ:Mu} {st:St},Rel N w0 μ0 L μ loc st a w→st.env t=some (.pv v)→rep μ v (a.tmps.getD t undef):=fun hR he=>by
  obtain ⟨u,hu,hr⟩:=hR.env t _ he;have:a.tmps.getD t undef=u:=by simp [hu]
  rw [this];exact hr
 unfold DT at hv;split at hv
 ·rename_i v' he
  simp only [Option.some.injEq,Prod.mk.injEq] at hv;obtain ⟨rfl,rfl⟩:=hv;exact ⟨μ,hR,Mu.le.refl _,get hR he⟩
 ·rename_i id he
  split at hv
  ·rename_i st1 hp
   split at hv
   ·rename_i cs he'
    simp only [Option.some.injEq,Prod.mk.injEq] at hv;obtain ⟨rfl,rfl⟩:=hv;obtain ⟨μ',hle,h'⟩:=A6 hR hp;obtain ⟨u,hu,hr⟩:=h'.env t _ he';have e:a.tmps.getD t undef=u:=by simp [hu]
    refine ⟨μ',h',hle,?_⟩;rw [e,rep];obtain ⟨b,off,vs,e1,hc,hm⟩:=hr;exact ⟨b,off,vs,e1,hc.1,hc.2,hm⟩
   ·cases hv
  ·cases hv
 ·rename_i id he
  split at hv
  ·rename_i st1 hp
   split at hv
   ·rename_i v' he'
    simp only [Option.some.injEq,Prod.mk.injEq] at hv;obtain ⟨rfl,rfl⟩:=hv;obtain ⟨μ',hle,h'⟩:=hR.bZ hp;exact ⟨μ',h',hle,get h' he'⟩
   ·cases hv
  ·cases hv
 ·cases hv
def mH (tmps:Array Value):ResultVar→Sem Value
 | .tmp t=>pure (tmps.getD t undef)
 | .cell a t=>do loadVar t (←asAddr (tmps.getD a undef))
theorem FQ {μ:Mu} {loc:Nat→Value} {st:St} {a:Act} {w:World} (hR:Rel N w0 μ0 L μ loc st a w) {ad:Nat} {t:TypeId} {sv:SV} (hv:cD P ⟨none, .load t (.tmp ad),t, "", #[],none⟩ st=some sv):
  ∃v,(mH a.tmps (.cell ad t)).run P w= .ok v w∧cH μ loc sv v:=by
 obtain ⟨v,hr,hs⟩:=pV hR hv;refine ⟨v,?_,hs⟩;have he:a.eval (.tmp ad)=a.tmps.getD ad undef:=rfl;simp only [execOp,Sem.run_bind] at hr;rw [he] at hr;cases hx:a.tmps.getD ad undef with
 |pointer p=>
  cases p with
  |none=>rw [hx] at hr;simp [Instr.loadAt,Instr.sureAddr] at hr
  |some q=>
   rw [hx] at hr;simp only [Instr.loadAt,Instr.sureAddr,Sem.run_bind,Sem.run_pure,Result.andThen_ok] at hr;simp only [mH,hx,asAddr,Sem.run_bind,Sem.run_pure,Result.andThen_ok];cases hl:(loadVar t q).run P w with
   |ok u w'=>
    rw [hl] at hr;simp only [Result.andThen_ok,Result.ok.injEq,Next.value.injEq] at hr;rw [hr.1,hr.2]
   |halt x w'=>rw [hl] at hr;simp at hr
 |_=>rw [hx] at hr;simp [Instr.loadAt,Instr.sureAddr] at hr
theorem Bf:∀(l:List ResultVar) {μ:Mu} {loc:Nat→Value} {st st':St} {a:Act} {w:World} {vs:List AV},Rel N w0 μ0 L μ loc st a w→kV P l st=some (st',vs)→
  ∃μ' us,Rel N w0 μ0 L μ' loc st' a w∧μ.le μ'∧(l.mapM (mH a.tmps)).run P w= .ok us w∧aU μ' vs us:=by
 intro l
 induction l with
 |nil=>
  intro μ loc st st' a w vs hR hv;simp only [kV,Option.some.injEq,Prod.mk.injEq] at hv;obtain ⟨rfl,rfl⟩:=hv;exact ⟨μ,[],hR,Mu.le.refl _,rfl,cu⟩
 |cons x l ih=>
  intro μ loc st st' a w vs hR hv;have join:∀{μ1:Mu} {st1:St} {v:AV} {u:Value} {Un:List AV},Rel N w0 μ0 L μ1 loc st1 a w→μ.le μ1→(mH a.tmps x).run P w= .ok u w→rep μ1 v u→kV P l st1=some (st',Un)→vs=v::Un→
    ∃μ' us,Rel N w0 μ0 L μ' loc st' a w∧μ.le μ'∧((x::l).mapM (mH a.tmps)).run P w= .ok us w∧aU μ' vs us:=by
   intro μ1 st1 v u Un h1 hle hr oT ht e;obtain ⟨μ2,us,h2,hle2,hm,hall⟩:=ih h1 ht;refine ⟨μ2,u::us,h2,hle.trans hle2,?_,by rw [e];exact bA (ri hle2 _ _ oT) hall⟩;simp [List.mapM_cons,hr,hm]
  cases x with
  |tmp t=>
   simp only [kV] at hv;split at hv
   ·rename_i st1 v hp
    split at hv
    ·rename_i st2 Un ht
     simp only [Option.some.injEq,Prod.mk.injEq] at hv;obtain ⟨rfl,rfl⟩:=hv;obtain ⟨μ1,h1,hle,oT⟩:=A7 hR hp;exact join h1 hle rfl oT ht rfl
    ·cases hv
   ·cases hv
  |cell ad t=>
   simp only [kV] at hv;split at hv
   ·rename_i v hp
    split at hv
    ·rename_i st2 Un ht
     simp only [Option.some.injEq,Prod.mk.injEq] at hv;obtain ⟨rfl,rfl⟩:=hv;obtain ⟨u,hr,oT⟩:=FQ hR hp;exact join hR (Mu.le.refl _) hr oT ht rfl
    ·cases hv
   ·rename_i id hp
    split at hv
    ·rename_i st1 fm
     split at hv
     ·rename_i v hp1
      split at hv
      ·rename_i st2 Un ht
       simp only [Option.some.injEq,Prod.mk.injEq] at hv;obtain ⟨rfl,rfl⟩:=hv;obtain ⟨μ1,hle,h1⟩:=hR.bZ fm;obtain ⟨u,hr,oT⟩:=FQ h1 hp1;exact join h1 hle hr oT ht rfl
      ·cases hv
     ·cases hv
    ·cases hv
   ·cases hv
theorem xO {fn:Func} {tmps:Array Value} {w:World} {us:List Value} (h:(fn.results.toList.mapM (mH tmps)).run P w= .ok us w):
  ∃v,(results fn tmps).run P w= .ok v w∧((∃u,us=[u]∧v=u)∨(us.length≠1∧v= .tuple us.toArray)):=by
 have e:(results fn tmps)=(do
   let vs←fn.results.mapM (mH tmps)
   pure (if h:vs.size=1 then vs[0] else .tuple vs)):=by
  unfold results
  congr 1
 rw [e];obtain ⟨l⟩:∃l,fn.results=⟨l⟩:=⟨fn.results.toList,by simp⟩
 have hm:(fn.results.mapM (mH tmps)).run P w= .ok us.toArray w:=by
  rename_i hl;rw [hl] at h⊢;simp only at h;have:(List.toArray l).mapM (mH tmps)=Functor.map List.toArray (l.mapM (mH tmps)):=List.mapM_toArray ..;rw [show (⟨l⟩:Array ResultVar)=l.toArray from rfl,this];simp [h]
 simp only [Sem.run_bind,hm,Result.andThen_ok,Sem.run_pure];by_cases hs:us.length=1
 ·match us,hs with
  |[u],_=>exact ⟨u,by simp, .inl ⟨u,rfl,rfl⟩⟩
 ·exact ⟨.tuple us.toArray,by simp [hs], .inr ⟨hs,rfl⟩⟩
theorem Jo {μ:Mu} {vs:List AV} {us:List Value} {v:Value} (hall:aU μ vs us) (hv:(∃u,us=[u]∧v=u)∨(us.length≠1∧v= .tuple us.toArray)):rep μ (result vs) v:=by
 have hl:=kU hall;rcases hv with ⟨u,rfl,rfl⟩|⟨hne,rfl⟩
 ·match vs,hl with
  |[x],_=>
   rw [aU] at hall;obtain ⟨u',us',e,h1,_⟩:=hall;injection e with e1 e2
   subst e1;exact h1
 ·have:result vs= .e9 vs:=by
   match vs,hl with
   |[],_=>rfl
   |[x],hl=>exact absurd (by simpa using hl) hne
   |_::_::_,_=>rfl
  rw [this,rep];exact ⟨us,rfl,hall⟩
theorem qE {names:List Nat} {st:St}:∀{l:List Nat} {bG:List (Nat×Ob)},iz names st l=some bG→∀id o,find bG id=some o→st.ob id=some o:=by
 intro l
 induction l with
 |nil=>intro bG hv id o hf;simp only [iz,Option.some.injEq] at hv;subst hv;simp [find] at hf
 |cons j l ih=>
  intro bG hv id o hf;simp only [iz] at hv;split at hv
  ·rename_i oj os Nz hos
   cases hc:oj.closed names with
   |false=>simp [hc] at hv
   |true=>
    simp only [hc,cond_true,Option.some.injEq] at hv;subst hv;simp only [find] at hf;cases hb:Nat.beq j id with
    |true=>simp only [hb,cond_true,Option.some.injEq] at hf;subst hf;rw [←beq_iff.1 hb];exact Nz
    |false=>simp only [hb,cond_false] at hf;exact ih hos id o hf
  ·cases hv
theorem AN {names:List Nat} {st:St}:∀{l:List Nat} {bG:List (Nat×Ob)},iz names st l=some bG→bG.map (·.1)=l:=by
 intro l
 induction l with
 |nil=>intro bG hv;simp only [iz,Option.some.injEq] at hv;subst hv;rfl
 |cons j l ih=>
  intro bG hv;simp only [iz] at hv;split at hv
  ·rename_i oj os Nz hos
   cases hc:oj.closed names with
   |false=>simp [hc] at hv
   |true=>
    simp only [hc,cond_true,Option.some.injEq] at hv;subst hv;simp [ih hos]
  ·cases hv
theorem Fk:∀(l:List SV) (i j:Nat) (s:SV),find (oG i l) j=some s→∃k,j=i+k∧l[k]? =some s:=by
 intro l
 induction l with
 |nil=>intro i j s hf;simp [oG,find] at hf
 |cons x l ih=>
  intro i j s hf;simp only [oG,find] at hf;cases hb:Nat.beq i j with
  |true=>simp only [hb,cond_true,Option.some.injEq] at hf;subst hf;exact ⟨0,by have:=beq_iff.1 hb;omega,rfl⟩
  |false=>
   simp only [hb,cond_false] at hf;obtain ⟨k,rfl,hk⟩:=ih (i+1) j s hf;exact ⟨k+1,by omega,by simpa using hk⟩
theorem Nf {α:Type}:∀{l:List (Nat×α)} {i:Nat} {v:α},find l i=some v→i∈l.map (·.1):=by
 intro l
 induction l with
 |nil=>intro i v hf;simp [find] at hf
 |cons x l ih=>
  intro i v hf;obtain ⟨j,u⟩:=x;simp only [find] at hf;cases hb:Nat.beq j i with
  |true=>simp [beq_iff.1 hb]
  |false=>simp only [hb,cond_false] at hf;simp only [List.map_cons,List.mem_cons];exact .inr (ih hf)
end
theorem Hs {P:Program} {h:Hint} {aV:cQ} {q:Prop} {B:Mu} {f:Nat} (hok:vZ P=true) (hblk:∀fn c,P.funcs[f]? =some fn→fn.body=some c→gG q B P h fn.ntmps c) (eB:dD q B P aV) {n:Nat} {fn:Func} {c:Code} {args:List SV} {bG de:List (Nat×Ob)} {r:AV} {e:Ex} {st:St}
  (hf:P.funcs[f]? =some fn) (hb:fn.body=some c) (c9:(Nat.ble args.length fn.ntmps&&(bG.map (·.1)).all (fun i=> !(ot i)))=true)
  (hx:exec P h aV n c { env:=find (oG 0 args),ob:=find bG }=some (e,st)) (hend:MZ P h.own fn bG e st=some (r,de)):
  ∀(w:World) (μ:Mu) (loc:Nat→Value) (us:List Value),B.le μ→Mk μ w→(∀id o,find bG id=some o→gB w.heap.size (gi q loc (bG.map (·.1))) μ loc w id o)→JL loc bG→dZ μ loc args us→
   (∀w2,(callFunc f us.toArray).run P w2= .ok (.enter f us.toArray) w2)∧Calls P f us.toArray w fun e w'=>∃v μ' loc',e= .returned v∧eD q μ loc (bG.map (·.1)) r de w v μ' loc' w':=by
 intro w μ loc us Qe fm qP hap ua;simp only [Bool.and_eq_true] at c9;simp only [vZ,Bool.and_eq_true] at hok;obtain ⟨hm,SY⟩:=hok;have hfn:HO fn=true:=List.all_eq_true.1 SY fn (List.mem_of_getElem? (show P.funcs.toList[f]? =some fn by simpa using hf));simp only [HO,hb,Bool.and_eq_true,Bool.not_eq_true'] at hfn;obtain ⟨⟨hsmall,hname⟩,b9⟩:=hfn;have hlen:=iJ ua;have hle:args.length≤fn.ntmps:=Nat.le_of_ble_eq_true c9.1;refine ⟨fun w2=> ?_,?_⟩
 ·have S4:¬(fn.name= "runtime.NumGoroutine"):=by simpa using hname
  simp [callFunc,hf,S4,hb]
 refine calls_of_wp hf hb ?_;have hR:Rel fn.ntmps w μ (gi q loc (bG.map (·.1))) μ loc { env:=find (oG 0 args),ob:=find bG } { tmps:=us.toArray++Array.replicate (fn.ntmps-us.toArray.size) undef,defers:=[] } w:=by
  refine ⟨Nat.le_of_ble_eq_true hsmall,?_,?_,?_,rfl,?_,fm,⟨Mu.le.refl _,fun _ _ _ h=> .inl h⟩,qP,hap,fun _ _ _=>rfl,rfl,rfl,rfl,Nat.le_refl _,fun _=>Nat.le_refl _⟩
  ·intro id hid
   have:¬(id∈bG.map (·.1)):=fun hm=>by
    have:=List.all_eq_true.1 c9.2 id hm;have h0:ot id=true:=by simpa [ot,Nat.blt_eq] using hid
    rw [h0] at this;cases this
   simp only [gi,if_neg this]
  ·intro id v hv _
   simp only [gi] at hv;split at hv
   ·injection hv
   ·cases hv
  ·simp;omega
  ·intro i s hi
   obtain ⟨k,hk,hs⟩:=Fk args 0 i s hi;obtain ⟨u,hu,hr⟩:=Ca ua hs;have hlt:=(List.getElem?_eq_some_iff.1 hu).1;refine ⟨u,?_,hr⟩;rw [hk,Nat.zero_add,Array.getElem?_append_left (by simpa using hlt)];simpa using hu
 refine wp_mono (wpIn_wide.1 (yY (B:=B) Qe (eB.mono Qe) hm n c _ e st b9 (hblk fn c hf hb) hx μ loc _ w hR _ Wd.wide (.inl rfl))) ?_
 rintro e' a' w' ⟨rfl,μ1,Df,h1⟩
 have fin:∀(e:Ex),MZ P h.own fn bG e st=some (r,de)→(∀id,e≠ .exit id)→a'.defers=[]∧∃v,(results fn a'.tmps).run P w'= .ok v w'∧∃v' μ' loc',Ending.returned v= .returned v'∧eD q μ loc (bG.map (·.1)) r de w v' μ' loc' w':=by
  intro e hend hne;have hone:∀t u,fn.results.toList=[.tmp t]→a'.tmps[t]? =some u→(results fn a'.tmps).run P w'= .ok u w':=fun t u hres hu=>by
   obtain ⟨v,hrun,hv⟩:=xO (P:=P) (fn:=fn) (tmps:=a'.tmps) (w:=w') (us:=[u]) (by
    rw [hres];have:a'.tmps.getD t undef=u:=by simp [hu]
    simp [List.mapM_cons,mH,this])
   rcases hv with ⟨u',e,rfl⟩|⟨hne,_⟩
   ·injection e with e;rw [e];exact hrun
   ·simp at hne
  have jR:(bif h.own then match Jk fn st,iz (bG.map (·.1)) st (bG.map (·.1)) with
   |some r,some l=>some (r,l)
   |_,_=>none
  else match D9 fn (bG.map (·.1)) st with
   |some n=>match iz (bG.map (·.1)) st (bG.map (·.1)) with
    |some l=>some (AV.self n,l)
    |none=>none
   |none=>match kV P fn.results.toList st with
   |some (st',vs)=>match iz (bG.map (·.1)) st' (bG.map (·.1)) with
    |some l=>some (result vs,l)
    |none=>none
   |none=>none)=some (r,de):=by
   cases e with
   |exit id=>exact absurd rfl (hne id)
   |normal=>exact hend
   |ret=>exact hend
  cases how:h.own with
  |true=>
   rw [how] at jR;simp only [cond_true] at jR;split at jR
   ·rename_i r0 l hown sI
    simp only [Option.some.injEq,Prod.mk.injEq] at jR;obtain ⟨rfl,rfl⟩:=jR;have iE:=qE sI;unfold Jk at hown;split at hown
    ·rename_i t hres
     split at hown
     ·rename_i id he
      split at hown
      ·rename_i e' sz' xs' hid cz
       injection hown with hown;subst hown
       obtain ⟨u,hu,hr⟩:=h1.env t _ he;have hr:u=c7 (Df id):=hr;rw [eY (h1.obs id _ cz)] at hr;subst hr;have hnot:¬id∈bG.map (·.1):=fun hm=>by
        have:=List.all_eq_true.1 c9.2 id hm;rw [hid] at this;cases this
       obtain ⟨us',hown,hrc,Rp⟩:=h1.obs id _ cz
       refine ⟨h1.defers,_,hone t _ hres hu,_,μ1,Df,rfl,h1.base,h1.ou, .inr (.inr ⟨e',sz',xs',us',rfl,hown,hrc,fun g hg=> ?_⟩),fun id o ho=>h1.obs id o (iE id o ho),fun i j oi oj hi hj=>h1.apart i j oi oj (iE i oi hi) (iE j oj hj),h1.keep,
        fun id hid hlt=>h1.fix id (loc id) (by simp [gi,hid]) hlt,h1.os,h1.tape,h1.output,h1.grown,h1.drawn⟩
       have hgb:ff (Df id) g:= .inl hg;refine ⟨?_,(Rp g hgb).2,fun j o ho hb=> ?_⟩
       ·rcases (Rp g hgb).1 with h|⟨x,hx,_⟩
        ·exact h
        ·simp only [gi,if_neg hnot] at hx;cases hx
       ·have hj:j∈bG.map (·.1):=by
         have:=Nf ho
         rwa [AN sI] at this
        exact h1.apart j id o _ (iE j o ho) cz (fun e=>hnot (e▸hj)) g hb hgb
      ·cases hown
     ·cases hown
    ·cases hown
   ·cases jR
  |false=>
  rw [how] at jR;simp only [cond_false] at jR;split at jR
  ·rename_i n qk
   split at jR
   ·rename_i l sI
    simp only [Option.some.injEq,Prod.mk.injEq] at jR;obtain ⟨rfl,rfl⟩:=jR;have iE:=qE sI;have post:∀v,(∃A m c,Df 10000= .slice A m c∧n≤m∧v= .slice A n c)→10000∈bG.map (·.1)→eD q μ loc (bG.map (·.1)) (.self n) l w v μ1 Df w':=fun v ⟨A,m,c,k1,k2,k3⟩ hmem=>
     ⟨h1.base,h1.ou, .inr (.inl ⟨n,A,m,c,rfl,hmem,k1,k2,k3⟩),fun id o ho=>h1.obs id o (iE id o ho),fun i j oi oj hi hj=>h1.apart i j oi oj (iE i oi hi) (iE j oj hj),h1.keep,
      fun id hid hlt=>h1.fix id (loc id) (by simp [gi,hid]) hlt,h1.os,h1.tape,h1.output,h1.grown,h1.drawn⟩
    unfold D9 at qk;split at qk
    ·rename_i t hres S5
     have hmem:10000∈bG.map (·.1):=by rw [S5];simp
     split at qk
     ·rename_i e' sz' xs' he cz
      injection qk with qk;subst qk
      obtain ⟨u,hu,hr⟩:=h1.env t _ he;have hr:u=c7 (Df 10000):=hr;rw [eY (h1.obs 10000 _ cz)] at hr;obtain ⟨vs,hown,_⟩:=h1.obs 10000 _ cz;refine ⟨h1.defers,u,hone t u hres hu,u,μ1,Df,rfl,post u ?_ hmem⟩;rcases hown.2 with ⟨e1,e2⟩|⟨g,cap,cur,e1,_⟩
      ·exact ⟨none,0,0,e1,by omega,by rw [hr,e1,e2]⟩
      ·exact ⟨_,_,cap,e1,Nat.le_refl _,by rw [hr,e1]⟩
     ·rename_i sz' n' e' Um xs' he cz
      injection qk with qk;subst qk
      obtain ⟨u,hu,hr⟩:=h1.env t _ he;obtain ⟨A,m,c,A',c',k1,_,k2,_,k3,k4,_⟩:=hr;obtain ⟨rfl,rfl⟩:=k4 rfl;exact ⟨h1.defers,u,hone t u hres hu,u,μ1,Df,rfl,post u ⟨A',m,c',k1,k2,by simpa using k3⟩ hmem⟩
     ·cases qk
    ·cases qk
   ·cases jR
  ·rename_i qk
   split at jR
   ·rename_i st2 vs ht
    split at jR
    ·rename_i l sI
     simp only [Option.some.injEq,Prod.mk.injEq] at jR;obtain ⟨rfl,rfl⟩:=jR;obtain ⟨μ2,us2,h2,hle2,hmap,hall⟩:=Bf fn.results.toList h1 ht;obtain ⟨v,hrun,hv⟩:=xO hmap;refine ⟨h2.defers,v,hrun,v,μ2,Df,rfl,?_⟩;have iE:=qE sI
     exact ⟨h2.base,h2.ou, .inl (Jo hall hv),fun id o ho=>h2.obs id o (iE id o ho),fun i j oi oj hi hj=>h2.apart i j oi oj (iE i oi hi) (iE j oj hj),h2.keep,
      fun id hid hlt=>h2.fix id (loc id) (by simp [gi,hid]) hlt,h2.os,h2.tape,h2.output,h2.grown,h2.drawn⟩
    ·cases jR
   ·cases jR
 cases e with
 |exit id=>simp [MZ,M0] at hend
 |normal=>exact fin .normal hend (by simp)
 |ret=>exact fin .ret hend (by simp)
end Go.AM
set_option linter.unusedVariables false
set_option linter.unusedSimpArgs false
namespace Go.AM
open Go.RowKit
theorem bu {R:Type} {b:Bool} {x:Option R} {r:R} (hv:(bif b then x else none)=some r):b=true∧x=some r:=by
 cases b with
 |true=>exact ⟨rfl,hv⟩
 |false=>cases hv
abbrev Ev:=List (Nat×List SV×List (Nat×Ob)×(AV×List (Nat×Ob)))
def Holds (F:cQ) (S:Ev):Prop:=∀s∈S,F s.1 s.2.1 s.2.2.1=some s.2.2.2
theorem Holds.nil {F:cQ}:Holds F []:=fun _ h=>by cases h
theorem Holds.append {F:cQ} {S T:Ev} (h:Holds F S) (k:Holds F T):Holds F (S++T):=fun s hs=>(List.mem_append.1 hs).elim (h s) (k s)
theorem Holds.left {F:cQ} {S T:Ev} (h:Holds F (S++T)):Holds F S:=fun s hs=>h s (List.mem_append.2 (.inl hs))
theorem Holds.right {F:cQ} {S T:Ev} (h:Holds F (S++T)):Holds F T:=fun s hs=>h s (List.mem_append.2 (.inr hs))
theorem Holds.one {F:cQ} {g:Nat} {args:List SV} {bG:List (Nat×Ob)} {r:AV×List (Nat×Ob)} (h:F g args bG=some r):Holds F [(g,args,bG,r)]:=fun s hs=>by
 simp only [List.mem_singleton] at hs;subst hs;exact h
theorem Holds.get {F:cQ} {g:Nat} {args:List SV} {bG:List (Nat×Ob)} {r:AV×List (Nat×Ob)} (h:Holds F [(g,args,bG,r)]):F g args bG=some r:=h _ (List.mem_singleton.2 rfl)
section
variable {P:Program} {h:Hint} {F0:cQ}
theorem Hv {c:Call} {f:Operand} {st:St} {r:AV} (hv:kA P h F0 st c f=some r):∃S,Holds F0 S∧∀F,Holds F S→kA P h F st c f=some r:=by
 unfold kA at hv;split at hv
 ·rename_i g args ha
  obtain ⟨hb,hv⟩:=bu hv;split at hv
  ·rename_i bG hl
   split at hv
   ·rename_i r' de hr
    refine ⟨_,Holds.one hr,fun F hF=> ?_⟩;simp only [kA,ha,hb,cond_true,hl,hF.get];exact hv
   ·cases hv
  ·cases hv
 ·cases hv
theorem Fq {o:Oper} {st:St} {v:SV} (hv:cr P h F0 o st=some v):∃S,Holds F0 S∧∀F,Holds F S→cr P h F o st=some v:=by
 cases ho:o.op with
 |call c=>
  cases hc:c.callee with
  |value f=>
   simp only [cr,ho,hc] at hv;cases how:o.dst.any h.pQ.contains with
   |true=>rw [how] at hv;cases hv
   |false=>
   rw [how] at hv;simp only [cond_false] at hv;cases hro:(o.dst.any h.stay.contains&&wide st c f) with
   |true=>
    rw [hro] at hv;simp only [cond_true,Option.map_eq_some_iff] at hv;obtain ⟨r,hr,rfl⟩:=hv;obtain ⟨S,hS,hk⟩:=Hv hr;refine ⟨S,hS,fun F hF=> ?_⟩;simp only [cr,ho,hc];rw [how,hro,hk F hF];rfl
   |false=>
   rw [hro] at hv;simp only [cond_false] at hv;cases gd:(wide st c f||c.args.toList.any (fun x=>(iQ h st x).isSome)) with
   |true=>rw [gd] at hv;cases hv
   |false=>
    rw [gd] at hv;simp only [cond_false] at hv;split at hv
    ·rename_i g caps vs hf hvs
     split at hv
     ·rename_i r hr
      refine ⟨_,Holds.one hr,fun F hF=> ?_⟩;simp only [cr,ho,hc,hf,hvs,hF.get];rw [how,hro,gd];exact hv
     ·cases hv
    ·cases hv
  |builtin b=>exact ⟨[],Holds.nil,fun F _=>by simp only [cr,ho,hc] at hv⊢;exact hv⟩
  |invoke r m=>exact ⟨[],Holds.nil,fun F _=>by simp only [cr,ho,hc] at hv⊢;exact hv⟩
 |makeFunc fn first caps=>exact ⟨[],Holds.nil,fun F _=>by cases fn<;>simp only [cr,ho] at hv⊢<;>exact hv⟩
 |_=>exact ⟨[],Holds.nil,fun F _=>by simp only [cr,ho] at hv⊢;exact hv⟩
theorem ET {c:Call} {f:Operand} {st:St} {d:Option Nat} {x:St} (hv:fu P h F0 st c f d=some x):∃S,Holds F0 S∧∀F,Holds F S→fu P h F st c f d=some x:=by
 unfold fu at hv;split at hv
 ·rename_i d
  split at hv
  ·rename_i g caps vs hf hvs
   split at hv
   ·rename_i e sz xs hr
    refine ⟨_,Holds.one hr,fun F hF=> ?_⟩;simp only [fu,hf,hvs,hF.get];exact hv
   ·rename_i cs hr
    refine ⟨_,Holds.one hr,fun F hF=> ?_⟩;simp only [fu,hf,hvs,hF.get];exact hv
   ·cases hv
  ·cases hv
 ·cases hv
theorem EV {c:Call} {f:Operand} {st:St} {d:Option Nat} {x:St} (hv:ji P h F0 st c f d=some x):∃S,Holds F0 S∧∀F,Holds F S→ji P h F st c f d=some x:=by
 unfold ji at hv;split at hv
 ·rename_i g caps vs id hf hvs
  split at hv
  ·rename_i e sz xs cz
   split at hv
   ·rename_i r nm e' sz' xs' hr
    refine ⟨_,Holds.one hr,fun F hF=> ?_⟩;simp only [ji,hf,hvs,cz,hF.get];exact hv
   ·cases hv
  ·cases hv
 ·cases hv
theorem CI {c:Call} {f:Operand} {st:St} {d:Option Nat} {x:St} (hv:fU P h F0 st c f d=some x):∃S,Holds F0 S∧∀F,Holds F S→fU P h F st c f d=some x:=by
 unfold fU at hv;split at hv
 ·rename_i g caps vs hf hvs
  simp only [] at hv;obtain ⟨hb,hv⟩:=bu hv;split at hv
  ·rename_i bG hl
   split at hv
   ·rename_i r de hr
    refine ⟨_,Holds.one hr,fun F hF=> ?_⟩;simp only [fU,hf,hvs,hb,cond_true,hl,hF.get];exact hv
   ·cases hv
  ·cases hv
 ·cases hv
theorem KY {o:Oper} {st:St} (ho:∀c,o.op≠ .call c) (F:cQ):jG P h F o st=jG P h F0 o st:=by
 unfold jG;split<;>first|rfl|(rename_i hc;exact absurd hc (ho _))|(rename_i hc _;exact absurd hc (ho _))
theorem DU {st st':St} {id:Nat} (hp:st.bZ id=some st') {x:Operand} {ty:TypeId} {a:AV} (hl:(aM P ty st x).bind (mD st)=some a):(aM P ty st' x).bind (mD st')=some a:=by
 unfold St.bZ at hp;split at hp
 ·rename_i e sz xs hb cz
  injection hp with hp
  subst hp;cases x with
  |tmp i=>
   simp only [aM] at hl⊢;cases hi:st.env i with
   |none=>rw [hi] at hl;cases hl
   |some s=>
    rw [hi] at hl;simp only [Option.bind_some,Option.map_some] at hl⊢;cases s with
    |pv v=>simpa [mD,SV.bZ,SV.cA,SV.mentions] using hl
    |row j=>
     simp only [mD] at hl;simp only [SV.bZ];cases hj:Nat.beq j id with
     |true=>
      have:=beq_iff.1 hj;subst this;rw [cz] at hl;simpa [mD] using hl
     |false=>
      have hne:id≠j:=fun e=>by subst e;simp [beq_iff.2] at hj
      simp only [cond_false,mD,aN _ _ hne];obtain ⟨ob,nS,hval⟩:=Option.bind_eq_some_iff.1 hl;rw [nS];cases ob with
      |box t cells=>simp [Ob.val] at hval
      |row e' sz' xs'=>simpa [Ob.bZ] using hval
      |mp k' e' ks' vs'=>simpa [Ob.bZ] using hval
      |mr k' e' s' ks' vs'=>simpa [Ob.bZ] using hval
      |rn e' s' k' e2 s2 xs' ys'=>simpa [Ob.bZ] using hval
      |it s' n'=>simp [Ob.val] at hval
    |_=>cases hl
  |const v=>simp only [aM] at hl⊢;cases hc:ofConst P ty v<;>simp [hc,mD] at hl⊢;exact hl
  |func f=>simpa [aM,mD] using hl
  |global g=>simp [aM] at hl
 ·cases hp
theorem qs:∀{xs:List Operand} {st st':St},jG.dF st xs=some st'→∀{x:Operand} {ty:TypeId} {a:AV},(aM P ty st x).bind (mD st)=some a→(aM P ty st' x).bind (mD st')=some a:=by
 intro xs
 induction xs with
 |nil=>intro st st' hp x ty a hl;simp only [jG.dF,Option.some.injEq] at hp;subst hp;exact hl
 |cons y xs ih=>
  intro st st' hp x ty a hl;cases y with
  |tmp i=>
   simp only [jG.dF] at hp;split at hp
   ·rename_i id hi
    cases h1:st.bZ id with
    |none=>rw [h1] at hp;cases hp
    |some st1=>rw [h1] at hp;exact ih hp (DU h1 hl)
   ·exact ih hp hl
  |const v=>exact ih hp hl
  |func f=>exact ih hp hl
  |global g=>exact ih hp hl
theorem tK {st st':St} {ys:List Operand} (hp:jG.dF st ys=some st'):∀{xs:List Operand} {ts:List TypeId} {vs:List AV},eU P st xs ts=some vs→eU P st' xs ts=some vs:=by
 intro xs
 induction xs with
 |nil=>intro ts vs hl;exact hl
 |cons x xs ih=>
  intro ts vs hl;simp only [eU] at hl⊢;split at hl
  ·rename_i v us hv ua
   rw [qs hp hv,ih ua];exact hl
  ·cases hl
theorem A8 {st st':St} {ys:List Operand} (hp:jG.dF st ys=some st') {f:Operand} {g:Nat} {caps:List AV} (hf:aM P 0 st f=some (.pv (.fn g caps))):aM P 0 st' f=some (.pv (.fn g caps)):=by
 have:=qs (P:=P) hp (x:=f) (ty:=0) (a:= .fn g caps) (by rw [hf];rfl);cases h1:aM P 0 st' f with
 |none=>rw [h1] at this;cases this
 |some s=>
  rw [h1] at this;simp only [Option.bind_some] at this;cases s with
  |pv v=>simp only [mD,Option.some.injEq] at this;rw [this]
  |row id=>
   simp only [mD] at this;obtain ⟨ob,_,hval⟩:=Option.bind_eq_some_iff.1 this;cases ob<;>simp [Ob.val] at hval
  |_=>cases this
theorem JX {o:Oper} {st st':St} (hv:jG P h F0 o st=some st'):∃S,Holds F0 S∧∀F,Holds F S→jG P h F o st=some st':=by
 cases ho:o.op with
 |call c=>
  cases hc:c.callee with
  |value f=>
   have e1:∀F,jG P h F o st=(bif o.dst.any h.pQ.contains then fu P h F st c f o.dst else bif o.dst.any h.stay.contains&&wide st c f then none else bif wide st c f then fU P h F st c f o.dst else bif c.args.toList.any (fun x=>(iQ h st x).isSome) then ji P h F st c f o.dst else
    match jG.dF st c.args.toList with
    |some st'=>match aM P 0 st' f,eU P st' c.args.toList c.argTypes.toList with
     |some (.pv (.fn g caps)),some vs=>match F g ((vs++caps).map .pv) [] with
      |some (r,[])=>bif c.args.toList.any (jJ st')|| !r.gm then none else some (st'.set o.dst (.pv r))
      |_=>none
     |_,_=>none
    |none=>none):=fun F=>by
    cases hd:o.dst<;>simp only [jG,ho,hc,hd]<;>rfl
   rw [e1] at hv;cases how:o.dst.any h.pQ.contains with
   |true=>
    rw [how] at hv;simp only [cond_true] at hv;obtain ⟨S,hS,hall⟩:=ET hv;exact ⟨S,hS,fun F hF=>by rw [e1,how];simp only [cond_true,hall F hF]⟩
   |false=>
   rw [how] at hv;simp only [cond_false] at hv;cases hro:(o.dst.any h.stay.contains&&wide st c f) with
   |true=>rw [hro] at hv;cases hv
   |false=>
   rw [hro] at hv;simp only [cond_false] at hv;cases hw:wide st c f with
   |true=>
    rw [hw] at hv;simp only [cond_true] at hv;obtain ⟨S,hS,hall⟩:=CI hv;exact ⟨S,hS,fun F hF=>by rw [e1,how,hro,hw];simp only [cond_true,cond_false,hall F hF]⟩
   |false=>
   rw [hw] at hv;simp only [cond_false] at hv;cases gd:c.args.toList.any (fun x=>(iQ h st x).isSome) with
   |true=>
    rw [gd] at hv;simp only [cond_true] at hv;obtain ⟨S,hS,hall⟩:=EV hv;exact ⟨S,hS,fun F hF=>by rw [e1,how,hro,hw,gd];simp only [cond_true,cond_false,hall F hF]⟩
   |false=>
    rw [gd] at hv;simp only [cond_false] at hv;split at hv
    ·rename_i st1 hp
     split at hv
     ·rename_i g caps vs hf hvs
      split at hv
      ·rename_i r hr
       refine ⟨_,Holds.one hr,fun F hF=> ?_⟩;rw [e1,how,hro,hw,gd];simp only [cond_false,hp,hf,hvs,hF.get];exact hv
      ·cases hv
     ·cases hv
    ·cases hv
  |builtin b=>exact ⟨[],Holds.nil,fun F _=>by cases hd:o.dst<;>cases b<;>simp only [jG,ho,hc,hd] at hv⊢<;>exact hv⟩
  |invoke r m=>exact ⟨[],Holds.nil,fun F _=>by cases hd:o.dst<;>simp only [jG,ho,hc,hd] at hv⊢<;>exact hv⟩
 |_=>exact ⟨[],Holds.nil,fun F _=>by rw [KY (F0:=F0) (fun c hc=>by rw [ho] at hc;cases hc) F];exact hv⟩
theorem LX {o:Oper} {st st':St} (hv:step0 P h F0 o st=some st'):∃S,Holds F0 S∧∀F,Holds F S→step0 P h F o st=some st':=by
 unfold step0 at hv;split at hv
 ·rename_i v hf
  obtain ⟨S,hS,hall⟩:=Fq hf;exact ⟨S,hS,fun F hF=>by simp only [step0,hall F hF];exact hv⟩
 ·rename_i hf
  have done:∀S,Holds F0 S→(∀F,Holds F S→cr P h F o st=none∧jG P h F o st=some st')→∃S,Holds F0 S∧∀F,Holds F S→step0 P h F o st=some st':=fun S hS hall=>
   ⟨S,hS,fun F hF=>by simp only [step0,(hall F hF).1];exact (hall F hF).2⟩
  have MU:(∀F,cr P h F o st=cr P h F0 o st)→∃S,Holds F0 S∧∀F,Holds F S→step0 P h F o st=some st':=fun hsame=>by
   obtain ⟨S,hS,hall⟩:=JX hv;exact done S hS fun F hF=>⟨by rw [hsame F];exact hf,hall F hF⟩
  cases ho:o.op with
  |call c=>
   cases hc:c.callee with
   |value f=>
    cases how:o.dst.any h.pQ.contains with
    |true=>exact MU fun F=>by simp only [cr,ho,hc,how,cond_true]
    |false=>
    cases hro:(o.dst.any h.stay.contains&&wide st c f) with
    |true=>
     cases hd:o.dst<;>(simp only [jG,ho,hc,hd] at hv;rw [hd] at hro how;rw [how,hro] at hv;cases hv)
    |false=>
    cases zg:(wide st c f||c.args.toList.any (fun x=>(iQ h st x).isSome)) with
    |true=>
     obtain ⟨S,hS,hall⟩:=JX hv;exact done S hS fun F hF=>⟨by simp only [cr,ho,hc];rw [how,hro,zg];rfl,hall F hF⟩
    |false=>
     obtain ⟨Pt,gd⟩:=Bool.or_eq_false_iff.1 zg
     have e1:∀F,jG P h F o st=(bif o.dst.any h.pQ.contains then fu P h F st c f o.dst else bif o.dst.any h.stay.contains&&wide st c f then none else bif wide st c f then fU P h F st c f o.dst else bif c.args.toList.any (fun x=>(iQ h st x).isSome) then ji P h F st c f o.dst else
      match jG.dF st c.args.toList with
      |some st'=>match aM P 0 st' f,eU P st' c.args.toList c.argTypes.toList with
       |some (.pv (.fn g caps)),some vs=>match F g ((vs++caps).map .pv) [] with
        |some (r,[])=>bif c.args.toList.any (jJ st')|| !r.gm then none else some (st'.set o.dst (.pv r))
        |_=>none
       |_,_=>none
      |none=>none):=fun F=>by
      cases hd:o.dst<;>simp only [jG,ho,hc,hd]<;>rfl
     rw [e1,how,hro,Pt,gd] at hv;simp only [cond_false] at hv;split at hv
     ·rename_i st1 hp
      split at hv
      ·rename_i g caps vs hfn hvs
       split at hv
       ·rename_i r hr
        refine done _ (Holds.one hr) fun F hF=>⟨?_,?_⟩
        ·simp only [cr,ho,hc]
         rw [how,hro,zg];simp only [cond_false];split
         ·rename_i g2 caps2 vs2 Vm VH
          have k1:=A8 hp Vm;rw [hfn] at k1;simp only [Option.some.injEq,SV.pv.injEq,AV.fn.injEq] at k1;obtain ⟨rfl,rfl⟩:=k1;have k2:=tK hp VH;rw [hvs] at k2;injection k2 with k2
          subst k2;simp only [cr,ho,hc] at hf;rw [how,hro,zg] at hf;simp only [cond_false,Vm,VH,hr] at hf;rw [hF.get];exact hf
         ·rfl
        ·rw [e1,how,hro,Pt,gd]
         simp only [cond_false,hp,hfn,hvs,hF.get];exact hv
       ·cases hv
      ·cases hv
     ·cases hv
   |builtin b=>exact MU fun F=>by simp only [cr,ho,hc]
   |invoke r m=>exact MU fun F=>by simp only [cr,ho,hc]
  |makeFunc fn first caps=>exact MU fun F=>by cases fn<;>simp only [cr,ho]
  |_=>exact MU fun F=>by simp only [cr,ho]
theorem Gx {o:Oper} {st st':St} (hv:step P h F0 o st=some st'):∃S,Holds F0 S∧∀F,Holds F S→step P h F o st=some st':=by
 unfold step at hv;obtain ⟨st1,h1,h2⟩:=Option.bind_eq_some_iff.1 hv;obtain ⟨S,hS,k⟩:=LX h2;exact ⟨S,hS,fun F hF=>by simp only [step,h1,Option.bind_some,k F hF]⟩
theorem Jr {ops:Array Oper}:∀{l:List Oper} {st st':St},iT P h F0 ops l st=some st'→∃S,Holds F0 S∧∀F,Holds F S→iT P h F ops l st=some st':=by
 intro l
 induction l with
 |nil=>intro st st' hv;exact ⟨[],Holds.nil,fun F _=>hv⟩
 |cons o l ih=>
  intro st st' hv;simp only [iT] at hv;split at hv
  ·rename_i b hw
   cases b with
   |true=>
    simp only [cond_true] at hv;cases hs:step P h F0 o st with
    |none=>rw [hs] at hv;cases hv
    |some st1=>
     rw [hs] at hv;obtain ⟨S1,h1,k1⟩:=Gx hs;obtain ⟨S2,h2,k2⟩:=ih hv;exact ⟨S1++S2,h1.append h2,fun F hF=>by simp only [iT,hw,cond_true,k1 F hF.left,Option.bind_some];exact k2 F hF.right⟩
   |false=>
    simp only [cond_false] at hv;obtain ⟨S2,h2,k2⟩:=ih hv;exact ⟨S2,h2,fun F hF=>by simp only [iT,hw,cond_false];exact k2 F hF⟩
  ·cases hv
theorem Gq {ops:Array Oper}:∀{l:List Oper} {i:Nat} {prev:List (Nat×cT)} {st st':St},eV P h F0 ops i l prev st=some st'→∃S,Holds F0 S∧∀F,Holds F S→eV P h F ops i l prev st=some st':=by
 intro l
 induction l with
 |nil=>intro i prev st st' hv;exact ⟨[],Holds.nil,fun F _=>hv⟩
 |cons o l ih=>
  intro i prev st st' hv;simp only [eV] at hv;split at hv
  ·cases hv
  ·rename_i b hw
   cases b with
   |true=>
    simp only [cond_true] at hv;cases hF:(Pv h st o&&(qq h o).isEmpty) with
    |true=>
     simp only [hF,cond_true] at hv;split at hv
     ·rename_i v hf
      obtain ⟨hb,hv⟩:=bu hv;obtain ⟨S1,h1,k1⟩:=Fq hf;obtain ⟨S2,h2,k2⟩:=ih hv;exact ⟨S1++S2,h1.append h2,fun F hS=>by simp only [eV,hw,cond_true,hF,k1 F hS.left,hb];exact k2 F hS.right⟩
     ·cases hv
    |false=>
     simp only [hF,cond_false] at hv;split at hv
     ·rename_i st1 hs
      obtain ⟨hb,hv⟩:=bu hv;obtain ⟨S1,h1,k1⟩:=Gx hs;obtain ⟨S2,h2,k2⟩:=ih hv;exact ⟨S1++S2,h1.append h2,fun F hS=>by simp only [eV,hw,cond_true,hF,cond_false,k1 F hS.left,hb];exact k2 F hS.right⟩
     ·cases hv
   |false=>
    simp only [cond_false] at hv;obtain ⟨hb,hv⟩:=bu hv;obtain ⟨S2,h2,k2⟩:=ih hv;exact ⟨S2,h2,fun F hS=>by simp only [eV,hw,cond_false,hb,cond_true];exact k2 F hS⟩
theorem yX {n:Nat}:∀(c:Code) {st:St} {x:Ex×St},exec P h F0 n c st=some x→∃S,Holds F0 S∧∀F m,Holds F S→n≤m→exec P h F m c st=some x:=by
 intro c
 induction c with
 |skip=>intro st x hv;exact ⟨[],Holds.nil,fun F m _ _=>hv⟩
 |label l=>intro st x hv;exact ⟨[],Holds.nil,fun F m _ _=>hv⟩
 |exit id=>intro st x hv;exact ⟨[],Holds.nil,fun F m _ _=>hv⟩
 |ret=>intro st x hv;exact ⟨[],Holds.nil,fun F m _ _=>hv⟩
 |region id ops draw=>
  intro st x hv;simp only [exec] at hv;obtain ⟨st1,fm,hv⟩:=Option.bind_eq_some_iff.1 hv;cases draw with
  |true=>
   simp only [cond_true] at hv;obtain ⟨hb,hv⟩:=bu hv;simp only [Option.map_eq_some_iff] at hv;obtain ⟨s,hr,rfl⟩:=hv;obtain ⟨S,hS,k⟩:=Gq hr;exact ⟨S,hS,fun F m hF _=>by simp only [exec,fm,Option.bind_some,cond_true,hb,k F hF,Option.map_some]⟩
  |false=>
   simp only [cond_false,Option.map_eq_some_iff] at hv;obtain ⟨s,hr,rfl⟩:=hv;obtain ⟨S,hS,k⟩:=Jr hr;exact ⟨S,hS,fun F m hF _=>by simp only [exec,fm,Option.bind_some,cond_false,k F hF,Option.map_some]⟩
 |seq a b Qq RF=>
  intro st x hv;simp only [exec] at hv;cases ym:find h.blk (bY a) with
  |some z=>simp only [ym] at hv;exact ⟨[],Holds.nil,fun F m _ _=>by simp only [exec,ym];exact hv⟩
  |none=>
  simp only [ym] at hv;split at hv
  ·rename_i st1 ha
   obtain ⟨S1,h1,k1⟩:=Qq ha;obtain ⟨S2,h2,k2⟩:=RF hv;exact ⟨S1++S2,h1.append h2,fun F m hF hm=>by simp only [exec,ym,k1 F m hF.left hm];exact k2 F m hF.right hm⟩
  ·rename_i hne
   obtain ⟨S1,h1,k1⟩:=Qq hv;refine ⟨S1,h1,fun F m hF hm=> ?_⟩;simp only [exec,ym,k1 F m hF hm];obtain ⟨e,s⟩:=x;cases e with
   |normal=>exact absurd hv (hne s)
   |exit j=>rfl
   |ret=>rfl
 |cond c a b Qq RF=>
  intro st x hv;simp only [exec] at hv;split at hv
  ·rename_i t hc
   cases t with
   |true=>obtain ⟨S,hS,k⟩:=Qq hv;exact ⟨S,hS,fun F m hF hm=>by simp only [exec,hc,cond_true];exact k F m hF hm⟩
   |false=>obtain ⟨S,hS,k⟩:=RF hv;exact ⟨S,hS,fun F m hF hm=>by simp only [exec,hc,cond_false];exact k F m hF hm⟩
  ·cases hv
 |block id c ih=>
  intro st x hv;simp only [exec] at hv;split at hv
  ·rename_i j s hc
   obtain ⟨S,hS,k⟩:=ih hc;exact ⟨S,hS,fun F m hF hm=>by simp only [exec,k F m hF hm];exact hv⟩
  ·rename_i hne
   obtain ⟨S,hS,k⟩:=ih hv;refine ⟨S,hS,fun F m hF hm=> ?_⟩;simp only [exec,k F m hF hm];obtain ⟨e,s⟩:=x;cases e with
   |normal=>rfl
   |exit j=>exact absurd hv (hne j s)
   |ret=>rfl
 |loop c ih=>
  intro st x hv;simp only [exec] at hv;have key:∀(q:Nat) {st:St} {x:Ex×St},iter h (bY c) (exec P h F0 n c) q st=some x→∃S,Holds F0 S∧∀F m q',Holds F S→n≤m→q≤q'→iter h (bY c) (exec P h F m c) q' st=some x:=by
   intro q
   induction q with
   |zero=>intro st x hv;simp [iter] at hv
   |succ q ihq=>
    intro st x hv;simp only [iter] at hv;split at hv
    ·rename_i st1 hc
     obtain ⟨S1,h1,k1⟩:=ih hc;obtain ⟨S2,h2,k2⟩:=ihq hv;refine ⟨S1++S2,h1.append h2,fun F m q' hF hm hq=> ?_⟩;obtain ⟨QH,rfl⟩:∃QH,q'=QH+1:=⟨q'-1,by omega⟩
     simp only [iter,k1 F m hF.left hm];exact k2 F m QH hF.right hm (by omega)
    ·rename_i hne
     obtain ⟨S1,h1,k1⟩:=ih hv;refine ⟨S1,h1,fun F m q' hF hm hq=> ?_⟩;obtain ⟨QH,rfl⟩:∃QH,q'=QH+1:=⟨q'-1,by omega⟩
     simp only [iter,k1 F m hF hm];obtain ⟨e,s⟩:=x;cases e with
     |normal=>exact absurd hv (hne s)
     |exit j=>rfl
     |ret=>rfl
  obtain ⟨S,hS,k⟩:=key n hv;exact ⟨S,hS,fun F m hF hm=>by simp only [exec];exact k F m m hF hm hm⟩
 |scope c ih=>
  intro st x hv;simp only [exec] at hv;obtain ⟨S,hS,k⟩:=ih hv;exact ⟨S,hS,fun F m hF hm=>by simp only [exec];exact k F m hF hm⟩
 |rangeFunc f ps a b Qq RF=>intro st x hv;simp [exec] at hv
 |goto l=>intro st x hv;simp [exec] at hv
 |refuse s=>intro st x hv;simp [exec] at hv
theorem iB {n m:Nat} (hm:n≤m) {c:Code} {st:St} {x:Ex×St} (hv:exec P h F0 n c st=some x):exec P h F0 m c st=some x:=by
 obtain ⟨S,hS,k⟩:=yX c hv;exact k F0 m hS hm
end
section
variable {P:Program} {H:Nat→Hint} {dg:cQ}
theorem Hu:∀(n:Nat) {f:Nat} {args:List SV} {bG:List (Nat×Ob)} {r:AV×List (Nat×Ob)},jE P H dg n f args bG=some r→jE P H dg (n+1) f args bG=some r:=by
 intro n
 induction n with
 |zero=>intro f args bG r hv;simp [jE] at hv
 |succ n ih=>
  intro f args bG r hv;rw [jE] at hv⊢;dsimp only at hv⊢;split at hv
  ·rename_i x hp;(try simp only [hp]);exact hv
  ·rename_i hp
   (try simp only [hp])
   split at hv
   ·rename_i fn hf
    (try simp only [hf])
    split at hv
    ·rename_i c hb
     (try simp only [hb])
     obtain ⟨hc,hv⟩:=bu hv;rw [hc];simp only [cond_true];split at hv
     ·rename_i e st hx
      obtain ⟨S,hS,k⟩:=yX c hx;have hS':Holds (jE P H dg (n+1)) S:=fun s hs=>ih (hS s hs)
      rw [k _ (n+1) hS' (by omega)];exact hv
     ·cases hv
    ·cases hv
   ·cases hv
theorem mh {n m:Nat} (hm:n≤m) {f:Nat} {args:List SV} {bG:List (Nat×Ob)} {r:AV×List (Nat×Ob)} (hv:jE P H dg n f args bG=some r):jE P H dg m f args bG=some r:=by
 induction hm with
 |refl=>exact hv
 |step _ ih=>exact Hu _ ih
noncomputable def run (P:Program) (H:Nat→Hint) (dg:cQ):cQ:=fun f args bG=>
 open Classical in if h : ∃ r n, jE P H dg n f args bG = some r then some h.choose else none
theorem yA {f:Nat} {args:List SV} {bG:List (Nat×Ob)} {r:AV×List (Nat×Ob)}:run P H dg f args bG=some r↔∃n,jE P H dg n f args bG=some r:=by
 constructor
 ·intro hv
  unfold run at hv;split at hv
  ·rename_i hex
   injection hv with hv
   rw [←hv];exact hex.choose_spec
  ·cases hv
 ·rintro ⟨n,hn⟩
  unfold run;have hex:∃r n,jE P H dg n f args bG=some r:=⟨r,n,hn⟩
  rw [dif_pos hex];obtain ⟨m,hm⟩:=hex.choose_spec;have h1:=mh (Nat.le_max_left n m) hn;have h2:=mh (Nat.le_max_right n m) hm;rw [h1] at h2;exact h2.symm
theorem Li {S:Ev} (hS:Holds (run P H dg) S):∃n,Holds (jE P H dg n) S:=by
 induction S with
 |nil=>exact ⟨0,Holds.nil⟩
 |cons s S ih=>
  obtain ⟨n,hn⟩:=ih fun t ht=>hS t (List.mem_cons_of_mem _ ht)
  obtain ⟨m,hm⟩:=yA.1 (hS s (List.mem_cons_self ..));refine ⟨max n m,fun t ht=> ?_⟩;cases List.mem_cons.1 ht with
  |inl e=>subst e;exact mh (Nat.le_max_right ..) hm
  |inr e=>exact mh (Nat.le_max_left ..) (hn t e)
theorem Gr {f:Nat} {fn:Func} {c:Code} {args:List SV} {bG:List (Nat×Ob)} {r:AV×List (Nat×Ob)} {n:Nat} {e:Ex} {st:St} (hp:dg f args bG=none)
  (hf:P.funcs[f]? =some fn) (hb:fn.body=some c) (hc:(Nat.ble args.length fn.ntmps&&(bG.map (·.1)).all (fun i=> !(ot i)))=true)
  (hx:exec P (H f) (run P H dg) n c { env:=find (oG 0 args),ob:=find bG }=some (e,st)) (he:MZ P (H f).own fn bG e st=some r):run P H dg f args bG=some r:=by
 obtain ⟨S,hS,k⟩:=yX c hx;obtain ⟨m,hm⟩:=Li hS;have hS':Holds (jE P H dg (max n m)) S:=fun s hs=>mh (Nat.le_max_right ..) (hm s hs)
 refine yA.2 ⟨max n m+1,?_⟩;simp only [jE,hp,hf,hb,hc,cond_true,k _ (max n m) hS' (Nat.le_max_left ..)];exact he
theorem lz {f:Nat} {args:List SV} {bG:List (Nat×Ob)} {r:AV×List (Nat×Ob)} (hp:dg f args bG=some r):run P H dg f args bG=some r:=
 yA.2 ⟨1,by simp only [jE,hp]⟩
theorem wW {q:Prop} {B:Mu} (hok:vZ P=true) (hblk:∀f fn c,P.funcs[f]? =some fn→fn.body=some c→gG q B P (H f) fn.ntmps c) (gR:dD q B P dg):∀n,dD q B P (jE P H dg n):=by
 intro n
 induction n with
 |zero=>intro g args bG r de hv;simp [jE] at hv
 |succ n ih=>
  intro g args bG r de hv;simp only [jE] at hv;split at hv
  ·rename_i x hp
   injection hv with hv
   subst hv;exact gR g args bG r de hp
  ·split at hv
   ·rename_i fn hf
    split at hv
    ·rename_i c hb
     obtain ⟨hc,hv⟩:=bu hv;split at hv
     ·rename_i e st hx
      exact Hs hok (hblk g) ih hf hb hc hx hv
     ·cases hv
    ·cases hv
   ·cases hv
theorem Cc {q:Prop} {B:Mu} (hok:vZ P=true) (hblk:∀f fn c,P.funcs[f]? =some fn→fn.body=some c→gG q B P (H f) fn.ntmps c) (gR:dD q B P dg):dD q B P (run P H dg):=by
 intro g args bG r de hv;obtain ⟨n,hn⟩:=yA.1 hv;exact wW hok hblk gR n g args bG r de hn
end
end Go.AM
