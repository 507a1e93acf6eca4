/- THE ABSTRACT MACHINE. -/
import Derived.Test.YthppjmoncapdfaaGreatDoorAmDraw
set_option linter.unusedVariables false
set_option linter.unusedSimpArgs false
namespace Go.AM
open Go.RowKit
def Ex.exit':Ex→Exit
 | .normal=> .normal
 | .exit id=> .exit id
 | .ret=> .ret
section
variable {P:Program} {N:Nat} {w0:World} {μ0:Mu} {L:mG} {h:Hint} {aZ:cL}
def NB (N:Nat) (w0:World) (μ0:Mu) (L:mG) (e:Ex) (st:St):Exit→Act→World→Prop:=fun e' a' w'=>e'=e.exit'∧∃μ' loc',Rel N w0 μ0 L μ' loc' st a' w'
theorem Rel.canon {μ:Mu} {loc:Nat→Value} {st:St} {a:Act} {w:World} (hR:Rel N w0 μ0 L μ loc st a w) (h:Hint) (key:Nat):Rel N w0 μ0 L μ loc (h.canon key st) a w:=by
 have get:∀{α:Type} (m:Nat→Option α) (l:List Nat) (i:Nat) (v:α),find (nE m l) i=some v→m i=some v:=by
  intro α m l
  induction l with
  |nil=>intro i v hv;simp [nE,find] at hv
  |cons j l ih=>
   intro i v hv;simp only [nE] at hv;split at hv
   ·rename_i x hx
    simp only [find] at hv;cases hb:Nat.beq j i with
    |true=>simp only [hb,cond_true,Option.some.injEq] at hv;subst hv;rw [←beq_iff.1 hb];exact hx
    |false=>simp only [hb,cond_false] at hv;exact ih i v hv
   ·exact ih i v hv
 unfold Hint.canon;split
 rotate_left
 ·exact hR
 exact ⟨hR.small,hR.names,hR.fix,hR.size,hR.defers,fun i s hi=>hR.env i s (get _ _ _ _ hi),hR.oZ,hR.base,fun i o hi=>hR.obs i o (get _ _ _ _ hi),
  fun i j oi oj hi hj=>hR.apart i j oi oj (get _ _ _ _ hi) (get _ _ _ _ hj),hR.keep,hR.os,hR.tape,hR.output,hR.grown,hR.drawn⟩
theorem Rel.drew {μ:Mu} {loc:Nat→Value} {st:St} {a:Act} {w:World} (hR:Rel N w0 μ0 L μ loc st a w):Rel N w0 μ0 L μ loc st a { w with drawn:=w.drawn+1 }:=
 ⟨hR.small,hR.names,hR.fix,hR.size,hR.defers,hR.env,hR.oZ,hR.base,fun i o hi=>by
  have:=hR.obs i o hi;cases o with
  |box t cells=>exact this
  |mp k e ks vs=>exact this
  |mr k e s ks vs=>exact this
  |rn e s k e' s' xs ys=>exact this
  |it s n=>exact this
  |lp s=>
   obtain ⟨us,h1,h2,h3⟩:=this;exact ⟨us,h1,h2,L.q.keep (w:=w) (fun _ _=>rfl) h3⟩
  |row e sz xs=>exact this,hR.apart,hR.keep,hR.os,hR.tape,hR.output,hR.grown,fun q=>Nat.le_succ_of_le (hR.drawn q)⟩
theorem yy:∀{l:List Nat} {st st':St} {μ:Mu} {loc:Nat→Value} {a:Act} {w:World},Rel N w0 μ0 L μ loc st a w→tu l st=some st'→∃μ',Rel N w0 μ0 L μ' loc st' a w
 |[],st,st',μ,loc,a,w,hR,hv=>by simp only [tu,Option.some.injEq] at hv;subst hv;exact ⟨μ,hR⟩
 |id::l,st,st',μ,loc,a,w,hR,hv=>by
  simp only [tu] at hv;obtain ⟨st1,h1,h2⟩:=Option.bind_eq_some_iff.1 hv;obtain ⟨μ1,_,CB⟩:∃μ',μ.le μ'∧Rel N w0 μ0 L μ' loc st1 a w:=by
   unfold St.Dl at h1;split at h1
   ·exact hR.jk h1
   ·injection h1 with h1;subst h1;exact ⟨μ,Mu.le.refl _,hR⟩
   ·exact hR.cw h1
  exact yy CB h2
theorem Dm {st st':St} {μ:Mu} {loc:Nat→Value} {a:Act} {w:World} {id:Nat} (hR:Rel N w0 μ0 L μ loc st a w) (hv:h.Ub id st=some st'):∃μ',Rel N w0 μ0 L μ' loc st' a w:=by
 unfold Hint.Ub at hv;split at hv
 ·exact yy hR hv
 ·injection hv with hv;subst hv;exact ⟨μ,hR⟩
def BM (q:Qp) (B:Mu) (P:Program) (N:Nat) (c:Code) (g:St→Bool) (F:St→Nat×St):Prop:=
 ∀(w0:World) (μ0:Mu) (L:mG) (μ:Mu) (loc:Nat→Value) (st:St) (a:Act) (w:World),L.q=q→B.le μ0→g st=true→Rel N w0 μ0 L μ loc st a w→c.wp P (NB N w0 μ0 L (XO (F st).1) (F st).2) a w
def iP (q:Qp) (B:Mu) (P:Program) (h:Hint) (N:Nat):Code→Prop
 | .seq a b=>match find h.blk (cE a) with
  |some x=>BM q B P N (.seq a b) x.1 x.2
  |none=>iP q B P h N a∧iP q B P h N b
 | .cond _ a b=>iP q B P h N a∧iP q B P h N b
 | .block _ c=>iP q B P h N c
 | .loop c=>iP q B P h N c
 | .scope c=>iP q B P h N c
 |_=>True
theorem iP.none {q:Qp} {B:Mu} {P:Program} {h:Hint} {N:Nat} (hb:h.blk=[]):∀c:Code,iP q B P h N c:=by
 intro c
 induction c with
 |seq x y Oh PO=>simp only [iP,hb,find];exact ⟨Oh,PO⟩
 |cond c x y Oh PO=>exact ⟨Oh,PO⟩
 |block id c ih=>exact ih
 |loop c ih=>exact ih
 |scope c ih=>exact ih
 |_=>trivial
theorem vv {F:Fence} {n:Nat} {Q:Exit→Act→World→Prop} {a:Act} {w:World} {c:Code} (hs:c.wpIn F n P (Exit.noGoto Q) a w):(Code.scope c).wpIn F n P Q a w:=by
 intro b k cs hro hb hr;have h0:(lone (b.atR a (.code (.scope c)::k)) cs w).fenced P F:=fenced_calm hb hr rfl;have s1:Go.step P (lone (b.atR a (.code (.scope c)::k)) cs w)= .next (lone (b.atR a (.code c:: .inScope c::k)) cs w):=step_lone_go (by simp [stepG,stepG.exec,Frame.atR]);obtain ⟨e,a₁,w₁,hq,Pz⟩:=hs b (.inScope c::k) cs hro hb hr;cases e with
 |normal=>
  have s2:Go.step P (lone (b.atR a₁ (.inScope c::k)) cs w₁)= .next (lone (b.atR a₁ k) cs w₁):=step_lone_go (by simp [stepG,stepG.exec,Frame.atR]);exact ⟨.normal,a₁,w₁,hq, .head h0 s1 (StepsIn.trans Pz (.one (fenced_calm hb hr rfl) s2))⟩
 |exit id=>
  have hx:exitTo id (.inScope c::k)=exitTo id k:=by simp [exitTo]
  exact ⟨_,a₁,w₁,hq,fun k' hk=> .head h0 s1 (Pz.1 k' (by rw [hx];exact hk)),fun hr' hk=>let ⟨k₁,h1,h2⟩:=Pz.2 hr' (by rw [hx];exact hk);⟨k₁,h1, .head h0 s1 h2⟩⟩
 |goto l=>exact hq.elim
 |ret=>exact ⟨_,a₁,w₁,hq, .of_steps (.one h0 s1) Pz⟩
 |panic ch=>exact ⟨_,a₁,w₁,hq, .of_steps (.one h0 s1) Pz⟩
 |outgrown=>exact ⟨_,a₁,w₁,hq, .of_steps (.one h0 s1) Pz⟩
theorem Cv {B:Mu} (Vp:B.le μ0) (eH:dL L.q μ0 P aZ) (hm:P.follows .mixedOrders=true) (n:Nat):∀(c:Code) (st:St) (e:Ex) (st':St),jj N c=true→iP L.q B P h N c→exec P h aZ n c st=some (e,st')→
  ∀(μ:Mu) (loc:Nat→Value) (a:Act) (w:World),Rel N w0 μ0 L μ loc st a w→∀F,Wd F→(F.round=none∨h.blk=[])→c.wpIn F 0 P (NB N w0 μ0 L e st') a w:=by
 intro c
 induction c with
 |skip=>intro st e st' _ _ hv μ loc a w hR F hF hro;simp only [exec,Option.some.injEq,Prod.mk.injEq] at hv;obtain ⟨rfl,rfl⟩:=hv;exact wpIn_skip ⟨rfl,μ,loc,hR⟩
 |label l=>intro st e st' _ _ hv μ loc a w hR F hF hro;simp only [exec,Option.some.injEq,Prod.mk.injEq] at hv;obtain ⟨rfl,rfl⟩:=hv;exact wpIn_label ⟨rfl,μ,loc,hR⟩
 |exit id=>intro st e st' _ _ hv μ loc a w hR F hF hro;simp only [exec,Option.some.injEq,Prod.mk.injEq] at hv;obtain ⟨rfl,rfl⟩:=hv;exact wpIn_exit ⟨rfl,μ,loc,hR⟩
 |ret=>intro st e st' _ _ hv μ loc a w hR F hF hro;simp only [exec,Option.some.injEq,Prod.mk.injEq] at hv;obtain ⟨rfl,rfl⟩:=hv;exact wpIn_ret ⟨rfl,μ,loc,hR⟩
 |region id ops draw=>
  intro st e st' hok hbk hv μ loc a w hR F hF hro;have hd:∀o∈ops.toList,∀i,o.dst=some i→i<N:=fun o ho i hi=>by
   simp only [jj,List.all_eq_true] at hok;have:=hok o ho;simpa [hi,Nat.blt_eq] using this
  simp only [exec] at hv;obtain ⟨st1,dQ,hv⟩:=Option.bind_eq_some_iff.1 hv;obtain ⟨μ1,CB⟩:=Dm hR dQ;clear hR;have hR:=CB;cases draw with
  |true=>
   simp only [cond_true] at hv;cases hs:mL 0 ops.toList with
   |false=>simp [hs] at hv
   |true=>
    simp only [hs,cond_true] at hv;cases hr:fO P h aZ ops 0 ops.toList [] (mj (rG ops.toList) st1) with
    |none=>simp [hr] at hv
    |some s=>
     simp [hr] at hv;obtain ⟨rfl,rfl⟩:=hv;exact wpIn_region_any hm (LG eH hs hr hd (fun a' w' μ' loc' h'=>⟨rfl,μ',loc',h'⟩) hR.drew hF)
  |false=>
   simp only [cond_false] at hv;cases hr:kq P h aZ ops ops.toList st1 with
   |none=>simp [hr] at hv
   |some s=>
    simp [hr] at hv;obtain ⟨rfl,rfl⟩:=hv;exact wpIn_region_list (yF eH hR hd hr (fun a' w' μ' loc' h'=>⟨rfl,μ',loc',h'⟩) F hF)
 |seq x y Oh PO=>
  intro st e st' hok hbk hv μ loc a w hR F hF hro;simp only [jj,Bool.and_eq_true] at hok;simp only [exec] at hv;simp only [iP] at hbk;cases Br:find h.blk (cE x) with
  |some z=>
   simp only [Br] at hv hbk;cases hg:z.1 st with
   |false=>simp [hg] at hv
   |true=>
    simp only [hg,cond_true,Option.some.injEq,Prod.mk.injEq] at hv;obtain ⟨rfl,rfl⟩:=hv;rcases hro with hro|hro
    ·rw [hF.plain hro,wpIn_wide];exact hbk w0 μ0 L μ loc st a w rfl Vp hg hR
    ·rw [hro] at Br;cases Br
  |none=>
  simp only [Br] at hv hbk;refine wpIn_seq ?_;split at hv
  ·rename_i st1 hx
   refine wpIn_mono (Oh st _ _ hok.1 hbk.1 hx μ loc a w hR F hF hro) ?_
   rintro e' a' w' ⟨rfl,μ',loc',h'⟩
   exact PO st1 e st' hok.2 hbk.2 hv μ' loc' a' w' h' F hF hro
  ·rename_i hne
   refine wpIn_mono (Oh st e st' hok.1 hbk.1 hv μ loc a w hR F hF hro) ?_
   rintro e' a' w' ⟨rfl,μ',loc',h'⟩
   cases e with
   |normal=>exact absurd hv (hne st')
   |exit id=>exact ⟨rfl,μ',loc',h'⟩
   |ret=>exact ⟨rfl,μ',loc',h'⟩
 |cond c x y Oh PO=>
  intro st e st' hok hbk hv μ loc a w hR F hF hro;simp only [jj,Bool.and_eq_true] at hok;simp only [exec] at hv;split at hv
  ·rename_i t hc
   have Uv:=aI hR hc;simp only [c8,rep] at Uv;cases t with
   |true=>exact wpIn_cond_true Uv (Oh st e st' hok.1 hbk.1 hv μ loc a w hR F hF hro)
   |false=>exact wpIn_cond_false Uv (PO st e st' hok.2 hbk.2 hv μ loc a w hR F hF hro)
  ·cases hv
 |block id c ih=>
  intro st e st' hok hbk hv μ loc a w hR F hF hro;simp only [jj] at hok;simp only [exec] at hv;refine wpIn_block ?_;split at hv
  ·rename_i j st1 hx
   refine wpIn_mono (ih st _ _ hok hbk hx μ loc a w hR F hF hro) ?_
   rintro e' a' w' ⟨rfl,μ',loc',h'⟩
   cases hb:Nat.beq j id with
   |true=>
    simp only [hb,cond_true,Option.some.injEq,Prod.mk.injEq] at hv;obtain ⟨rfl,rfl⟩:=hv;have:=beq_iff.1 hb;subst this;simp only [Ex.exit',Exit.inBlock,if_true];exact ⟨rfl,μ',loc',h'⟩
   |false=>
    simp only [hb,cond_false,Option.some.injEq,Prod.mk.injEq] at hv;obtain ⟨rfl,rfl⟩:=hv;have:j≠id:=fun e=>by subst e;simp [Nat.beq_refl] at hb
    simp only [Ex.exit',Exit.inBlock,if_neg this];exact ⟨rfl,μ',loc',h'⟩
  ·rename_i hne
   refine wpIn_mono (ih st e st' hok hbk hv μ loc a w hR F hF hro) ?_
   rintro e' a' w' ⟨rfl,μ',loc',h'⟩
   cases e with
   |normal=>exact ⟨rfl,μ',loc',h'⟩
   |exit id=>exact absurd hv (hne _ _)
   |ret=>exact ⟨rfl,μ',loc',h'⟩
 |loop c ih=>
  intro st e st' hok hbk hv μ loc a w hR F hF hro;simp only [jj] at hok;simp only [exec] at hv;refine wpIn_loop_rounds n ?_;have key:∀(k:Nat) (st:St) (μ:Mu) (loc:Nat→Value) (a:Act) (w:World),Rel N w0 μ0 L μ loc st a w→iter h (cE c) (exec P h aZ n c) k st=some (e,st')→Code.roundsIn F 0 P c (NB N w0 μ0 L e st') k a w:=by
   intro k
   induction k with
   |zero=>intro st μ loc a w _ hv;simp [iter] at hv
   |succ k ihk=>
    intro st μ loc a w hR hv;rw [roundsIn_succ];simp only [iter] at hv;split at hv
    ·rename_i st1 hx
     refine wpIn_mono (ih _ _ _ hok hbk hx μ loc a w (hR.canon h _) F hF hro) ?_
     rintro e' a' w' ⟨rfl,μ',loc',h'⟩
     exact ihk st1 μ' loc' a' w' h' hv
    ·rename_i hne
     refine wpIn_mono (ih _ _ _ hok hbk hv μ loc a w (hR.canon h _) F hF hro) ?_
     rintro e' a' w' ⟨rfl,μ',loc',h'⟩
     cases e with
     |normal=>exact absurd hv (hne _)
     |exit id=>exact ⟨rfl,μ',loc',h'⟩
     |ret=>exact ⟨rfl,μ',loc',h'⟩
  exact key n st μ loc a w hR hv
 |scope c ih=>
  intro st e st' hok hbk hv μ loc a w hR F hF hro;simp only [jj] at hok;simp only [exec] at hv;refine vv ?_;refine wpIn_mono (ih st e st' hok hbk hv μ loc a w hR F hF hro) ?_
  rintro e' a' w' ⟨rfl,μ',loc',h'⟩
  cases e<;>exact ⟨rfl,μ',loc',h'⟩
 |rangeFunc f ps x y Oh PO=>intro st e st' _ _ hv;simp [exec] at hv
 |goto l=>intro st e st' _ _ hv;simp [exec] at hv
 |refuse s=>intro st e st' _ _ hv;simp [exec] at hv
theorem Ey {μ:Mu} {loc:Nat→Value} {st st':St} {a:Act} {w:World} (hR:Rel N w0 μ0 L μ loc st a w) {id:Nat} (hv:st.Hg id=some st'):∃μ',μ.le μ'∧Rel N w0 μ0 L μ' loc st' a w:=by
 unfold St.Hg at hv;split at hv
 ·obtain ⟨st1,h1,h2⟩:=Option.bind_eq_some_iff.1 hv
  obtain ⟨μ1,hle,CB⟩:=me hR h1;obtain ⟨μ2,hle2,N9⟩:=CB.jk h2;exact ⟨μ2,hle.trans hle2,N9⟩
 ·cases hv
theorem Ez {μ:Mu} {loc:Nat→Value} {st st':St} {a:Act} {w:World} (hR:Rel N w0 μ0 L μ loc st a w) {t:Nat} {v:AV} (hv:Hi st t=some (st',v)):
  ∃μ',Rel N w0 μ0 L μ' loc st' a w∧μ.le μ'∧rep μ' v (a.tmps.getD t undef):=by
 have get:∀{μ:Mu} {st:St},Rel N w0 μ0 L μ loc st a w→st.env t=some (.pv v)→rep μ v (a.tmps.getD t undef):=fun hR he=>by
  obtain ⟨u,hu,hr⟩:=hR.env t _ he;have:a.tmps.getD t undef=u:=by simp [hu]
  rw [this];exact hr
 unfold Hi at hv;split at hv
 ·rename_i v' he
  simp only [Option.some.injEq,Prod.mk.injEq] at hv;obtain ⟨rfl,rfl⟩:=hv;exact ⟨μ,hR,Mu.le.refl _,get hR he⟩
 ·rename_i id he
  split at hv
  ·rename_i st1 hp
   split at hv
   ·rename_i cs he'
    simp only [Option.some.injEq,Prod.mk.injEq] at hv;obtain ⟨rfl,rfl⟩:=hv;obtain ⟨μ',hle,h'⟩:=Ey hR hp;obtain ⟨u,hu,hr⟩:=h'.env t _ he';have e:a.tmps.getD t undef=u:=by simp [hu]
    refine ⟨μ',h',hle,?_⟩;rw [e,rep];obtain ⟨b,off,vs,e1,hc,hm⟩:=hr;exact ⟨b,off,vs,e1,hc.1,hc.2,hm⟩
   ·cases hv
  ·cases hv
 ·rename_i id he
  split at hv
  ·rename_i st1 hp
   split at hv
   ·rename_i v' he'
    simp only [Option.some.injEq,Prod.mk.injEq] at hv;obtain ⟨rfl,rfl⟩:=hv;obtain ⟨μ',hle,h'⟩:=hR.cw hp;exact ⟨μ',h',hle,get h' he'⟩
   ·cases hv
  ·cases hv
 ·cases hv
def qx (tmps:Array Value):ResultVar→Sem Value
 | .tmp t=>pure (tmps.getD t undef)
 | .cell a t=>do loadVar t (←asAddr (tmps.getD a undef))
theorem J8 {μ:Mu} {loc:Nat→Value} {st:St} {a:Act} {w:World} (hR:Rel N w0 μ0 L μ loc st a w) {ad:Nat} {t:TypeId} {sv:SV} (hv:c7 P ⟨none, .load t (.tmp ad),t, "", #[],none⟩ st=some sv):
  ∃v,(qx a.tmps (.cell ad t)).run P w= .ok v w∧c8 μ loc sv v:=by
 obtain ⟨v,hr,hs⟩:=qu hR hv;refine ⟨v,?_,hs⟩;have he:a.eval (.tmp ad)=a.tmps.getD ad undef:=rfl;simp only [execOp,Sem.run_bind] at hr;rw [he] at hr;cases hx:a.tmps.getD ad undef with
 |pointer p=>
  cases p with
  |none=>rw [hx] at hr;simp [Instr.loadAt,Instr.sureAddr] at hr
  |some q=>
   rw [hx] at hr;simp only [Instr.loadAt,Instr.sureAddr,Sem.run_bind,Sem.run_pure,Result.andThen_ok] at hr;simp only [qx,hx,asAddr,Sem.run_bind,Sem.run_pure,Result.andThen_ok];cases hl:(loadVar t q).run P w with
   |ok u w'=>
    rw [hl] at hr;simp only [Result.andThen_ok,Result.ok.injEq,Next.value.injEq] at hr;rw [hr.1,hr.2]
   |halt x w'=>rw [hl] at hr;simp at hr
 |_=>rw [hx] at hr;simp [Instr.loadAt,Instr.sureAddr] at hr
theorem EG:∀(l:List ResultVar) {μ:Mu} {loc:Nat→Value} {st st':St} {a:Act} {w:World} {vs:List AV},Rel N w0 μ0 L μ loc st a w→nK P l st=some (st',vs)→
  ∃μ' us,Rel N w0 μ0 L μ' loc st' a w∧μ.le μ'∧(l.mapM (qx a.tmps)).run P w= .ok us w∧br μ' vs us:=by
 intro l
 induction l with
 |nil=>
  intro μ loc st st' a w vs hR hv;simp only [nK,Option.some.injEq,Prod.mk.injEq] at hv;obtain ⟨rfl,rfl⟩:=hv;exact ⟨μ,[],hR,Mu.le.refl _,rfl,cK⟩
 |cons x l ih=>
  intro μ loc st st' a w vs hR hv;have join:∀{μ1:Mu} {st1:St} {v:AV} {u:Value} {ZC:List AV},Rel N w0 μ0 L μ1 loc st1 a w→μ.le μ1→(qx a.tmps x).run P w= .ok u w→rep μ1 v u→nK P l st1=some (st',ZC)→vs=v::ZC→
    ∃μ' us,Rel N w0 μ0 L μ' loc st' a w∧μ.le μ'∧((x::l).mapM (qx a.tmps)).run P w= .ok us w∧br μ' vs us:=by
   intro μ1 st1 v u ZC h1 hle hr sK ht e;obtain ⟨μ2,us,h2,hle2,hm,hall⟩:=ih h1 ht;refine ⟨μ2,u::us,h2,hle.trans hle2,?_,by rw [e];exact bI (qw hle2 _ _ sK) hall⟩;simp [List.mapM_cons,hr,hm]
  cases x with
  |tmp t=>
   simp only [nK] at hv;split at hv
   ·rename_i st1 v hp
    split at hv
    ·rename_i st2 ZC ht
     simp only [Option.some.injEq,Prod.mk.injEq] at hv;obtain ⟨rfl,rfl⟩:=hv;obtain ⟨μ1,h1,hle,sK⟩:=Ez hR hp;exact join h1 hle rfl sK ht rfl
    ·cases hv
   ·cases hv
  |cell ad t=>
   simp only [nK] at hv;split at hv
   ·rename_i v hp
    split at hv
    ·rename_i st2 ZC ht
     simp only [Option.some.injEq,Prod.mk.injEq] at hv;obtain ⟨rfl,rfl⟩:=hv;obtain ⟨u,hr,sK⟩:=J8 hR hp;exact join hR (Mu.le.refl _) hr sK ht rfl
    ·cases hv
   ·rename_i id hp
    split at hv
    ·rename_i st1 dQ
     split at hv
     ·rename_i v hp1
      split at hv
      ·rename_i st2 ZC ht
       simp only [Option.some.injEq,Prod.mk.injEq] at hv;obtain ⟨rfl,rfl⟩:=hv;obtain ⟨μ1,hle,h1⟩:=hR.cw dQ;obtain ⟨u,hr,sK⟩:=J8 h1 hp1;exact join h1 hle hr sK ht rfl
      ·cases hv
     ·cases hv
    ·cases hv
   ·cases hv
theorem AU {fn:Func} {tmps:Array Value} {w:World} {us:List Value} (h:(fn.results.toList.mapM (qx tmps)).run P w= .ok us w):
  ∃v,(results fn tmps).run P w= .ok v w∧((∃u,us=[u]∧v=u)∨(us.length≠1∧v= .tuple us.toArray)):=by
 have e:(results fn tmps)=(do
   let vs←fn.results.mapM (qx tmps)
   pure (if h:vs.size=1 then vs[0] else .tuple vs)):=by
  unfold results
  congr 1
 rw [e];obtain ⟨l⟩:∃l,fn.results=⟨l⟩:=⟨fn.results.toList,by simp⟩
 have hm:(fn.results.mapM (qx tmps)).run P w= .ok us.toArray w:=by
  rename_i hl;rw [hl] at h⊢;simp only at h;have:(List.toArray l).mapM (qx tmps)=List.toArray<$>l.mapM (qx tmps):=List.mapM_toArray ..;rw [show (⟨l⟩:Array ResultVar)=l.toArray from rfl,this];simp [h]
 simp only [Sem.run_bind,hm,Result.andThen_ok,Sem.run_pure];by_cases hs:us.length=1
 ·match us,hs with
  |[u],_=>exact ⟨u,by simp, .inl ⟨u,rfl,rfl⟩⟩
 ·exact ⟨.tuple us.toArray,by simp [hs], .inr ⟨hs,rfl⟩⟩
theorem Nc {μ:Mu} {vs:List AV} {us:List Value} {v:Value} (hall:br μ vs us) (hv:(∃u,us=[u]∧v=u)∨(us.length≠1∧v= .tuple us.toArray)):rep μ (result vs) v:=by
 have hl:=ji hall;rcases hv with ⟨u,rfl,rfl⟩|⟨hne,rfl⟩
 ·match vs,hl with
  |[x],_=>
   rw [br] at hall;obtain ⟨u',us',e,h1,_⟩:=hall;injection e with e1 e2
   subst e1;exact h1
 ·have:result vs= .dI vs:=by
   match vs,hl with
   |[],_=>rfl
   |[x],hl=>exact absurd (by simpa using hl) hne
   |_::_::_,_=>rfl
  rw [this,rep];exact ⟨us,rfl,hall⟩
theorem uh {names:List Nat} {st:St}:∀{l:List Nat} {bT:List (Nat×Ob)},jM names st l=some bT→∀id o,find bT id=some o→st.ob id=some o:=by
 intro l
 induction l with
 |nil=>intro bT hv id o hf;simp only [jM,Option.some.injEq] at hv;subst hv;simp [find] at hf
 |cons j l ih=>
  intro bT hv id o hf;simp only [jM] at hv;split at hv
  ·rename_i oj os Si hos
   cases hc:oj.closed names with
   |false=>simp [hc] at hv
   |true=>
    simp only [hc,cond_true,Option.some.injEq] at hv;subst hv;simp only [find] at hf;cases hb:Nat.beq j id with
    |true=>simp only [hb,cond_true,Option.some.injEq] at hf;subst hf;rw [←beq_iff.1 hb];exact Si
    |false=>simp only [hb,cond_false] at hf;exact ih hos id o hf
  ·cases hv
theorem Ee {names:List Nat} {st:St}:∀{l:List Nat} {bT:List (Nat×Ob)},jM names st l=some bT→bT.map (·.1)=l:=by
 intro l
 induction l with
 |nil=>intro bT hv;simp only [jM,Option.some.injEq] at hv;subst hv;rfl
 |cons j l ih=>
  intro bT hv;simp only [jM] at hv;split at hv
  ·rename_i oj os Si hos
   cases hc:oj.closed names with
   |false=>simp [hc] at hv
   |true=>
    simp only [hc,cond_true,Option.some.injEq] at hv;subst hv;simp [ih hos]
  ·cases hv
theorem JB:∀(l:List SV) (i j:Nat) (s:SV),find (sA i l) j=some s→∃k,j=i+k∧l[k]? =some s:=by
 intro l
 induction l with
 |nil=>intro i j s hf;simp [sA,find] at hf
 |cons x l ih=>
  intro i j s hf;simp only [sA,find] at hf;cases hb:Nat.beq i j with
  |true=>simp only [hb,cond_true,Option.some.injEq] at hf;subst hf;exact ⟨0,by have:=beq_iff.1 hb;omega,rfl⟩
  |false=>
   simp only [hb,cond_false] at hf;obtain ⟨k,rfl,hk⟩:=ih (i+1) j s hf;exact ⟨k+1,by omega,by simpa using hk⟩
theorem R3 {α:Type}:∀{l:List (Nat×α)} {i:Nat} {v:α},find l i=some v→i∈l.map (·.1):=by
 intro l
 induction l with
 |nil=>intro i v hf;simp [find] at hf
 |cons x l ih=>
  intro i v hf;obtain ⟨j,u⟩:=x;simp only [find] at hf;cases hb:Nat.beq j i with
  |true=>simp [beq_iff.1 hb]
  |false=>simp only [hb,cond_false] at hf;simp only [List.map_cons,List.mem_cons];exact .inr (ih hf)
end
theorem Lq {P:Program} {h:Hint} {aZ:cL} {q:Qp} {B:Mu} {f:Nat} (hok:wR P=true) (hblk:∀fn c,P.funcs[f]? =some fn→fn.body=some c→iP q B P h fn.ntmps c) (eH:dL q B P aZ) {n:Nat} {fn:Func} {c:Code} {args:List SV} {bT dO:List (Nat×Ob)} {r:AV} {e:Ex} {st:St}
  (hf:P.funcs[f]? =some fn) (hb:fn.body=some c) (dc:(Nat.ble args.length fn.ntmps&&(bT.map (·.1)).all (fun i=> !(r9 i)))=true)
  (hx:exec P h aZ n c { env:=find (sA 0 args),ob:=find bT }=some (e,st)) (hend:RT P h.own fn bT e st=some (r,dO)):
  ∀(w:World) (μ:Mu) (loc:Nat→Value) (us:List Value),B.le μ→BU μ w→(∀id o,find bT id=some o→ig w.heap.size (fL q loc (bT.map (·.1))) μ loc w id o)→NC loc bT→eM μ loc args us→
   (∀w2,(callFunc f us.toArray).run P w2= .ok (.enter f us.toArray) w2)∧Calls P f us.toArray w fun e w'=>∃v μ' loc',e= .returned v∧dM q μ loc (bT.map (·.1)) r dO w v μ' loc' w':=by
 intro w μ loc us Vp dQ sJ hap lI;simp only [Bool.and_eq_true] at dc;simp only [wR,Bool.and_eq_true] at hok;obtain ⟨⟨hm,Ye⟩,_⟩:=hok;have hfn:LO fn=true:=List.all_eq_true.1 Ye fn (List.mem_of_getElem? (show P.funcs.toList[f]? =some fn by simpa using hf));simp only [LO,hb,Bool.and_eq_true,Bool.not_eq_true'] at hfn;obtain ⟨⟨hsmall,hname⟩,cv⟩:=hfn;have hlen:=j5 lI;have hle:args.length≤fn.ntmps:=Nat.le_of_ble_eq_true dc.1;refine ⟨fun w2=> ?_,?_⟩
 ·have Yh:¬(fn.name= "runtime.NumGoroutine"):=by simpa using hname
  simp [callFunc,hf,Yh,hb]
 refine calls_of_wp hf hb ?_;have hR:Rel fn.ntmps w μ (fL q loc (bT.map (·.1))) μ loc { env:=find (sA 0 args),ob:=find bT } { tmps:=us.toArray++Array.replicate (fn.ntmps-us.toArray.size) undef,defers:=[] } w:=by
  refine ⟨Nat.le_of_ble_eq_true hsmall,?_,?_,?_,rfl,?_,dQ,⟨Mu.le.refl _,fun _ _ _ h=> .inl h⟩,sJ,hap,fun _ _ _=>rfl,rfl,rfl,rfl,Nat.le_refl _,fun _=>Nat.le_refl _⟩
  ·intro id hid
   have:¬(id∈bT.map (·.1)):=fun hm=>by
    have:=List.all_eq_true.1 dc.2 id hm;have h0:r9 id=true:=by simpa [r9,Nat.blt_eq] using hid
    rw [h0] at this;cases this
   simp only [fL,if_neg this]
  ·intro id v hv _
   simp only [fL] at hv;split at hv
   ·injection hv
   ·cases hv
  ·simp;omega
  ·intro i s hi
   obtain ⟨k,hk,hs⟩:=JB args 0 i s hi;obtain ⟨u,hu,hr⟩:=Fk lI hs;have hlt:=(List.getElem?_eq_some_iff.1 hu).1;refine ⟨u,?_,hr⟩;rw [hk,Nat.zero_add,Array.getElem?_append_left (by simpa using hlt)];simpa using hu
 refine wp_mono (wpIn_wide.1 (Cv (B:=B) Vp (eH.mono Vp) hm n c _ e st cv (hblk fn c hf hb) hx μ loc _ w hR _ Wd.wide (.inl rfl))) ?_
 rintro e' a' w' ⟨rfl,μ1,Gq,h1⟩
 have fin:∀(e:Ex),RT P h.own fn bT e st=some (r,dO)→(∀id,e≠ .exit id)→a'.defers=[]∧∃v,(results fn a'.tmps).run P w'= .ok v w'∧∃v' μ' loc',Ending.returned v= .returned v'∧dM q μ loc (bT.map (·.1)) r dO w v' μ' loc' w':=by
  intro e hend hne;have hone:∀t u,fn.results.toList=[.tmp t]→a'.tmps[t]? =some u→(results fn a'.tmps).run P w'= .ok u w':=fun t u hres hu=>by
   obtain ⟨v,hrun,hv⟩:=AU (P:=P) (fn:=fn) (tmps:=a'.tmps) (w:=w') (us:=[u]) (by
    rw [hres];have:a'.tmps.getD t undef=u:=by simp [hu]
    simp [List.mapM_cons,qx,this])
   rcases hv with ⟨u',e,rfl⟩|⟨hne,_⟩
   ·injection e with e;rw [e];exact hrun
   ·simp at hne
  have lM:(bif h.own then match M5 fn st,jM (bT.map (·.1)) st (bT.map (·.1)) with
   |some r,some l=>some (r,l)
   |_,_=>none
  else match HD fn (bT.map (·.1)) st with
   |some n=>match jM (bT.map (·.1)) st (bT.map (·.1)) with
    |some l=>some (AV.self n,l)
    |none=>none
   |none=>match nK P fn.results.toList st with
   |some (st',vs)=>match jM (bT.map (·.1)) st' (bT.map (·.1)) with
    |some l=>some (result vs,l)
    |none=>none
   |none=>none)=some (r,dO):=by
   cases e with
   |exit id=>exact absurd rfl (hne id)
   |normal=>exact hend
   |ret=>exact hend
  cases how:h.own with
  |true=>
   rw [how] at lM;simp only [cond_true] at lM;split at lM
   ·rename_i r0 l hown qO
    simp only [Option.some.injEq,Prod.mk.injEq] at lM;obtain ⟨rfl,rfl⟩:=lM;have lD:=uh qO;unfold M5 at hown;split at hown
    ·rename_i t hres
     split at hown
     ·rename_i id he
      split at hown
      ·rename_i e' sz' xs' hid cu
       injection hown with hown;subst hown
       obtain ⟨u,hu,hr⟩:=h1.env t _ he;have hr:u=cV (Gq id):=hr;rw [eO (h1.obs id _ cu)] at hr;subst hr;have hnot:¬id∈bT.map (·.1):=fun hm=>by
        have:=List.all_eq_true.1 dc.2 id hm;rw [hid] at this;cases this
       obtain ⟨us',hown,hrc,Wy⟩:=h1.obs id _ cu
       refine ⟨h1.defers,_,hone t _ hres hu,_,μ1,Gq,rfl,h1.base,h1.oZ, .inr (.inr ⟨e',sz',xs',us',rfl,hown,hrc,fun g hg=> ?_⟩),fun id o ho=>h1.obs id o (lD id o ho),fun i j oi oj hi hj=>h1.apart i j oi oj (lD i oi hi) (lD j oj hj),h1.keep,
        fun id hid hlt=>h1.fix id (loc id) (by simp [fL,hid]) hlt,h1.os,h1.tape,h1.output,h1.grown,h1.drawn⟩
       have hgb:fE (Gq id) g:= .inl hg;refine ⟨?_,(Wy g hgb).2,fun j o ho hb=> ?_⟩
       ·rcases (Wy g hgb).1 with h|⟨x,hx,_⟩
        ·exact h
        ·simp only [fL,if_neg hnot] at hx;cases hx
       ·have hj:j∈bT.map (·.1):=by
         have:=R3 ho
         rwa [Ee qO] at this
        exact h1.apart j id o _ (lD j o ho) cu (fun e=>hnot (e▸hj)) g hb hgb
      ·cases hown
     ·cases hown
    ·cases hown
   ·cases lM
  |false=>
  rw [how] at lM;simp only [cond_false] at lM;split at lM
  ·rename_i n tM
   split at lM
   ·rename_i l qO
    simp only [Option.some.injEq,Prod.mk.injEq] at lM;obtain ⟨rfl,rfl⟩:=lM;have lD:=uh qO;have post:∀v,(∃A m c,Gq 10000= .slice A m c∧n≤m∧v= .slice A n c)→10000∈bT.map (·.1)→dM q μ loc (bT.map (·.1)) (.self n) l w v μ1 Gq w':=fun v ⟨A,m,c,k1,k2,k3⟩ hmem=>
     ⟨h1.base,h1.oZ, .inr (.inl ⟨n,A,m,c,rfl,hmem,k1,k2,k3⟩),fun id o ho=>h1.obs id o (lD id o ho),fun i j oi oj hi hj=>h1.apart i j oi oj (lD i oi hi) (lD j oj hj),h1.keep,
      fun id hid hlt=>h1.fix id (loc id) (by simp [fL,hid]) hlt,h1.os,h1.tape,h1.output,h1.grown,h1.drawn⟩
    unfold HD at tM;split at tM
    ·rename_i t hres Yi
     have hmem:10000∈bT.map (·.1):=by rw [Yi];simp
     split at tM
     ·rename_i e' sz' xs' he cu
      injection tM with tM;subst tM
      obtain ⟨u,hu,hr⟩:=h1.env t _ he;have hr:u=cV (Gq 10000):=hr;rw [eO (h1.obs 10000 _ cu)] at hr;obtain ⟨vs,hown,_⟩:=h1.obs 10000 _ cu;refine ⟨h1.defers,u,hone t u hres hu,u,μ1,Gq,rfl,post u ?_ hmem⟩;rcases hown.2 with ⟨e1,e2⟩|⟨g,cap,cur,e1,_⟩
      ·exact ⟨none,0,0,e1,by omega,by rw [hr,e1,e2]⟩
      ·exact ⟨_,_,cap,e1,Nat.le_refl _,by rw [hr,e1]⟩
     ·rename_i sz' n' e' ZB xs' he cu
      injection tM with tM;subst tM
      obtain ⟨u,hu,hr⟩:=h1.env t _ he;obtain ⟨A,m,c,A',c',k1,_,k2,_,k3,k4,_⟩:=hr;obtain ⟨rfl,rfl⟩:=k4 rfl;exact ⟨h1.defers,u,hone t u hres hu,u,μ1,Gq,rfl,post u ⟨A',m,c',k1,k2,by simpa using k3⟩ hmem⟩
     ·cases tM
    ·cases tM
   ·cases lM
  ·rename_i tM
   split at lM
   ·rename_i st2 vs ht
    split at lM
    ·rename_i l qO
     simp only [Option.some.injEq,Prod.mk.injEq] at lM;obtain ⟨rfl,rfl⟩:=lM;obtain ⟨μ2,W9,h2,hle2,hmap,hall⟩:=EG fn.results.toList h1 ht;obtain ⟨v,hrun,hv⟩:=AU hmap;refine ⟨h2.defers,v,hrun,v,μ2,Gq,rfl,?_⟩;have lD:=uh qO
     exact ⟨h2.base,h2.oZ, .inl (Nc hall hv),fun id o ho=>h2.obs id o (lD id o ho),fun i j oi oj hi hj=>h2.apart i j oi oj (lD i oi hi) (lD j oj hj),h2.keep,
      fun id hid hlt=>h2.fix id (loc id) (by simp [fL,hid]) hlt,h2.os,h2.tape,h2.output,h2.grown,h2.drawn⟩
    ·cases lM
   ·cases lM
 cases e with
 |exit id=>simp [RT,RU] at hend
 |normal=>exact fin .normal hend (by simp)
 |ret=>exact fin .ret hend (by simp)
end Go.AM
