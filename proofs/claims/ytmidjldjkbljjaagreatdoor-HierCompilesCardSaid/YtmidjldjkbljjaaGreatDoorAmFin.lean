/- THE ABSTRACT MACHINE. -/
import Derived.Test.YtmidjldjkbljjaaGreatDoorAmDraw
set_option linter.unusedVariables false
set_option linter.unusedSimpArgs false
namespace Go.AM
open Go.RowKit
def Ex.exit':Ex→Exit
 | .normal=> .normal
 | .exit id=> .exit id
 | .ret=> .ret
section
variable {P:Program} {N:Nat} {w0:World} {μ0:Mu} {L:lp} {h:Hint} {bN:dm}
def Mo (N:Nat) (w0:World) (μ0:Mu) (L:lp) (e:Ex) (st:St):Exit→Act→World→Prop:=fun e' a' w'=>e'=e.exit'∧∃μ' loc',Rel N w0 μ0 L μ' loc' st a' w'
theorem Rel.canon {μ:Mu} {loc:Nat→Value} {st:St} {a:Act} {w:World} (hR:Rel N w0 μ0 L μ loc st a w) (h:Hint) (key:Nat):Rel N w0 μ0 L μ loc (h.canon key st) a w:=by
 have get:∀{α:Type} (m:Nat→Option α) (l:List Nat) (i:Nat) (v:α),find (lR m l) i=some v→m i=some v:=by
  intro α m l
  induction l with
  |nil=>intro i v hv;simp [lR,find] at hv
  |cons j l ih=>
   intro i v hv;simp only [lR] at hv;split at hv
   ·rename_i x hx
    simp only [find] at hv;cases hb:Nat.beq j i with
    |true=>simp only [hb,cond_true,Option.some.injEq] at hv;subst hv;rw [←beq_iff.1 hb];exact hx
    |false=>simp only [hb,cond_false] at hv;exact ih i v hv
   ·exact ih i v hv
 unfold Hint.canon;split
 rotate_left
 ·exact hR
 exact ⟨hR.small,hR.names,hR.fix,hR.size,hR.defers,fun i s hi=>hR.env i s (get _ _ _ _ hi),hR.r7,hR.base,fun i o hi=>hR.obs i o (get _ _ _ _ hi),
  fun i j oi oj hi hj=>hR.apart i j oi oj (get _ _ _ _ hi) (get _ _ _ _ hj),hR.keep,hR.os,hR.tape,hR.output,hR.grown,hR.drawn⟩
theorem Rel.drew {μ:Mu} {loc:Nat→Value} {st:St} {a:Act} {w:World} (hR:Rel N w0 μ0 L μ loc st a w):Rel N w0 μ0 L μ loc st a { w with drawn:=w.drawn+1 }:=
 ⟨hR.small,hR.names,hR.fix,hR.size,hR.defers,hR.env,hR.r7,hR.base,fun i o hi=>by
  have:=hR.obs i o hi;cases o with
  |box t cells=>exact this
  |mp k e ks vs=>exact this
  |mr k e s ks vs=>exact this
  |it s n=>exact this
  |row e sz xs=>exact this,hR.apart,hR.keep,hR.os,hR.tape,hR.output,hR.grown,fun q=>Nat.le_succ_of_le (hR.drawn q)⟩
theorem wW:∀{l:List Nat} {st st':St} {μ:Mu} {loc:Nat→Value} {a:Act} {w:World},Rel N w0 μ0 L μ loc st a w→s5 l st=some st'→∃μ',Rel N w0 μ0 L μ' loc st' a w
 |[],st,st',μ,loc,a,w,hR,hv=>by simp only [s5,Option.some.injEq] at hv;subst hv;exact ⟨μ,hR⟩
 |id::l,st,st',μ,loc,a,w,hR,hv=>by
  simp only [s5] at hv;obtain ⟨st1,h1,h2⟩:=Option.bind_eq_some_iff.1 hv;obtain ⟨μ1,_,Fy⟩:∃μ',μ.le μ'∧Rel N w0 μ0 L μ' loc st1 a w:=by
   unfold St.Gk at h1;split at h1
   ·exact hR.ij h1
   ·injection h1 with h1;subst h1;exact ⟨μ,Mu.le.refl _,hR⟩
   ·exact hR.cQ h1
  exact wW Fy h2
theorem BS {st st':St} {μ:Mu} {loc:Nat→Value} {a:Act} {w:World} {id:Nat} (hR:Rel N w0 μ0 L μ loc st a w) (hv:h.Tv id st=some st'):∃μ',Rel N w0 μ0 L μ' loc st' a w:=by
 unfold Hint.Tv at hv;split at hv
 ·exact wW hR hv
 ·injection hv with hv;subst hv;exact ⟨μ,hR⟩
def AO (q:Prop) (B:Mu) (P:Program) (N:Nat) (c:Code) (g:St→Bool) (F:St→Nat×St):Prop:=
 ∀(w0:World) (μ0:Mu) (L:lp) (μ:Mu) (loc:Nat→Value) (st:St) (a:Act) (w:World),L.q=q→B.le μ0→g st=true→Rel N w0 μ0 L μ loc st a w→c.wp P (Mo N w0 μ0 L (W8 (F st).1) (F st).2) a w
def iq (q:Prop) (B:Mu) (P:Program) (h:Hint) (N:Nat):Code→Prop
 | .seq a b=>match find h.blk (cu a) with
  |some x=>AO q B P N (.seq a b) x.1 x.2
  |none=>iq q B P h N a∧iq q B P h N b
 | .cond _ a b=>iq q B P h N a∧iq q B P h N b
 | .block _ c=>iq q B P h N c
 | .loop c=>iq q B P h N c
 | .scope c=>iq q B P h N c
 |_=>True
theorem iq.none {q:Prop} {B:Mu} {P:Program} {h:Hint} {N:Nat} (hb:h.blk=[]):∀c:Code,iq q B P h N c:=by
 intro c
 induction c with
 |seq x y MV OP=>simp only [iq,hb,find];exact ⟨MV,OP⟩
 |cond c x y MV OP=>exact ⟨MV,OP⟩
 |block id c ih=>exact ih
 |loop c ih=>exact ih
 |scope c ih=>exact ih
 |_=>trivial
theorem Be {B:Mu} (Ur:B.le μ0) (fm:eF L.q μ0 P bN) (hm:P.follows .mixedOrders=true) (n:Nat):∀(c:Code) (st:St) (e:Ex) (st':St),ia N c=true→iq L.q B P h N c→exec P h bN n c st=some (e,st')→
  ∀(μ:Mu) (loc:Nat→Value) (a:Act) (w:World),Rel N w0 μ0 L μ loc st a w→c.wp P (Mo N w0 μ0 L e st') a w:=by
 intro c
 induction c with
 |skip=>intro st e st' _ _ hv μ loc a w hR;simp only [exec,Option.some.injEq,Prod.mk.injEq] at hv;obtain ⟨rfl,rfl⟩:=hv;exact wp_skip ⟨rfl,μ,loc,hR⟩
 |label l=>intro st e st' _ _ hv μ loc a w hR;simp only [exec,Option.some.injEq,Prod.mk.injEq] at hv;obtain ⟨rfl,rfl⟩:=hv;exact wp_label ⟨rfl,μ,loc,hR⟩
 |exit id=>intro st e st' _ _ hv μ loc a w hR;simp only [exec,Option.some.injEq,Prod.mk.injEq] at hv;obtain ⟨rfl,rfl⟩:=hv;exact wp_exit ⟨rfl,μ,loc,hR⟩
 |ret=>intro st e st' _ _ hv μ loc a w hR;simp only [exec,Option.some.injEq,Prod.mk.injEq] at hv;obtain ⟨rfl,rfl⟩:=hv;exact wp_ret ⟨rfl,μ,loc,hR⟩
 |region id ops draw=>
  intro st e st' hok hbk hv μ loc a w hR;have hd:∀o∈ops.toList,∀i,o.dst=some i→i<N:=fun o ho i hi=>by
   simp only [ia,List.all_eq_true] at hok;have:=hok o ho;simpa [hi,Nat.blt_eq] using this
  simp only [exec] at hv;obtain ⟨st1,fP,hv⟩:=Option.bind_eq_some_iff.1 hv;obtain ⟨μ1,Fy⟩:=BS hR fP;clear hR;have hR:=Fy;cases draw with
  |true=>
   simp only [cond_true] at hv;cases hs:(lC 0 ops.toList&&mq (dS 0 ops.toList)) with
   |false=>simp [hs] at hv
   |true=>
    simp only [hs,cond_true] at hv;simp only [Bool.and_eq_true] at hs;cases hr:cn P h bN ops (dS 0 ops.toList) 0 ops.toList [] (gW (dS 0 ops.toList) st1) with
    |none=>simp [hr] at hv
    |some s=>
     simp [hr] at hv;obtain ⟨rfl,rfl⟩:=hv;exact wp_region_any hm (Kk fm hs.1 hs.2 hr hd (fun a' w' μ' loc' h'=>⟨rfl,μ',loc',h'⟩) hR.drew)
  |false=>
   simp only [cond_false] at hv;cases hr:jq P h bN ops ops.toList st1 with
   |none=>simp [hr] at hv
   |some s=>
    simp [hr] at hv;obtain ⟨rfl,rfl⟩:=hv;exact wp_region_list (xb fm hR hd hr (fun a' w' μ' loc' h'=>⟨rfl,μ',loc',h'⟩))
 |seq x y MV OP=>
  intro st e st' hok hbk hv μ loc a w hR;simp only [ia,Bool.and_eq_true] at hok;simp only [exec] at hv;simp only [iq] at hbk;cases C0:find h.blk (cu x) with
  |some z=>
   simp only [C0] at hv hbk;cases hg:z.1 st with
   |false=>simp [hg] at hv
   |true=>
    simp only [hg,cond_true,Option.some.injEq,Prod.mk.injEq] at hv;obtain ⟨rfl,rfl⟩:=hv;exact hbk w0 μ0 L μ loc st a w rfl Ur hg hR
  |none=>
  simp only [C0] at hv hbk;refine wp_seq ?_;split at hv
  ·rename_i st1 hx
   refine wp_mono (MV st _ _ hok.1 hbk.1 hx μ loc a w hR) ?_
   rintro e' a' w' ⟨rfl,μ',loc',h'⟩
   exact OP st1 e st' hok.2 hbk.2 hv μ' loc' a' w' h'
  ·rename_i hne
   refine wp_mono (MV st e st' hok.1 hbk.1 hv μ loc a w hR) ?_
   rintro e' a' w' ⟨rfl,μ',loc',h'⟩
   cases e with
   |normal=>exact absurd hv (hne st')
   |exit id=>exact ⟨rfl,μ',loc',h'⟩
   |ret=>exact ⟨rfl,μ',loc',h'⟩
 |cond c x y MV OP=>
  intro st e st' hok hbk hv μ loc a w hR;simp only [ia,Bool.and_eq_true] at hok;simp only [exec] at hv;split at hv
  ·rename_i t hc
   have TQ:=bf hR hc;simp only [cW,rep] at TQ;cases t with
   |true=>exact wp_cond_true TQ (MV st e st' hok.1 hbk.1 hv μ loc a w hR)
   |false=>exact wp_cond_false TQ (OP st e st' hok.2 hbk.2 hv μ loc a w hR)
  ·cases hv
 |block id c ih=>
  intro st e st' hok hbk hv μ loc a w hR;simp only [ia] at hok;simp only [exec] at hv;refine wp_block ?_;split at hv
  ·rename_i j st1 hx
   refine wp_mono (ih st _ _ hok hbk hx μ loc a w hR) ?_
   rintro e' a' w' ⟨rfl,μ',loc',h'⟩
   cases hb:Nat.beq j id with
   |true=>
    simp only [hb,cond_true,Option.some.injEq,Prod.mk.injEq] at hv;obtain ⟨rfl,rfl⟩:=hv;have:=beq_iff.1 hb;subst this;simp only [Ex.exit',Exit.inBlock,if_true];exact ⟨rfl,μ',loc',h'⟩
   |false=>
    simp only [hb,cond_false,Option.some.injEq,Prod.mk.injEq] at hv;obtain ⟨rfl,rfl⟩:=hv;have:j≠id:=fun e=>by subst e;simp [Nat.beq_refl] at hb
    simp only [Ex.exit',Exit.inBlock,if_neg this];exact ⟨rfl,μ',loc',h'⟩
  ·rename_i hne
   refine wp_mono (ih st e st' hok hbk hv μ loc a w hR) ?_
   rintro e' a' w' ⟨rfl,μ',loc',h'⟩
   cases e with
   |normal=>exact ⟨rfl,μ',loc',h'⟩
   |exit id=>exact absurd hv (hne _ _)
   |ret=>exact ⟨rfl,μ',loc',h'⟩
 |loop c ih=>
  intro st e st' hok hbk hv μ loc a w hR;simp only [ia] at hok;simp only [exec] at hv;refine wp_loop_rounds n ?_;have key:∀(k:Nat) (st:St) (μ:Mu) (loc:Nat→Value) (a:Act) (w:World),Rel N w0 μ0 L μ loc st a w→iter h (cu c) (exec P h bN n c) k st=some (e,st')→Code.rounds P c (Mo N w0 μ0 L e st') k a w:=by
   intro k
   induction k with
   |zero=>intro st μ loc a w _ hv;simp [iter] at hv
   |succ k ihk=>
    intro st μ loc a w hR hv;rw [rounds_succ];simp only [iter] at hv;split at hv
    ·rename_i st1 hx
     refine wp_mono (ih _ _ _ hok hbk hx μ loc a w (hR.canon h _)) ?_
     rintro e' a' w' ⟨rfl,μ',loc',h'⟩
     exact ihk st1 μ' loc' a' w' h' hv
    ·rename_i hne
     refine wp_mono (ih _ _ _ hok hbk hv μ loc a w (hR.canon h _)) ?_
     rintro e' a' w' ⟨rfl,μ',loc',h'⟩
     cases e with
     |normal=>exact absurd hv (hne _)
     |exit id=>exact ⟨rfl,μ',loc',h'⟩
     |ret=>exact ⟨rfl,μ',loc',h'⟩
  exact key n st μ loc a w hR hv
 |scope c ih=>
  intro st e st' hok hbk hv μ loc a w hR;simp only [ia] at hok;simp only [exec] at hv;refine wp_scope_straight ?_;refine wp_mono (ih st e st' hok hbk hv μ loc a w hR) ?_
  rintro e' a' w' ⟨rfl,μ',loc',h'⟩
  cases e<;>exact ⟨rfl,μ',loc',h'⟩
 |rangeFunc f ps x y MV OP=>intro st e st' _ _ hv;simp [exec] at hv
 |goto l=>intro st e st' _ _ hv;simp [exec] at hv
 |refuse s=>intro st e st' _ _ hv;simp [exec] at hv
theorem n9:∀{l:List SV} {μ:Mu} {loc:Nat→Value} {st st':St} {a:Act} {w:World},Rel N w0 μ0 L μ loc st a w→qF l st=some st'→∃μ',μ.le μ'∧Rel N w0 μ0 L μ' loc st' a w
 |[],μ,loc,st,st',a,w,hR,hv=>by simp only [qF,Option.some.injEq] at hv;subst hv;exact ⟨μ,Mu.le.refl _,hR⟩
 |s::l,μ,loc,st,st',a,w,hR,hv=>by
  unfold qF at hv;split at hv
  ·rename_i e;cases e
  ·rename_i id l' e
   injection e with e1 e2;subst e1;subst e2
   obtain ⟨st1,h1,h2⟩:=Option.bind_eq_some_iff.1 hv;obtain ⟨μ1,hle,Fy⟩:=hR.cQ h1;obtain ⟨μ2,hle2,PC⟩:=n9 Fy h2;exact ⟨μ2,hle.trans hle2,PC⟩
  ·rename_i s' l' hne e
   injection e with e1 e2;subst e1;subst e2
   exact n9 hR hv
theorem Ds {μ:Mu} {loc:Nat→Value} {st st':St} {a:Act} {w:World} (hR:Rel N w0 μ0 L μ loc st a w) {id:Nat} (hv:st.Gl id=some st'):∃μ',μ.le μ'∧Rel N w0 μ0 L μ' loc st' a w:=by
 unfold St.Gl at hv;split at hv
 ·obtain ⟨st1,h1,h2⟩:=Option.bind_eq_some_iff.1 hv
  obtain ⟨μ1,hle,Fy⟩:=n9 hR h1;obtain ⟨μ2,hle2,PC⟩:=Fy.ij h2;exact ⟨μ2,hle.trans hle2,PC⟩
 ·cases hv
theorem Dt {μ:Mu} {loc:Nat→Value} {st st':St} {a:Act} {w:World} (hR:Rel N w0 μ0 L μ loc st a w) {t:Nat} {v:AV} (hv:Gm st t=some (st',v)):
  ∃μ',Rel N w0 μ0 L μ' loc st' a w∧μ.le μ'∧rep μ' v (a.tmps.getD t undef):=by
 have get:∀{μ:Mu} {st:St},Rel N w0 μ0 L μ loc st a w→st.env t=some (.pv v)→rep μ v (a.tmps.getD t undef):=fun hR he=>by
  obtain ⟨u,hu,hr⟩:=hR.env t _ he;have:a.tmps.getD t undef=u:=by simp [hu]
  rw [this];exact hr
 unfold Gm at hv;split at hv
 ·rename_i v' he
  simp only [Option.some.injEq,Prod.mk.injEq] at hv;obtain ⟨rfl,rfl⟩:=hv;exact ⟨μ,hR,Mu.le.refl _,get hR he⟩
 ·rename_i id he
  split at hv
  ·rename_i st1 hp
   split at hv
   ·rename_i cs he'
    simp only [Option.some.injEq,Prod.mk.injEq] at hv;obtain ⟨rfl,rfl⟩:=hv;obtain ⟨μ',hle,h'⟩:=Ds hR hp;obtain ⟨u,hu,hr⟩:=h'.env t _ he';have e:a.tmps.getD t undef=u:=by simp [hu]
    refine ⟨μ',h',hle,?_⟩;rw [e,rep];obtain ⟨b,off,vs,e1,hc,hm⟩:=hr;exact ⟨b,off,vs,e1,hc.1,hc.2,hm⟩
   ·cases hv
  ·cases hv
 ·rename_i id he
  split at hv
  ·rename_i st1 hp
   split at hv
   ·rename_i v' he'
    simp only [Option.some.injEq,Prod.mk.injEq] at hv;obtain ⟨rfl,rfl⟩:=hv;obtain ⟨μ',hle,h'⟩:=hR.cQ hp;exact ⟨μ',h',hle,get h' he'⟩
   ·cases hv
  ·cases hv
 ·cases hv
def og (tmps:Array Value):ResultVar→Sem Value
 | .tmp t=>pure (tmps.getD t undef)
 | .cell a t=>do loadVar t (←asAddr (tmps.getD a undef))
theorem IF {μ:Mu} {loc:Nat→Value} {st:St} {a:Act} {w:World} (hR:Rel N w0 μ0 L μ loc st a w) {ad:Nat} {t:TypeId} {sv:SV} (hv:cR P ⟨none, .load t (.tmp ad),t, "", #[],none⟩ st=some sv):
  ∃v,(og a.tmps (.cell ad t)).run P w= .ok v w∧cW μ loc sv v:=by
 obtain ⟨v,hr,hs⟩:=oa hR hv;refine ⟨v,?_,hs⟩;have he:a.eval (.tmp ad)=a.tmps.getD ad undef:=rfl;simp only [execOp,Sem.run_bind] at hr;rw [he] at hr;cases hx:a.tmps.getD ad undef with
 |pointer p=>
  cases p with
  |none=>rw [hx] at hr;simp [Instr.loadAt,Instr.sureAddr] at hr
  |some q=>
   rw [hx] at hr;simp only [Instr.loadAt,Instr.sureAddr,Sem.run_bind,Sem.run_pure,Result.andThen_ok] at hr;simp only [og,hx,asAddr,Sem.run_bind,Sem.run_pure,Result.andThen_ok];cases hl:(loadVar t q).run P w with
   |ok u w'=>
    rw [hl] at hr;simp only [Result.andThen_ok,Result.ok.injEq,Next.value.injEq] at hr;rw [hr.1,hr.2]
   |halt x w'=>rw [hl] at hr;simp at hr
 |_=>rw [hx] at hr;simp [Instr.loadAt,Instr.sureAddr] at hr
theorem DE:∀(l:List ResultVar) {μ:Mu} {loc:Nat→Value} {st st':St} {a:Act} {w:World} {vs:List AV},Rel N w0 μ0 L μ loc st a w→lT P l st=some (st',vs)→
  ∃μ' us,Rel N w0 μ0 L μ' loc st' a w∧μ.le μ'∧(l.mapM (og a.tmps)).run P w= .ok us w∧bF μ' vs us:=by
 intro l
 induction l with
 |nil=>
  intro μ loc st st' a w vs hR hv;simp only [lT,Option.some.injEq,Prod.mk.injEq] at hv;obtain ⟨rfl,rfl⟩:=hv;exact ⟨μ,[],hR,Mu.le.refl _,rfl,bZ⟩
 |cons x l ih=>
  intro μ loc st st' a w vs hR hv;have join:∀{μ1:Mu} {st1:St} {v:AV} {u:Value} {Pw:List AV},Rel N w0 μ0 L μ1 loc st1 a w→μ.le μ1→(og a.tmps x).run P w= .ok u w→rep μ1 v u→lT P l st1=some (st',Pw)→vs=v::Pw→
    ∃μ' us,Rel N w0 μ0 L μ' loc st' a w∧μ.le μ'∧((x::l).mapM (og a.tmps)).run P w= .ok us w∧bF μ' vs us:=by
   intro μ1 st1 v u Pw h1 hle hr qV ht e;obtain ⟨μ2,us,h2,hle2,hm,hall⟩:=ih h1 ht;refine ⟨μ2,u::us,h2,hle.trans hle2,?_,by rw [e];exact bq (tf hle2 _ _ qV) hall⟩;simp [List.mapM_cons,hr,hm]
  cases x with
  |tmp t=>
   simp only [lT] at hv;split at hv
   ·rename_i st1 v hp
    split at hv
    ·rename_i st2 Pw ht
     simp only [Option.some.injEq,Prod.mk.injEq] at hv;obtain ⟨rfl,rfl⟩:=hv;obtain ⟨μ1,h1,hle,qV⟩:=Dt hR hp;exact join h1 hle rfl qV ht rfl
    ·cases hv
   ·cases hv
  |cell ad t=>
   simp only [lT] at hv;split at hv
   ·rename_i v hp
    split at hv
    ·rename_i st2 Pw ht
     simp only [Option.some.injEq,Prod.mk.injEq] at hv;obtain ⟨rfl,rfl⟩:=hv;obtain ⟨u,hr,qV⟩:=IF hR hp;exact join hR (Mu.le.refl _) hr qV ht rfl
    ·cases hv
   ·rename_i id hp
    split at hv
    ·rename_i st1 fP
     split at hv
     ·rename_i v hp1
      split at hv
      ·rename_i st2 Pw ht
       simp only [Option.some.injEq,Prod.mk.injEq] at hv;obtain ⟨rfl,rfl⟩:=hv;obtain ⟨μ1,hle,h1⟩:=hR.cQ fP;obtain ⟨u,hr,qV⟩:=IF h1 hp1;exact join h1 hle hr qV ht rfl
      ·cases hv
     ·cases hv
    ·cases hv
   ·cases hv
theorem zX {fn:Func} {tmps:Array Value} {w:World} {us:List Value} (h:(fn.results.toList.mapM (og tmps)).run P w= .ok us w):
  ∃v,(results fn tmps).run P w= .ok v w∧((∃u,us=[u]∧v=u)∨(us.length≠1∧v= .tuple us.toArray)):=by
 have e:(results fn tmps)=(do
   let vs←fn.results.mapM (og tmps)
   pure (if h:vs.size=1 then vs[0] else .tuple vs)):=by
  unfold results
  congr 1
 rw [e];obtain ⟨l⟩:∃l,fn.results=⟨l⟩:=⟨fn.results.toList,by simp⟩
 have hm:(fn.results.mapM (og tmps)).run P w= .ok us.toArray w:=by
  rename_i hl;rw [hl] at h⊢;simp only at h;have:(List.toArray l).mapM (og tmps)=Functor.map List.toArray (l.mapM (og tmps)):=List.mapM_toArray ..;rw [show (⟨l⟩:Array ResultVar)=l.toArray from rfl,this];simp [h]
 simp only [Sem.run_bind,hm,Result.andThen_ok,Sem.run_pure];by_cases hs:us.length=1
 ·match us,hs with
  |[u],_=>exact ⟨u,by simp, .inl ⟨u,rfl,rfl⟩⟩
 ·exact ⟨.tuple us.toArray,by simp [hs], .inr ⟨hs,rfl⟩⟩
theorem LZ {μ:Mu} {vs:List AV} {us:List Value} {v:Value} (hall:bF μ vs us) (hv:(∃u,us=[u]∧v=u)∨(us.length≠1∧v= .tuple us.toArray)):rep μ (result vs) v:=by
 have hl:=lS hall;rcases hv with ⟨u,rfl,rfl⟩|⟨hne,rfl⟩
 ·match vs,hl with
  |[x],_=>
   rw [bF] at hall;obtain ⟨u',us',e,h1,_⟩:=hall;injection e with e1 e2
   subst e1;exact h1
 ·have:result vs= .fG vs:=by
   match vs,hl with
   |[],_=>rfl
   |[x],hl=>exact absurd (by simpa using hl) hne
   |_::_::_,_=>rfl
  rw [this,rep];exact ⟨us,rfl,hall⟩
theorem zq {names:List Nat} {st:St}:∀{l:List Nat} {bU:List (Nat×Ob)},oF names st l=some bU→∀id o,find bU id=some o→st.ob id=some o:=by
 intro l
 induction l with
 |nil=>intro bU hv id o hf;simp only [oF,Option.some.injEq] at hv;subst hv;simp [find] at hf
 |cons j l ih=>
  intro bU hv id o hf;simp only [oF] at hv;split at hv
  ·rename_i oj os TS hos
   cases hc:oj.closed names with
   |false=>simp [hc] at hv
   |true=>
    simp only [hc,cond_true,Option.some.injEq] at hv;subst hv;simp only [find] at hf;cases hb:Nat.beq j id with
    |true=>simp only [hb,cond_true,Option.some.injEq] at hf;subst hf;rw [←beq_iff.1 hb];exact TS
    |false=>simp only [hb,cond_false] at hf;exact ih hos id o hf
  ·cases hv
theorem HS:∀(l:List SV) (i j:Nat) (s:SV),find (qN i l) j=some s→∃k,j=i+k∧l[k]? =some s:=by
 intro l
 induction l with
 |nil=>intro i j s hf;simp [qN,find] at hf
 |cons x l ih=>
  intro i j s hf;simp only [qN,find] at hf;cases hb:Nat.beq i j with
  |true=>simp only [hb,cond_true,Option.some.injEq] at hf;subst hf;exact ⟨0,by have:=beq_iff.1 hb;omega,rfl⟩
  |false=>
   simp only [hb,cond_false] at hf;obtain ⟨k,rfl,hk⟩:=ih (i+1) j s hf;exact ⟨k+1,by omega,by simpa using hk⟩
end
theorem Kc {P:Program} {h:Hint} {bN:dm} {q:Prop} {B:Mu} {f:Nat} (hok:yE P=true) (hblk:∀fn c,P.funcs[f]? =some fn→fn.body=some c→iq q B P h fn.ntmps c) (fm:eF q B P bN) {n:Nat} {fn:Func} {c:Code} {args:List SV} {bU dP:List (Nat×Ob)} {r:AV} {e:Ex} {st:St}
  (hf:P.funcs[f]? =some fn) (hb:fn.body=some c) (de:(Nat.ble args.length fn.ntmps&&(bU.map (·.1)).all (fun i=> !(s4 i)))=true)
  (hx:exec P h bN n c { env:=find (qN 0 args),ob:=find bU }=some (e,st)) (hend:Qz P fn bU e st=some (r,dP)):
  ∀(w:World) (μ:Mu) (loc:Nat→Value) (us:List Value),B.le μ→PS μ w→(∀id o,find bU id=some o→gV w.heap.size (gU q loc (bU.map (·.1))) μ loc w id o)→Mq loc bU→eD μ loc args us→
   (∀w2,(callFunc f us.toArray).run P w2= .ok (.enter f us.toArray) w2)∧Calls P f us.toArray w fun e w'=>∃v μ' loc',e= .returned v∧fk q μ loc (bU.map (·.1)) r dP w v μ' loc' w':=by
 intro w μ loc us Ur fP qU hap yc;simp only [Bool.and_eq_true] at de;simp only [yE,Bool.and_eq_true] at hok;obtain ⟨hm,Xm⟩:=hok;have hfn:Ku fn=true:=List.all_eq_true.1 Xm fn (List.mem_of_getElem? (show P.funcs.toList[f]? =some fn by simpa using hf));simp only [Ku,hb,Bool.and_eq_true,Bool.not_eq_true'] at hfn;obtain ⟨⟨hsmall,hname⟩,cK⟩:=hfn;have hlen:=ja yc;have hle:args.length≤fn.ntmps:=Nat.le_of_ble_eq_true de.1;refine ⟨fun w2=> ?_,?_⟩
 ·have Xp:¬(fn.name= "runtime.NumGoroutine"):=by simpa using hname
  simp [callFunc,hf,Xp,hb]
 refine calls_of_wp hf hb ?_;have hR:Rel fn.ntmps w μ (gU q loc (bU.map (·.1))) μ loc { env:=find (qN 0 args),ob:=find bU } { tmps:=us.toArray++Array.replicate (fn.ntmps-us.toArray.size) undef,defers:=[] } w:=by
  refine ⟨Nat.le_of_ble_eq_true hsmall,?_,?_,?_,rfl,?_,fP,⟨Mu.le.refl _,fun _ _ _ h=> .inl h⟩,qU,hap,fun _ _ _=>rfl,rfl,rfl,rfl,Nat.le_refl _,fun _=>Nat.le_refl _⟩
  ·intro id hid
   have:¬(id∈bU.map (·.1)):=fun hm=>by
    have:=List.all_eq_true.1 de.2 id hm;have h0:s4 id=true:=by simpa [s4,Nat.blt_eq] using hid
    rw [h0] at this;cases this
   simp only [gU,if_neg this]
  ·intro id v hv _
   simp only [gU] at hv;split at hv
   ·injection hv
   ·cases hv
  ·simp;omega
  ·intro i s hi
   obtain ⟨k,hk,hs⟩:=HS args 0 i s hi;obtain ⟨u,hu,hr⟩:=EC yc hs;have hlt:=(List.getElem?_eq_some_iff.1 hu).1;refine ⟨u,?_,hr⟩;rw [hk,Nat.zero_add,Array.getElem?_append_left (by simpa using hlt)];simpa using hu
 refine wp_mono (Be (B:=B) Ur (fm.mono Ur) hm n c _ e st cK (hblk fn c hf hb) hx μ loc _ w hR) ?_
 rintro e' a' w' ⟨rfl,μ1,OW,h1⟩
 have fin:∀(e:Ex),Qz P fn bU e st=some (r,dP)→(∀id,e≠ .exit id)→a'.defers=[]∧∃v,(results fn a'.tmps).run P w'= .ok v w'∧∃v' μ' loc',Ending.returned v= .returned v'∧fk q μ loc (bU.map (·.1)) r dP w v' μ' loc' w':=by
  intro e hend hne
  have sN:(match Gv fn (bU.map (·.1)) st with
   |some n=>match oF (bU.map (·.1)) st (bU.map (·.1)) with
    |some l=>some (AV.self n,l)
    |none=>none
   |none=>match lT P fn.results.toList st with
   |some (st',vs)=>match oF (bU.map (·.1)) st' (bU.map (·.1)) with
    |some l=>some (result vs,l)
    |none=>none
   |none=>none)=some (r,dP):=by
   cases e with
   |exit id=>exact absurd rfl (hne id)
   |normal=>exact hend
   |ret=>exact hend
  split at sN
  ·rename_i n rW
   split at sN
   ·rename_i l sM
    simp only [Option.some.injEq,Prod.mk.injEq] at sN;obtain ⟨rfl,rfl⟩:=sN;have iW:=zq sM;have post:∀v,(∃A m c,OW 10000= .slice A m c∧n≤m∧v= .slice A n c)→10000∈bU.map (·.1)→fk q μ loc (bU.map (·.1)) (.self n) l w v μ1 OW w':=fun v ⟨A,m,c,k1,k2,k3⟩ hmem=>
     ⟨h1.base,h1.r7, .inr ⟨n,A,m,c,rfl,hmem,k1,k2,k3⟩,fun id o ho=>h1.obs id o (iW id o ho),fun i j oi oj hi hj=>h1.apart i j oi oj (iW i oi hi) (iW j oj hj),h1.keep,
      fun id hid hlt=>h1.fix id (loc id) (by simp [gU,hid]) hlt,h1.os,h1.tape,h1.output,h1.grown,h1.drawn⟩
    unfold Gv at rW;split at rW
    ·rename_i t hres Xq
     have hone:∀u,a'.tmps[t]? =some u→(results fn a'.tmps).run P w'= .ok u w':=fun u hu=>by
      obtain ⟨v,hrun,hv⟩:=zX (P:=P) (fn:=fn) (tmps:=a'.tmps) (w:=w') (us:=[u]) (by
       rw [hres];have:a'.tmps.getD t undef=u:=by simp [hu]
       simp [List.mapM_cons,og,this])
      rcases hv with ⟨u',e,rfl⟩|⟨hne,_⟩
      ·injection e with e;rw [e];exact hrun
      ·simp at hne
     have hmem:10000∈bU.map (·.1):=by rw [Xq];simp
     split at rW
     ·rename_i e' sz' xs' he cU
      injection rW with rW;subst rW
      obtain ⟨u,hu,hr⟩:=h1.env t _ he;have hr:u=dR (OW 10000):=hr;rw [iG (h1.obs 10000 _ cU)] at hr;obtain ⟨vs,hown,_⟩:=h1.obs 10000 _ cU;refine ⟨h1.defers,u,hone u hu,u,μ1,OW,rfl,post u ?_ hmem⟩;rcases hown.2 with ⟨e1,e2⟩|⟨g,cap,cur,e1,_⟩
      ·exact ⟨none,0,0,e1,by omega,by rw [hr,e1,e2]⟩
      ·exact ⟨_,_,cap,e1,Nat.le_refl _,by rw [hr,e1]⟩
     ·rename_i sz' n' e' sz2 xs' he cU
      injection rW with rW;subst rW
      obtain ⟨u,hu,hr⟩:=h1.env t _ he;obtain ⟨A,m,c,A',c',k1,_,k2,_,k3,k4,_⟩:=hr;obtain ⟨rfl,rfl⟩:=k4 rfl;exact ⟨h1.defers,u,hone u hu,u,μ1,OW,rfl,post u ⟨A',m,c',k1,k2,by simpa using k3⟩ hmem⟩
     ·cases rW
    ·cases rW
   ·cases sN
  ·rename_i rW
   split at sN
   ·rename_i st2 vs ht
    split at sN
    ·rename_i l sM
     simp only [Option.some.injEq,Prod.mk.injEq] at sN;obtain ⟨rfl,rfl⟩:=sN;obtain ⟨μ2,us2,h2,hle2,hmap,hall⟩:=DE fn.results.toList h1 ht;obtain ⟨v,hrun,hv⟩:=zX hmap;refine ⟨h2.defers,v,hrun,v,μ2,OW,rfl,?_⟩;have iW:=zq sM
     exact ⟨h2.base,h2.r7, .inl (LZ hall hv),fun id o ho=>h2.obs id o (iW id o ho),fun i j oi oj hi hj=>h2.apart i j oi oj (iW i oi hi) (iW j oj hj),h2.keep,
      fun id hid hlt=>h2.fix id (loc id) (by simp [gU,hid]) hlt,h2.os,h2.tape,h2.output,h2.grown,h2.drawn⟩
    ·cases sN
   ·cases sN
 cases e with
 |exit id=>simp [Qz,QA] at hend
 |normal=>exact fin .normal hend (by simp)
 |ret=>exact fin .ret hend (by simp)
end Go.AM
set_option linter.unusedVariables false
set_option linter.unusedSimpArgs false
namespace Go.AM
open Go.RowKit
theorem bM {R:Type} {b:Bool} {x:Option R} {r:R} (hv:(bif b then x else none)=some r):b=true∧x=some r:=by
 cases b with
 |true=>exact ⟨rfl,hv⟩
 |false=>cases hv
abbrev G6:=List (Nat×List SV×List (Nat×Ob)×(AV×List (Nat×Ob)))
def Holds (F:dm) (S:G6):Prop:=∀s∈S,F s.1 s.2.1 s.2.2.1=some s.2.2.2
theorem Holds.nil {F:dm}:Holds F []:=fun _ h=>by cases h
theorem Holds.append {F:dm} {S T:G6} (h:Holds F S) (k:Holds F T):Holds F (S++T):=fun s hs=>(List.mem_append.1 hs).elim (h s) (k s)
theorem Holds.left {F:dm} {S T:G6} (h:Holds F (S++T)):Holds F S:=fun s hs=>h s (List.mem_append.2 (.inl hs))
theorem Holds.right {F:dm} {S T:G6} (h:Holds F (S++T)):Holds F T:=fun s hs=>h s (List.mem_append.2 (.inr hs))
theorem Holds.one {F:dm} {g:Nat} {args:List SV} {bU:List (Nat×Ob)} {r:AV×List (Nat×Ob)} (h:F g args bU=some r):Holds F [(g,args,bU,r)]:=fun s hs=>by
 simp only [List.mem_singleton] at hs;subst hs;exact h
theorem Holds.get {F:dm} {g:Nat} {args:List SV} {bU:List (Nat×Ob)} {r:AV×List (Nat×Ob)} (h:Holds F [(g,args,bU,r)]):F g args bU=some r:=h _ (List.mem_singleton.2 rfl)
section
variable {P:Program} {h:Hint} {F0:dm}
theorem Ke {c:Call} {f:Operand} {st:St} {r:AV} (hv:lz P h F0 st c f=some r):∃S,Holds F0 S∧∀F,Holds F S→lz P h F st c f=some r:=by
 unfold lz at hv;split at hv
 ·rename_i g args ha
  obtain ⟨hb,hv⟩:=bM hv;split at hv
  ·rename_i bU hl
   split at hv
   ·rename_i r' dP hr
    refine ⟨_,Holds.one hr,fun F hF=> ?_⟩;simp only [lz,ha,hb,cond_true,hl,hF.get];exact hv
   ·cases hv
  ·cases hv
 ·cases hv
theorem HZ {o:Oper} {st:St} {v:SV} (hv:cM P h F0 o st=some v):∃S,Holds F0 S∧∀F,Holds F S→cM P h F o st=some v:=by
 cases ho:o.op with
 |call c=>
  cases hc:c.callee with
  |value f=>
   simp only [cM,ho,hc] at hv;cases hro:(o.dst.any h.stay.contains&&wide st c f) with
   |true=>
    rw [hro] at hv;simp only [cond_true,Option.map_eq_some_iff] at hv;obtain ⟨r,hr,rfl⟩:=hv;obtain ⟨S,hS,hk⟩:=Ke hr;refine ⟨S,hS,fun F hF=> ?_⟩;simp only [cM,ho,hc];rw [hro,hk F hF];rfl
   |false=>
   rw [hro] at hv;simp only [cond_false] at hv;cases gw:(wide st c f||c.args.toList.any (fun x=>(ji h st x).isSome)) with
   |true=>rw [gw] at hv;cases hv
   |false=>
    rw [gw] at hv;simp only [cond_false] at hv;split at hv
    ·rename_i g caps vs hf hvs
     split at hv
     ·rename_i r hr
      refine ⟨_,Holds.one hr,fun F hF=> ?_⟩;simp only [cM,ho,hc,hf,hvs,hF.get];rw [hro,gw];exact hv
     ·cases hv
    ·cases hv
  |builtin b=>exact ⟨[],Holds.nil,fun F _=>by simp only [cM,ho,hc] at hv⊢;exact hv⟩
  |invoke r m=>exact ⟨[],Holds.nil,fun F _=>by simp only [cM,ho,hc] at hv⊢;exact hv⟩
 |makeFunc fn first caps=>exact ⟨[],Holds.nil,fun F _=>by cases fn<;>simp only [cM,ho] at hv⊢<;>exact hv⟩
 |_=>exact ⟨[],Holds.nil,fun F _=>by simp only [cM,ho] at hv⊢;exact hv⟩
theorem Hs {c:Call} {f:Operand} {st:St} {d:Option Nat} {x:St} (hv:jG P h F0 st c f d=some x):∃S,Holds F0 S∧∀F,Holds F S→jG P h F st c f d=some x:=by
 unfold jG at hv;split at hv
 ·rename_i g caps vs id hf hvs
  split at hv
  ·rename_i e sz xs cU
   split at hv
   ·rename_i r nm e' sz' xs' hr
    refine ⟨_,Holds.one hr,fun F hF=> ?_⟩;simp only [jG,hf,hvs,cU,hF.get];exact hv
   ·cases hv
  ·cases hv
 ·cases hv
theorem Ff {c:Call} {f:Operand} {st:St} {d:Option Nat} {x:St} (hv:gp P h F0 st c f d=some x):∃S,Holds F0 S∧∀F,Holds F S→gp P h F st c f d=some x:=by
 unfold gp at hv;split at hv
 ·rename_i g caps vs hf hvs
  simp only [] at hv;obtain ⟨hb,hv⟩:=bM hv;split at hv
  ·rename_i bU hl
   split at hv
   ·rename_i r dP hr
    refine ⟨_,Holds.one hr,fun F hF=> ?_⟩;simp only [gp,hf,hvs,hb,cond_true,hl,hF.get];exact hv
   ·cases hv
  ·cases hv
 ·cases hv
theorem Ou {o:Oper} {st:St} (ho:∀c,o.op≠ .call c) (F:dm):mS P h F o st=mS P h F0 o st:=by
 unfold mS;split<;>first|rfl|(rename_i hc;exact absurd hc (ho _))|(rename_i hc _;exact absurd hc (ho _))
theorem Gn {st st':St} {id:Nat} (hp:st.cQ id=some st') {x:Operand} {ty:TypeId} {a:AV} (hl:(bw P ty st x).bind (nS st)=some a):(bw P ty st' x).bind (nS st')=some a:=by
 unfold St.cQ at hp;split at hp
 ·rename_i e sz xs hb cU
  injection hp with hp
  subst hp;cases x with
  |tmp i=>
   simp only [bw] at hl⊢;cases hi:st.env i with
   |none=>rw [hi] at hl;cases hl
   |some s=>
    rw [hi] at hl;simp only [Option.bind_some,Option.map_some] at hl⊢;cases s with
    |pv v=>simpa [nS,SV.cQ,SV.bV,SV.mentions] using hl
    |row j=>
     simp only [nS] at hl;simp only [SV.cQ];cases hj:Nat.beq j id with
     |true=>
      have:=beq_iff.1 hj;subst this;rw [cU] at hl;simpa [nS] using hl
     |false=>
      have hne:id≠j:=fun e=>by subst e;simp [beq_iff.2] at hj
      simp only [cond_false,nS,aX _ _ hne];obtain ⟨ob,ql,hval⟩:=Option.bind_eq_some_iff.1 hl;rw [ql];cases ob with
      |box t cells=>simp [Ob.val] at hval
      |row e' sz' xs'=>simpa [Ob.cQ] using hval
      |mp k' e' ks' vs'=>simpa [Ob.cQ] using hval
      |mr k' e' s' ks' vs'=>simpa [Ob.cQ] using hval
      |it s' n'=>simp [Ob.val] at hval
    |_=>cases hl
  |const v=>simp only [bw] at hl⊢;cases hc:ofConst P ty v<;>simp [hc,nS] at hl⊢;exact hl
  |func f=>simpa [bw,nS] using hl
  |global g=>simp [bw] at hl
 ·cases hp
theorem r8:∀{xs:List Operand} {st st':St},mS.dV st xs=some st'→∀{x:Operand} {ty:TypeId} {a:AV},(bw P ty st x).bind (nS st)=some a→(bw P ty st' x).bind (nS st')=some a:=by
 intro xs
 induction xs with
 |nil=>intro st st' hp x ty a hl;simp only [mS.dV,Option.some.injEq] at hp;subst hp;exact hl
 |cons y xs ih=>
  intro st st' hp x ty a hl;cases y with
  |tmp i=>
   simp only [mS.dV] at hp;split at hp
   ·rename_i id hi
    cases h1:st.cQ id with
    |none=>rw [h1] at hp;cases hp
    |some st1=>rw [h1] at hp;exact ih hp (Gn h1 hl)
   ·exact ih hp hl
  |const v=>exact ih hp hl
  |func f=>exact ih hp hl
  |global g=>exact ih hp hl
theorem vn {st st':St} {ys:List Operand} (hp:mS.dV st ys=some st'):∀{xs:List Operand} {ts:List TypeId} {vs:List AV},ff P st xs ts=some vs→ff P st' xs ts=some vs:=by
 intro xs
 induction xs with
 |nil=>intro ts vs hl;exact hl
 |cons x xs ih=>
  intro ts vs hl;simp only [ff] at hl⊢;split at hl
  ·rename_i v us hv yc
   rw [r8 hp hv,ih yc];exact hl
  ·cases hl
theorem Du {st st':St} {ys:List Operand} (hp:mS.dV st ys=some st') {f:Operand} {g:Nat} {caps:List AV} (hf:bw P 0 st f=some (.pv (.fn g caps))):bw P 0 st' f=some (.pv (.fn g caps)):=by
 have:=r8 (P:=P) hp (x:=f) (ty:=0) (a:= .fn g caps) (by rw [hf];rfl);cases h1:bw P 0 st' f with
 |none=>rw [h1] at this;cases this
 |some s=>
  rw [h1] at this;simp only [Option.bind_some] at this;cases s with
  |pv v=>simp only [nS,Option.some.injEq] at this;rw [this]
  |row id=>
   simp only [nS] at this;obtain ⟨ob,_,hval⟩:=Option.bind_eq_some_iff.1 this;cases ob<;>simp [Ob.val] at hval
  |_=>cases this
theorem MG {o:Oper} {st st':St} (hv:mS P h F0 o st=some st'):∃S,Holds F0 S∧∀F,Holds F S→mS P h F o st=some st':=by
 cases ho:o.op with
 |call c=>
  cases hc:c.callee with
  |value f=>
   have e1:∀F,mS P h F o st=(bif o.dst.any h.stay.contains&&wide st c f then none else bif wide st c f then gp P h F st c f o.dst else bif c.args.toList.any (fun x=>(ji h st x).isSome) then jG P h F st c f o.dst else
    match mS.dV st c.args.toList with
    |some st'=>match bw P 0 st' f,ff P st' c.args.toList c.argTypes.toList with
     |some (.pv (.fn g caps)),some vs=>match F g ((vs++caps).map .pv) [] with
      |some (r,[])=>bif c.args.toList.any (j7 st')|| !r.ig then none else some (st'.set o.dst (.pv r))
      |_=>none
     |_,_=>none
    |none=>none):=fun F=>by
    cases hd:o.dst<;>simp only [mS,ho,hc,hd]<;>rfl
   rw [e1] at hv;cases hro:(o.dst.any h.stay.contains&&wide st c f) with
   |true=>rw [hro] at hv;cases hv
   |false=>
   rw [hro] at hv;simp only [cond_false] at hv;cases hw:wide st c f with
   |true=>
    rw [hw] at hv;simp only [cond_true] at hv;obtain ⟨S,hS,hall⟩:=Ff hv;exact ⟨S,hS,fun F hF=>by rw [e1,hro,hw];simp only [cond_true,cond_false,hall F hF]⟩
   |false=>
   rw [hw] at hv;simp only [cond_false] at hv;cases gw:c.args.toList.any (fun x=>(ji h st x).isSome) with
   |true=>
    rw [gw] at hv;simp only [cond_true] at hv;obtain ⟨S,hS,hall⟩:=Hs hv;exact ⟨S,hS,fun F hF=>by rw [e1,hro,hw,gw];simp only [cond_true,cond_false,hall F hF]⟩
   |false=>
    rw [gw] at hv;simp only [cond_false] at hv;split at hv
    ·rename_i st1 hp
     split at hv
     ·rename_i g caps vs hf hvs
      split at hv
      ·rename_i r hr
       refine ⟨_,Holds.one hr,fun F hF=> ?_⟩;rw [e1,hro,hw,gw];simp only [cond_false,hp,hf,hvs,hF.get];exact hv
      ·cases hv
     ·cases hv
    ·cases hv
  |builtin b=>exact ⟨[],Holds.nil,fun F _=>by cases hd:o.dst<;>cases b<;>simp only [mS,ho,hc,hd] at hv⊢<;>exact hv⟩
  |invoke r m=>exact ⟨[],Holds.nil,fun F _=>by cases hd:o.dst<;>simp only [mS,ho,hc,hd] at hv⊢<;>exact hv⟩
 |_=>exact ⟨[],Holds.nil,fun F _=>by rw [Ou (F0:=F0) (fun c hc=>by rw [ho] at hc;cases hc) F];exact hv⟩
theorem Cf {o:Oper} {st st':St} (hv:step P h F0 o st=some st'):∃S,Holds F0 S∧∀F,Holds F S→step P h F o st=some st':=by
 unfold step at hv;split at hv
 ·rename_i v hf
  obtain ⟨S,hS,hall⟩:=HZ hf;exact ⟨S,hS,fun F hF=>by simp only [step,hall F hF];exact hv⟩
 ·rename_i hf
  have done:∀S,Holds F0 S→(∀F,Holds F S→cM P h F o st=none∧mS P h F o st=some st')→∃S,Holds F0 S∧∀F,Holds F S→step P h F o st=some st':=fun S hS hall=>
   ⟨S,hS,fun F hF=>by simp only [step,(hall F hF).1];exact (hall F hF).2⟩
  have Uh:(∀F,cM P h F o st=cM P h F0 o st)→∃S,Holds F0 S∧∀F,Holds F S→step P h F o st=some st':=fun hsame=>by
   obtain ⟨S,hS,hall⟩:=MG hv;exact done S hS fun F hF=>⟨by rw [hsame F];exact hf,hall F hF⟩
  cases ho:o.op with
  |call c=>
   cases hc:c.callee with
   |value f=>
    cases hro:(o.dst.any h.stay.contains&&wide st c f) with
    |true=>
     cases hd:o.dst<;>(simp only [mS,ho,hc,hd] at hv;rw [hd] at hro;rw [hro] at hv;cases hv)
    |false=>
    cases Bo:(wide st c f||c.args.toList.any (fun x=>(ji h st x).isSome)) with
    |true=>
     obtain ⟨S,hS,hall⟩:=MG hv;exact done S hS fun F hF=>⟨by simp only [cM,ho,hc];rw [hro,Bo];rfl,hall F hF⟩
    |false=>
     obtain ⟨TT,gw⟩:=Bool.or_eq_false_iff.1 Bo
     have e1:∀F,mS P h F o st=(bif o.dst.any h.stay.contains&&wide st c f then none else bif wide st c f then gp P h F st c f o.dst else bif c.args.toList.any (fun x=>(ji h st x).isSome) then jG P h F st c f o.dst else
      match mS.dV st c.args.toList with
      |some st'=>match bw P 0 st' f,ff P st' c.args.toList c.argTypes.toList with
       |some (.pv (.fn g caps)),some vs=>match F g ((vs++caps).map .pv) [] with
        |some (r,[])=>bif c.args.toList.any (j7 st')|| !r.ig then none else some (st'.set o.dst (.pv r))
        |_=>none
       |_,_=>none
      |none=>none):=fun F=>by
      cases hd:o.dst<;>simp only [mS,ho,hc,hd]<;>rfl
     rw [e1,hro,TT,gw] at hv;simp only [cond_false] at hv;split at hv
     ·rename_i st1 hp
      split at hv
      ·rename_i g caps vs hfn hvs
       split at hv
       ·rename_i r hr
        refine done _ (Holds.one hr) fun F hF=>⟨?_,?_⟩
        ·simp only [cM,ho,hc]
         rw [hro,Bo];simp only [cond_false];split
         ·rename_i g2 caps2 YW hfn2 hvs2
          have k1:=Du hp hfn2;rw [hfn] at k1;simp only [Option.some.injEq,SV.pv.injEq,AV.fn.injEq] at k1;obtain ⟨rfl,rfl⟩:=k1;have k2:=vn hp hvs2;rw [hvs] at k2;injection k2 with k2
          subst k2;simp only [cM,ho,hc] at hf;rw [hro,Bo] at hf;simp only [cond_false,hfn2,hvs2,hr] at hf;rw [hF.get];exact hf
         ·rfl
        ·rw [e1,hro,TT,gw]
         simp only [cond_false,hp,hfn,hvs,hF.get];exact hv
       ·cases hv
      ·cases hv
     ·cases hv
   |builtin b=>exact Uh fun F=>by simp only [cM,ho,hc]
   |invoke r m=>exact Uh fun F=>by simp only [cM,ho,hc]
  |makeFunc fn first caps=>exact Uh fun F=>by cases fn<;>simp only [cM,ho]
  |_=>exact Uh fun F=>by simp only [cM,ho]
theorem L2 {ops:Array Oper}:∀{l:List Oper} {st st':St},jq P h F0 ops l st=some st'→∃S,Holds F0 S∧∀F,Holds F S→jq P h F ops l st=some st':=by
 intro l
 induction l with
 |nil=>intro st st' hv;exact ⟨[],Holds.nil,fun F _=>hv⟩
 |cons o l ih=>
  intro st st' hv;simp only [jq] at hv;split at hv
  ·rename_i b hw
   cases b with
   |true=>
    simp only [cond_true] at hv;cases hs:step P h F0 o st with
    |none=>rw [hs] at hv;cases hv
    |some st1=>
     rw [hs] at hv;obtain ⟨S1,h1,k1⟩:=Cf hs;obtain ⟨S2,h2,k2⟩:=ih hv;exact ⟨S1++S2,h1.append h2,fun F hF=>by simp only [jq,hw,cond_true,k1 F hF.left,Option.bind_some];exact k2 F hF.right⟩
   |false=>
    simp only [cond_false] at hv;obtain ⟨S2,h2,k2⟩:=ih hv;exact ⟨S2,h2,fun F hF=>by simp only [jq,hw,cond_false];exact k2 F hF⟩
  ·cases hv
theorem Jk {ops:Array Oper} {fresh:List (Nat×Nat)}:∀{l:List Oper} {i:Nat} {prev:List (Nat×dY)} {st st':St},cn P h F0 ops fresh i l prev st=some st'→∃S,Holds F0 S∧∀F,Holds F S→cn P h F ops fresh i l prev st=some st':=by
 intro l
 induction l with
 |nil=>intro i prev st st' hv;exact ⟨[],Holds.nil,fun F _=>hv⟩
 |cons o l ih=>
  intro i prev st st' hv;simp only [cn] at hv;split at hv
  ·cases hv
  ·rename_i b hw
   cases b with
   |true=>
    simp only [cond_true] at hv;cases hF:isF h st o with
    |true=>
     simp only [hF,cond_true] at hv;split at hv
     ·rename_i v hf
      obtain ⟨hb,hv⟩:=bM hv;obtain ⟨S1,h1,k1⟩:=HZ hf;obtain ⟨S2,h2,k2⟩:=ih hv;exact ⟨S1++S2,h1.append h2,fun F hS=>by simp only [cn,hw,cond_true,hF,k1 F hS.left,hb];exact k2 F hS.right⟩
     ·cases hv
    |false=>
     simp only [hF,cond_false] at hv
     have all:(bif fresh.all (fun p=>Nat.blt p.2 i)&&e9 ops prev i eH then
       match step P h F0 o st with
       |some st'=>cn P h F0 ops fresh (i+1) l ((i,eH)::prev) st'
       |none=>none
      else none)=some st'→∃S,Holds F0 S∧∀F,Holds F S→(bif fresh.all (fun p=>Nat.blt p.2 i)&&e9 ops prev i eH then
       match step P h F o st with
       |some st'=>cn P h F ops fresh (i+1) l ((i,eH)::prev) st'
       |none=>none
      else none)=some st':=fun hv=>by
      obtain ⟨hb,hv⟩:=bM hv;split at hv
      ·rename_i st1 hs
       obtain ⟨S1,h1,k1⟩:=Cf hs;obtain ⟨S2,h2,k2⟩:=ih hv;exact ⟨S1++S2,h1.append h2,fun F hS=>by simp only [hb,cond_true,k1 F hS.left];exact k2 F hS.right⟩
      ·cases hv
     split at hv
     ·rename_i t x y ho hd
      split at hv
      ·rename_i sa sv hx hy
       split at hv
       ·rename_i id st1 ht hst
        obtain ⟨hb,hv⟩:=bM hv;obtain ⟨S2,h2,k2⟩:=ih hv;exact ⟨S2,h2,fun F hS=>by simp only [cn,hw,cond_true,hF,cond_false,ho,hd,hx,hy,ht,hst,hb];exact k2 F hS⟩
       ·cases hv
      ·cases hv
     ·rename_i t d ho hd
      cases hrw:h.rows.contains d with
      |true=>rw [hrw] at hv;cases hv
      |false=>
      rw [hrw] at hv;simp only [cond_false] at hv;split at hv
      ·rename_i z hz
       obtain ⟨hb,hv⟩:=bM hv;obtain ⟨S2,h2,k2⟩:=ih hv;exact ⟨S2,h2,fun F hS=>by simp only [cn,hw,cond_true,hF,cond_false,ho,hd,hrw,hz,hb];exact k2 F hS⟩
      ·cases hv
     ·rename_i c ho
      split at hv
      ·rename_i id iD
       obtain ⟨hb,hv⟩:=bM hv;split at hv
       ·rename_i st1 hs
        obtain ⟨S1,h1,k1⟩:=Cf hs;obtain ⟨S2,h2,k2⟩:=ih hv;exact ⟨S1++S2,h1.append h2,fun F hS=>by simp only [cn,hw,cond_true,hF,cond_false,ho,iD,hb,k1 F hS.left];exact k2 F hS.right⟩
       ·cases hv
      ·rename_i iD
       obtain ⟨S,hS,k⟩:=all hv;exact ⟨S,hS,fun F Dg=>by simp only [cn,hw,cond_true,hF,cond_false,ho,iD];exact k F Dg⟩
     ·rename_i ho
      obtain ⟨S,hS,k⟩:=all hv;exact ⟨S,hS,fun F Dg=>by simp only [cn,hw,cond_true,hF,cond_false,ho];exact k F Dg⟩
     ·rename_i ho
      obtain ⟨S,hS,k⟩:=all hv;exact ⟨S,hS,fun F Dg=>by simp only [cn,hw,cond_true,hF,cond_false,ho];exact k F Dg⟩
     ·rename_i ho
      obtain ⟨S,hS,k⟩:=all hv;exact ⟨S,hS,fun F Dg=>by simp only [cn,hw,cond_true,hF,cond_false,ho];exact k F Dg⟩
     ·rename_i ho
      obtain ⟨S,hS,k⟩:=all hv;exact ⟨S,hS,fun F Dg=>by simp only [cn,hw,cond_true,hF,cond_false,ho];exact k F Dg⟩
     ·rename_i ho
      obtain ⟨S,hS,k⟩:=all hv;exact ⟨S,hS,fun F Dg=>by simp only [cn,hw,cond_true,hF,cond_false,ho];exact k F Dg⟩
     ·rename_i ho
      obtain ⟨S,hS,k⟩:=all hv;exact ⟨S,hS,fun F Dg=>by simp only [cn,hw,cond_true,hF,cond_false,ho];exact k F Dg⟩
     ·rename_i ho
      obtain ⟨S,hS,k⟩:=all hv;exact ⟨S,hS,fun F Dg=>by simp only [cn,hw,cond_true,hF,cond_false,ho];exact k F Dg⟩
     ·rename_i ho
      obtain ⟨S,hS,k⟩:=all hv;exact ⟨S,hS,fun F Dg=>by simp only [cn,hw,cond_true,hF,cond_false,ho];exact k F Dg⟩
     ·rename_i ho
      obtain ⟨S,hS,k⟩:=all hv;exact ⟨S,hS,fun F Dg=>by simp only [cn,hw,cond_true,hF,cond_false,ho];exact k F Dg⟩
     ·rename_i ho
      obtain ⟨S,hS,k⟩:=all hv;exact ⟨S,hS,fun F Dg=>by simp only [cn,hw,cond_true,hF,cond_false,ho];exact k F Dg⟩
     ·cases hv
   |false=>
    simp only [cond_false] at hv;obtain ⟨hb,hv⟩:=bM hv;obtain ⟨S2,h2,k2⟩:=ih hv;exact ⟨S2,h2,fun F hS=>by simp only [cn,hw,cond_false,hb,cond_true];exact k2 F hS⟩
theorem Bd {n:Nat}:∀(c:Code) {st:St} {x:Ex×St},exec P h F0 n c st=some x→∃S,Holds F0 S∧∀F m,Holds F S→n≤m→exec P h F m c st=some x:=by
 intro c
 induction c with
 |skip=>intro st x hv;exact ⟨[],Holds.nil,fun F m _ _=>hv⟩
 |label l=>intro st x hv;exact ⟨[],Holds.nil,fun F m _ _=>hv⟩
 |exit id=>intro st x hv;exact ⟨[],Holds.nil,fun F m _ _=>hv⟩
 |ret=>intro st x hv;exact ⟨[],Holds.nil,fun F m _ _=>hv⟩
 |region id ops draw=>
  intro st x hv;simp only [exec] at hv;obtain ⟨st1,fP,hv⟩:=Option.bind_eq_some_iff.1 hv;cases draw with
  |true=>
   simp only [cond_true] at hv;obtain ⟨hb,hv⟩:=bM hv;simp only [Option.map_eq_some_iff] at hv;obtain ⟨s,hr,rfl⟩:=hv;obtain ⟨S,hS,k⟩:=Jk hr;exact ⟨S,hS,fun F m hF _=>by simp only [exec,fP,Option.bind_some,cond_true,hb,k F hF,Option.map_some]⟩
  |false=>
   simp only [cond_false,Option.map_eq_some_iff] at hv;obtain ⟨s,hr,rfl⟩:=hv;obtain ⟨S,hS,k⟩:=L2 hr;exact ⟨S,hS,fun F m hF _=>by simp only [exec,fP,Option.bind_some,cond_false,k F hF,Option.map_some]⟩
 |seq a b Uz VF=>
  intro st x hv;simp only [exec] at hv;cases C0:find h.blk (cu a) with
  |some z=>simp only [C0] at hv;exact ⟨[],Holds.nil,fun F m _ _=>by simp only [exec,C0];exact hv⟩
  |none=>
  simp only [C0] at hv;split at hv
  ·rename_i st1 ha
   obtain ⟨S1,h1,k1⟩:=Uz ha;obtain ⟨S2,h2,k2⟩:=VF hv;exact ⟨S1++S2,h1.append h2,fun F m hF hm=>by simp only [exec,C0,k1 F m hF.left hm];exact k2 F m hF.right hm⟩
  ·rename_i hne
   obtain ⟨S1,h1,k1⟩:=Uz hv;refine ⟨S1,h1,fun F m hF hm=> ?_⟩;simp only [exec,C0,k1 F m hF hm];obtain ⟨e,s⟩:=x;cases e with
   |normal=>exact absurd hv (hne s)
   |exit j=>rfl
   |ret=>rfl
 |cond c a b Uz VF=>
  intro st x hv;simp only [exec] at hv;split at hv
  ·rename_i t hc
   cases t with
   |true=>obtain ⟨S,hS,k⟩:=Uz hv;exact ⟨S,hS,fun F m hF hm=>by simp only [exec,hc,cond_true];exact k F m hF hm⟩
   |false=>obtain ⟨S,hS,k⟩:=VF hv;exact ⟨S,hS,fun F m hF hm=>by simp only [exec,hc,cond_false];exact k F m hF hm⟩
  ·cases hv
 |block id c ih=>
  intro st x hv;simp only [exec] at hv;split at hv
  ·rename_i j s hc
   obtain ⟨S,hS,k⟩:=ih hc;exact ⟨S,hS,fun F m hF hm=>by simp only [exec,k F m hF hm];exact hv⟩
  ·rename_i hne
   obtain ⟨S,hS,k⟩:=ih hv;refine ⟨S,hS,fun F m hF hm=> ?_⟩;simp only [exec,k F m hF hm];obtain ⟨e,s⟩:=x;cases e with
   |normal=>rfl
   |exit j=>exact absurd hv (hne j s)
   |ret=>rfl
 |loop c ih=>
  intro st x hv;simp only [exec] at hv;have key:∀(q:Nat) {st:St} {x:Ex×St},iter h (cu c) (exec P h F0 n c) q st=some x→∃S,Holds F0 S∧∀F m q',Holds F S→n≤m→q≤q'→iter h (cu c) (exec P h F m c) q' st=some x:=by
   intro q
   induction q with
   |zero=>intro st x hv;simp [iter] at hv
   |succ q ihq=>
    intro st x hv;simp only [iter] at hv;split at hv
    ·rename_i st1 hc
     obtain ⟨S1,h1,k1⟩:=ih hc;obtain ⟨S2,h2,k2⟩:=ihq hv;refine ⟨S1++S2,h1.append h2,fun F m q' hF hm hq=> ?_⟩;obtain ⟨UT,rfl⟩:∃UT,q'=UT+1:=⟨q'-1,by omega⟩
     simp only [iter,k1 F m hF.left hm];exact k2 F m UT hF.right hm (by omega)
    ·rename_i hne
     obtain ⟨S1,h1,k1⟩:=ih hv;refine ⟨S1,h1,fun F m q' hF hm hq=> ?_⟩;obtain ⟨UT,rfl⟩:∃UT,q'=UT+1:=⟨q'-1,by omega⟩
     simp only [iter,k1 F m hF hm];obtain ⟨e,s⟩:=x;cases e with
     |normal=>exact absurd hv (hne s)
     |exit j=>rfl
     |ret=>rfl
  obtain ⟨S,hS,k⟩:=key n hv;exact ⟨S,hS,fun F m hF hm=>by simp only [exec];exact k F m m hF hm hm⟩
 |scope c ih=>
  intro st x hv;simp only [exec] at hv;obtain ⟨S,hS,k⟩:=ih hv;exact ⟨S,hS,fun F m hF hm=>by simp only [exec];exact k F m hF hm⟩
 |rangeFunc f ps a b Uz VF=>intro st x hv;simp [exec] at hv
 |goto l=>intro st x hv;simp [exec] at hv
 |refuse s=>intro st x hv;simp [exec] at hv
theorem iT {n m:Nat} (hm:n≤m) {c:Code} {st:St} {x:Ex×St} (hv:exec P h F0 n c st=some x):exec P h F0 m c st=some x:=by
 obtain ⟨S,hS,k⟩:=Bd c hv;exact k F0 m hS hm
end
section
variable {P:Program} {H:Nat→Hint} {dg:dm}
theorem Kd:∀(n:Nat) {f:Nat} {args:List SV} {bU:List (Nat×Ob)} {r:AV×List (Nat×Ob)},kV P H dg n f args bU=some r→kV P H dg (n+1) f args bU=some r:=by
 intro n
 induction n with
 |zero=>intro f args bU r hv;simp [kV] at hv
 |succ n ih=>
  intro f args bU r hv;rw [kV] at hv⊢;dsimp only at hv⊢;split at hv
  ·rename_i x hp;(try simp only [hp]);exact hv
  ·rename_i hp
   (try simp only [hp])
   split at hv
   ·rename_i fn hf
    (try simp only [hf])
    split at hv
    ·rename_i c hb
     (try simp only [hb])
     obtain ⟨hc,hv⟩:=bM hv;rw [hc];simp only [cond_true];split at hv
     ·rename_i e st hx
      obtain ⟨S,hS,k⟩:=Bd c hx;have hS':Holds (kV P H dg (n+1)) S:=fun s hs=>ih (hS s hs)
      rw [k _ (n+1) hS' (by omega)];exact hv
     ·cases hv
    ·cases hv
   ·cases hv
theorem nF {n m:Nat} (hm:n≤m) {f:Nat} {args:List SV} {bU:List (Nat×Ob)} {r:AV×List (Nat×Ob)} (hv:kV P H dg n f args bU=some r):kV P H dg m f args bU=some r:=by
 induction hm with
 |refl=>exact hv
 |step _ ih=>exact Kd _ ih
noncomputable def run (P:Program) (H:Nat→Hint) (dg:dm):dm:=fun f args bU=>
 open Classical in if h : ∃ r n, kV P H dg n f args bU = some r then some h.choose else none
theorem AI {f:Nat} {args:List SV} {bU:List (Nat×Ob)} {r:AV×List (Nat×Ob)}:run P H dg f args bU=some r↔∃n,kV P H dg n f args bU=some r:=by
 constructor
 ·intro hv
  unfold run at hv;split at hv
  ·rename_i hex
   injection hv with hv
   rw [←hv];exact hex.choose_spec
  ·cases hv
 ·rintro ⟨n,hn⟩
  unfold run;have hex:∃r n,kV P H dg n f args bU=some r:=⟨r,n,hn⟩
  rw [dif_pos hex];obtain ⟨m,hm⟩:=hex.choose_spec;have h1:=nF (Nat.le_max_left n m) hn;have h2:=nF (Nat.le_max_right n m) hm;rw [h1] at h2;exact h2.symm
theorem OK {S:G6} (hS:Holds (run P H dg) S):∃n,Holds (kV P H dg n) S:=by
 induction S with
 |nil=>exact ⟨0,Holds.nil⟩
 |cons s S ih=>
  obtain ⟨n,hn⟩:=ih fun t ht=>hS t (List.mem_cons_of_mem _ ht)
  obtain ⟨m,hm⟩:=AI.1 (hS s (List.mem_cons_self ..));refine ⟨max n m,fun t ht=> ?_⟩;cases List.mem_cons.1 ht with
  |inl e=>subst e;exact nF (Nat.le_max_right ..) hm
  |inr e=>exact nF (Nat.le_max_left ..) (hn t e)
theorem Jl {f:Nat} {fn:Func} {c:Code} {args:List SV} {bU:List (Nat×Ob)} {r:AV×List (Nat×Ob)} {n:Nat} {e:Ex} {st:St} (hp:dg f args bU=none)
  (hf:P.funcs[f]? =some fn) (hb:fn.body=some c) (hc:(Nat.ble args.length fn.ntmps&&(bU.map (·.1)).all (fun i=> !(s4 i)))=true)
  (hx:exec P (H f) (run P H dg) n c { env:=find (qN 0 args),ob:=find bU }=some (e,st)) (he:Qz P fn bU e st=some r):run P H dg f args bU=some r:=by
 obtain ⟨S,hS,k⟩:=Bd c hx;obtain ⟨m,hm⟩:=OK hS;have hS':Holds (kV P H dg (max n m)) S:=fun s hs=>nF (Nat.le_max_right ..) (hm s hs)
 refine AI.2 ⟨max n m+1,?_⟩;simp only [kV,hp,hf,hb,hc,cond_true,k _ (max n m) hS' (Nat.le_max_left ..)];exact he
theorem oZ {f:Nat} {args:List SV} {bU:List (Nat×Ob)} {r:AV×List (Nat×Ob)} (hp:dg f args bU=some r):run P H dg f args bU=some r:=
 AI.2 ⟨1,by simp only [kV,hp]⟩
theorem Ho {q:Prop} {B:Mu} (hok:yE P=true) (hblk:∀f fn c,P.funcs[f]? =some fn→fn.body=some c→iq q B P (H f) fn.ntmps c) (iw:eF q B P dg):∀n,eF q B P (kV P H dg n):=by
 intro n
 induction n with
 |zero=>intro g args bU r dP hv;simp [kV] at hv
 |succ n ih=>
  intro g args bU r dP hv;simp only [kV] at hv;split at hv
  ·rename_i x hp
   injection hv with hv
   subst hv;exact iw g args bU r dP hp
  ·split at hv
   ·rename_i fn hf
    split at hv
    ·rename_i c hb
     obtain ⟨hc,hv⟩:=bM hv;split at hv
     ·rename_i e st hx
      exact Kc hok (hblk g) ih hf hb hc hx hv
     ·cases hv
    ·cases hv
   ·cases hv
theorem EE {q:Prop} {B:Mu} (hok:yE P=true) (hblk:∀f fn c,P.funcs[f]? =some fn→fn.body=some c→iq q B P (H f) fn.ntmps c) (iw:eF q B P dg):eF q B P (run P H dg):=by
 intro g args bU r dP hv;obtain ⟨n,hn⟩:=AI.1 hv;exact Ho hok hblk iw n g args bU r dP hn
end
end Go.AM
