/- THE ABSTRACT MACHINE. -/
import Derived.Test.YthppjmoncapdfaaGreatDoorAmDraw
set_option linter.all false
namespace Go.AM
open Go.RowKit
def Ex.exit':Ex→Exit
 | .normal=> .normal
 | .exit id=> .exit id
 | .ret=> .ret
section
variable {P:Program} {N:Nat} {w0:World} {μ0:Mu} {L:sq} {h:Hint} {bM:dQ}
def UX (N:Nat) (w0:World) (μ0:Mu) (L:sq) (e:Ex) (st:St):Exit→Act→World→Prop:=fun e' a' w'=>e'=e.exit'∧∃μ' loc',Rel N w0 μ0 L μ' loc' st a' w'
theorem Rel.canon {μ:Mu} {loc:Nat→Value} {st:St} {a:Act} {w:World} (hR:Rel N w0 μ0 L μ loc st a w) (h:Hint) (key:Nat):Rel N w0 μ0 L μ loc (h.canon key st) a w:=by
 have get:∀{α:Type} (m:Nat→Option α) (l:List Nat) (i:Nat) (v:α),find (sV m l) i=some v→m i=some v:=by
  intro α m l
  induction l with
  |nil=>intro i v hv;simp [sV,find] at hv
  |cons j l ih=>
   intro i v hv;simp only [sV] at hv;split at hv
   ·rename_i x hx
    simp only [find] at hv;cases hb:Nat.beq j i with
    |true=>simp only [hb,ai,aG] at hv;subst hv;rw [←beq_iff.1 hb];exact hx
    |false=>simp only [hb,aj] at hv;exact ih i v hv
   ·exact ih i v hv
 unfold Hint.canon;split
 rotate_left
 ·exact hR
 exact ⟨hR.small,hR.names,hR.fix,hR.size,hR.defers,fun i s hi=>hR.env i s (get _ _ _ _ hi),hR.uI,hR.base,fun i o hi=>hR.obs i o (get _ _ _ _ hi),
  fun i j oi oj hi hj=>hR.apart i j oi oj (get _ _ _ _ hi) (get _ _ _ _ hj),hR.keep,hR.os,hR.tape,hR.output,hR.grown,hR.drawn⟩
theorem Rel.drew {μ:Mu} {loc:Nat→Value} {st:St} {a:Act} {w:World} (hR:Rel N w0 μ0 L μ loc st a w):Rel N w0 μ0 L μ loc st a { w with drawn:=w.drawn+1 }:=
 ⟨hR.small,hR.names,hR.fix,hR.size,hR.defers,hR.env,hR.uI,hR.base,fun i o hi=>by
  have:=hR.obs i o hi;cases o with
  |box t cells=>exact this
  |mp k e ks vs=>exact this
  |mr k e s ks vs=>exact this
  |rn e s k e' s' xs ys=>exact this
  |it s n=>exact this
  |lp s=>
   obtain ⟨us,h1,h2,h3⟩:=this;exact ⟨us,h1,h2,L.q.keep (w:=w) (fun _ _=>rfl) h3⟩
  |row e sz xs=>exact this,hR.apart,hR.keep,hR.os,hR.tape,hR.output,hR.grown,fun q=>Nat.le_succ_of_le (hR.drawn q)⟩
theorem Ea:∀{l:List Nat} {st st':St} {μ:Mu} {loc:Nat→Value} {a:Act} {w:World},Rel N w0 μ0 L μ loc st a w→yQ l st=some st'→∃μ',Rel N w0 μ0 L μ' loc st' a w
 |[],st,st',μ,loc,a,w,hR,hv=>by simp only [yQ,aG] at hv;subst hv;exact ⟨μ,hR⟩
 |id::l,st,st',μ,loc,a,w,hR,hv=>by
  simp only [yQ] at hv;obtain ⟨st1,h1,h2⟩:=dw.1 hv;obtain ⟨μ1,_,IW⟩:∃μ',μ.le μ'∧Rel N w0 μ0 L μ' loc st1 a w:=by
   unfold St.JA at h1;split at h1
   ·exact hR.qh h1
   ·injection h1 with h1;subst h1;exact ⟨μ,Mu.le.refl _,hR⟩
   ·exact hR.dD h1
  exact Ea IW h2
theorem JB {st st':St} {μ:Mu} {loc:Nat→Value} {a:Act} {w:World} {id:Nat} (hR:Rel N w0 μ0 L μ loc st a w) (hv:h.acs id st=some st'):∃μ',Rel N w0 μ0 L μ' loc st' a w:=by
 unfold Hint.acs at hv;split at hv
 ·exact Ea hR hv
 ·injection hv with hv;subst hv;exact ⟨μ,hR⟩
def HQ (q:Qp) (B:Mu) (P:Program) (N:Nat) (c:Code) (g:St→Bool) (F:St→Nat×St):Prop:=
 ∀(w0:World) (μ0:Mu) (L:sq) (μ:Mu) (loc:Nat→Value) (st:St) (a:Act) (w:World),L.q=q→B.le μ0→g st=true→Rel N w0 μ0 L μ loc st a w→c.wp P (UX N w0 μ0 L (exOf (F st).1) (F st).2) a w
def mW (q:Qp) (B:Mu) (P:Program) (h:Hint) (N:Nat):Code→Prop
 | .seq a b=>match find h.blk (dN a) with
  |some x=>HQ q B P N (.seq a b) x.1 x.2
  |none=>mW q B P h N a∧mW q B P h N b
 | .cond _ a b=>mW q B P h N a∧mW q B P h N b
 | .block _ c=>mW q B P h N c
 | .loop c=>mW q B P h N c
 | .scope c=>mW q B P h N c
 |_=>True
theorem mW.none {q:Qp} {B:Mu} {P:Program} {h:Hint} {N:Nat} (hb:h.blk=[]):∀c:Code,mW q B P h N c:=by
 intro c
 induction c with
 |seq x y VD XU=>simp only [mW,hb,find];exact ⟨VD,XU⟩
 |cond c x y VD XU=>exact ⟨VD,XU⟩
 |block id c ih=>exact ih
 |loop c ih=>exact ih
 |scope c ih=>exact ih
 |_=>trivial
theorem Bq {F:Fence} {n:Nat} {Q:Exit→Act→World→Prop} {a:Act} {w:World} {c:Code} (hs:c.wpIn F n P (Exit.noGoto Q) a w):(Code.scope c).wpIn F n P Q a w:=by
 intro b k cs hro hb hr;have h0:(lone (b.atR a (.code (.scope c)::k)) cs w).fenced P F:=fenced_calm hb hr rfl;have s1:Go.step P (lone (b.atR a (.code (.scope c)::k)) cs w)= .next (lone (b.atR a (.code c:: .inScope c::k)) cs w):=step_lone_go (by simp [stepG,stepG.exec,Frame.atR]);obtain ⟨e,a₁,w₁,hq,XI⟩:=hs b (.inScope c::k) cs hro hb hr;cases e with
 |normal=>
  have s2:Go.step P (lone (b.atR a₁ (.inScope c::k)) cs w₁)= .next (lone (b.atR a₁ k) cs w₁):=step_lone_go (by simp [stepG,stepG.exec,Frame.atR]);exact ⟨.normal,a₁,w₁,hq, .head h0 s1 (StepsIn.trans XI (.one (fenced_calm hb hr rfl) s2))⟩
 |exit id=>
  have hx:exitTo id (.inScope c::k)=exitTo id k:=by simp [exitTo]
  exact ⟨_,a₁,w₁,hq,fun k' hk=> .head h0 s1 (XI.1 k' (by rw [hx];exact hk)),fun hr' hk=>let ⟨k₁,h1,h2⟩:=XI.2 hr' (by rw [hx];exact hk);⟨k₁,h1, .head h0 s1 h2⟩⟩
 |goto l=>exact hq.elim
 |ret=>exact ⟨_,a₁,w₁,hq, .of_steps (.one h0 s1) XI⟩
 |panic ch=>exact ⟨_,a₁,w₁,hq, .of_steps (.one h0 s1) XI⟩
 |outgrown=>exact ⟨_,a₁,w₁,hq, .of_steps (.one h0 s1) XI⟩
theorem IN {B:Mu} (hBle:B.le μ0) (iO:ga L.q μ0 P bM) (hm:P.follows .mixedOrders=true) (n:Nat):∀(c:Code) (st:St) (e:Ex) (st':St),od N c=true→mW L.q B P h N c→exec P h bM n c st=some (e,st')→
  ∀(μ:Mu) (loc:Nat→Value) (a:Act) (w:World),Rel N w0 μ0 L μ loc st a w→∀F,Wd F→(F.round=none∨h.blk=[])→c.wpIn F 0 P (UX N w0 μ0 L e st') a w:=by
 intro c
 induction c with
 |skip=>intro st e st' _ _ hv μ loc a w hR F hF hro;simp only [exec,aG,br] at hv;obtain ⟨rfl,rfl⟩:=hv;exact wpIn_skip ⟨rfl,μ,loc,hR⟩
 |label l=>intro st e st' _ _ hv μ loc a w hR F hF hro;simp only [exec,aG,br] at hv;obtain ⟨rfl,rfl⟩:=hv;exact wpIn_label ⟨rfl,μ,loc,hR⟩
 |exit id=>intro st e st' _ _ hv μ loc a w hR F hF hro;simp only [exec,aG,br] at hv;obtain ⟨rfl,rfl⟩:=hv;exact wpIn_exit ⟨rfl,μ,loc,hR⟩
 |ret=>intro st e st' _ _ hv μ loc a w hR F hF hro;simp only [exec,aG,br] at hv;obtain ⟨rfl,rfl⟩:=hv;exact wpIn_ret ⟨rfl,μ,loc,hR⟩
 |region id ops draw=>
  intro st e st' hok hbk hv μ loc a w hR F hF hro;have hd:∀o∈ops.toList,∀i,o.dst=some i→i<N:=fun o ho i hi=>by
   simp only [od,cg] at hok;have:=hok o ho;simpa [hi,cr] using this
  simp only [exec] at hv;obtain ⟨st1,gp,hv⟩:=dw.1 hv;obtain ⟨μ1,IW⟩:=JB hR gp;clear hR;have hR:=IW;cases draw with
  |true=>
   simp only [ai] at hv;cases hs:sC 0 ops.toList with
   |false=>simp [hs] at hv
   |true=>
    simp only [hs,ai] at hv;cases hr:jX P h bM ops 0 ops.toList [] (rR (wN ops.toList) st1) with
    |none=>simp [hr] at hv
    |some s=>
     simp [hr] at hv;obtain ⟨rfl,rfl⟩:=hv;exact wpIn_region_any hm (S5 iO hs hr hd (fun a' w' μ' loc' h'=>⟨rfl,μ',loc',h'⟩) hR.drew hF)
  |false=>
   simp only [aj] at hv;cases hr:qk P h bM ops ops.toList st1 with
   |none=>simp [hr] at hv
   |some s=>
    simp [hr] at hv;obtain ⟨rfl,rfl⟩:=hv;exact wpIn_region_list (Ei iO hR hd hr (fun a' w' μ' loc' h'=>⟨rfl,μ',loc',h'⟩) F hF)
 |seq x y VD XU=>
  intro st e st' hok hbk hv μ loc a w hR F hF hro;simp only [od,aF] at hok;simp only [exec] at hv;simp only [mW] at hbk;cases Hg:find h.blk (dN x) with
  |some z=>
   simp only [Hg] at hv hbk;cases hg:z.1 st with
   |false=>simp [hg] at hv
   |true=>
    simp only [hg,ai,aG,br] at hv;obtain ⟨rfl,rfl⟩:=hv;rcases hro with hro|hro
    ·rw [hF.plain hro,ue];exact hbk w0 μ0 L μ loc st a w rfl hBle hg hR
    ·rw [hro] at Hg;cases Hg
  |none=>
  simp only [Hg] at hv hbk;refine wpIn_seq ?_;split at hv
  ·rename_i st1 hx
   refine lE (VD st _ _ hok.1 hbk.1 hx μ loc a w hR F hF hro) ?_
   rintro e' a' w' ⟨rfl,μ',loc',h'⟩
   exact XU st1 e st' hok.2 hbk.2 hv μ' loc' a' w' h' F hF hro
  ·rename_i hne
   refine lE (VD st e st' hok.1 hbk.1 hv μ loc a w hR F hF hro) ?_
   rintro e' a' w' ⟨rfl,μ',loc',h'⟩
   cases e with
   |normal=>exact absurd hv (hne st')
   |exit id=>exact ⟨rfl,μ',loc',h'⟩
   |ret=>exact ⟨rfl,μ',loc',h'⟩
 |cond c x y VD XU=>
  intro st e st' hok hbk hv μ loc a w hR F hF hro;simp only [od,aF] at hok;simp only [exec] at hv;split at hv
  ·rename_i t hc
   have hcv:=aU hR hc;simp only [gy,rep] at hcv;cases t with
   |true=>exact wpIn_cond_true hcv (VD st e st' hok.1 hbk.1 hv μ loc a w hR F hF hro)
   |false=>exact wpIn_cond_false hcv (XU st e st' hok.2 hbk.2 hv μ loc a w hR F hF hro)
  ·cases hv
 |block id c ih=>
  intro st e st' hok hbk hv μ loc a w hR F hF hro;simp only [od] at hok;simp only [exec] at hv;refine wpIn_block ?_;split at hv
  ·rename_i j st1 hx
   refine lE (ih st _ _ hok hbk hx μ loc a w hR F hF hro) ?_
   rintro e' a' w' ⟨rfl,μ',loc',h'⟩
   cases hb:Nat.beq j id with
   |true=>
    simp only [hb,ai,aG,br] at hv;obtain ⟨rfl,rfl⟩:=hv;have:=beq_iff.1 hb;subst this;simp only [Ex.exit',Exit.inBlock,fN];exact ⟨rfl,μ',loc',h'⟩
   |false=>
    simp only [hb,aj,aG,br] at hv;obtain ⟨rfl,rfl⟩:=hv;have:j≠id:=fun e=>by subst e;simp [fS] at hb
    simp only [Ex.exit',Exit.inBlock,ak this];exact ⟨rfl,μ',loc',h'⟩
  ·rename_i hne
   refine lE (ih st e st' hok hbk hv μ loc a w hR F hF hro) ?_
   rintro e' a' w' ⟨rfl,μ',loc',h'⟩
   cases e with
   |normal=>exact ⟨rfl,μ',loc',h'⟩
   |exit id=>exact absurd hv (hne _ _)
   |ret=>exact ⟨rfl,μ',loc',h'⟩
 |loop c ih=>
  intro st e st' hok hbk hv μ loc a w hR F hF hro;simp only [od] at hok;simp only [exec] at hv;refine wpIn_loop_rounds n ?_;have key:∀(k:Nat) (st:St) (μ:Mu) (loc:Nat→Value) (a:Act) (w:World),Rel N w0 μ0 L μ loc st a w→iter h (dN c) (exec P h bM n c) k st=some (e,st')→Code.roundsIn F 0 P c (UX N w0 μ0 L e st') k a w:=by
   intro k
   induction k with
   |zero=>intro st μ loc a w _ hv;simp [iter] at hv
   |succ k ihk=>
    intro st μ loc a w hR hv;rw [roundsIn_succ];simp only [iter] at hv;split at hv
    ·rename_i st1 hx
     refine lE (ih _ _ _ hok hbk hx μ loc a w (hR.canon h _) F hF hro) ?_
     rintro e' a' w' ⟨rfl,μ',loc',h'⟩
     exact ihk st1 μ' loc' a' w' h' hv
    ·rename_i hne
     refine lE (ih _ _ _ hok hbk hv μ loc a w (hR.canon h _) F hF hro) ?_
     rintro e' a' w' ⟨rfl,μ',loc',h'⟩
     cases e with
     |normal=>exact absurd hv (hne _)
     |exit id=>exact ⟨rfl,μ',loc',h'⟩
     |ret=>exact ⟨rfl,μ',loc',h'⟩
  exact key n st μ loc a w hR hv
 |scope c ih=>
  intro st e st' hok hbk hv μ loc a w hR F hF hro;simp only [od] at hok;simp only [exec] at hv;refine Bq ?_;refine lE (ih st e st' hok hbk hv μ loc a w hR F hF hro) ?_
  rintro e' a' w' ⟨rfl,μ',loc',h'⟩
  cases e<;>exact ⟨rfl,μ',loc',h'⟩
 |rangeFunc f ps x y VD XU=>intro st e st' _ _ hv;simp [exec] at hv
 |goto l=>intro st e st' _ _ hv;simp [exec] at hv
 |refuse s=>intro st e st' _ _ hv;simp [exec] at hv
theorem K2 {μ:Mu} {loc:Nat→Value} {st st':St} {a:Act} {w:World} (hR:Rel N w0 μ0 L μ loc st a w) {id:Nat} (hv:st.ND id=some st'):∃μ',μ.le μ'∧Rel N w0 μ0 L μ' loc st' a w:=by
 unfold St.ND at hv;split at hv
 ·obtain ⟨st1,h1,h2⟩:=dw.1 hv
  obtain ⟨μ1,hle,IW⟩:=rO hR h1;obtain ⟨μ2,hle2,Vu⟩:=IW.qh h2;exact ⟨μ2,hle.trans hle2,Vu⟩
 ·cases hv
theorem K3 {μ:Mu} {loc:Nat→Value} {st st':St} {a:Act} {w:World} (hR:Rel N w0 μ0 L μ loc st a w) {t:Nat} {v:AV} (hv:NF st t=some (st',v)):
  ∃μ',Rel N w0 μ0 L μ' loc st' a w∧μ.le μ'∧rep μ' v (a.tmps.getD t undef):=by
 have get:∀{μ:Mu} {st:St},Rel N w0 μ0 L μ loc st a w→st.env t=some (.pv v)→rep μ v (a.tmps.getD t undef):=fun hR he=>by
  obtain ⟨u,hu,hr⟩:=hR.env t _ he;have:a.tmps.getD t undef=u:=by simp [hu]
  rw [this];exact hr
 unfold NF at hv;split at hv
 ·rename_i v' he
  simp only [aG,br] at hv;obtain ⟨rfl,rfl⟩:=hv;exact ⟨μ,hR,Mu.le.refl _,get hR he⟩
 ·rename_i id he
  split at hv
  ·rename_i st1 hp
   split at hv
   ·rename_i cs he'
    simp only [aG,br] at hv;obtain ⟨rfl,rfl⟩:=hv;obtain ⟨μ',hle,h'⟩:=K2 hR hp;obtain ⟨u,hu,hr⟩:=h'.env t _ he';have e:a.tmps.getD t undef=u:=by simp [hu]
    refine ⟨μ',h',hle,?_⟩;rw [e,rep];obtain ⟨b,off,vs,e1,hc,hm⟩:=hr;exact ⟨b,off,vs,e1,hc.1,hc.2,hm⟩
   ·cases hv
  ·cases hv
 ·rename_i id he
  split at hv
  ·rename_i st1 hp
   split at hv
   ·rename_i v' he'
    simp only [aG,br] at hv;obtain ⟨rfl,rfl⟩:=hv;obtain ⟨μ',hle,h'⟩:=hR.dD hp;exact ⟨μ',h',hle,get h' he'⟩
   ·cases hv
  ·cases hv
 ·cases hv
def vv (tmps:Array Value):ResultVar→Sem Value
 | .tmp t=>pure (tmps.getD t undef)
 | .cell a t=>do loadVar t (←asAddr (tmps.getD a undef))
theorem QJ {μ:Mu} {loc:Nat→Value} {st:St} {a:Act} {w:World} (hR:Rel N w0 μ0 L μ loc st a w) {ad:Nat} {t:TypeId} {sv:SV} (hv:e9 P ⟨none, .load t (.tmp ad),t, "", #[],none⟩ st=some sv):
  ∃v,(vv a.tmps (.cell ad t)).run P w= .ok v w∧gy μ loc sv v:=by
 obtain ⟨v,hr,hs⟩:=vq hR hv;refine ⟨v,?_,hs⟩;have he:a.eval (.tmp ad)=a.tmps.getD ad undef:=rfl;simp only [execOp,fQ] at hr;rw [he] at hr;cases hx:a.tmps.getD ad undef with
 |pointer p=>
  cases p with
  |none=>rw [hx] at hr;simp [Instr.loadAt,Instr.sureAddr] at hr
  |some q=>
   rw [hx] at hr;simp only [Instr.loadAt,Instr.sureAddr,fQ,kC,gC] at hr;simp only [vv,hx,asAddr,fQ,kC,gC];cases hl:(loadVar t q).run P w with
   |ok u w'=>
    rw [hl] at hr;simp only [gC,Result.ok.injEq,Next.value.injEq] at hr;rw [hr.1,hr.2]
   |halt x w'=>rw [hl] at hr;simp at hr
 |_=>rw [hx] at hr;simp [Instr.loadAt,Instr.sureAddr] at hr
theorem Ld:∀(l:List ResultVar) {μ:Mu} {loc:Nat→Value} {st st':St} {a:Act} {w:World} {vs:List AV},Rel N w0 μ0 L μ loc st a w→sZ P l st=some (st',vs)→
  ∃μ' us,Rel N w0 μ0 L μ' loc st' a w∧μ.le μ'∧(l.mapM (vv a.tmps)).run P w= .ok us w∧bV μ' vs us:=by
 intro l
 induction l with
 |nil=>
  intro μ loc st st' a w vs hR hv;simp only [sZ,aG,br] at hv;obtain ⟨rfl,rfl⟩:=hv;exact ⟨μ,[],hR,Mu.le.refl _,rfl,ef⟩
 |cons x l ih=>
  intro μ loc st st' a w vs hR hv;have join:∀{μ1:Mu} {st1:St} {v:AV} {u:Value} {vs1:List AV},Rel N w0 μ0 L μ1 loc st1 a w→μ.le μ1→(vv a.tmps x).run P w= .ok u w→rep μ1 v u→sZ P l st1=some (st',vs1)→vs=v::vs1→
    ∃μ' us,Rel N w0 μ0 L μ' loc st' a w∧μ.le μ'∧((x::l).mapM (vv a.tmps)).run P w= .ok us w∧bV μ' vs us:=by
   intro μ1 st1 v u vs1 h1 hle hr yH ht e;obtain ⟨μ2,us,h2,hle2,hm,hall⟩:=ih h1 ht;refine ⟨μ2,u::us,h2,hle.trans hle2,?_,by rw [e];exact bY (vt hle2 _ _ yH) hall⟩;simp [zJ,hr,hm]
  cases x with
  |tmp t=>
   simp only [sZ] at hv;split at hv
   ·rename_i st1 v hp
    split at hv
    ·rename_i st2 vs1 ht
     simp only [aG,br] at hv;obtain ⟨rfl,rfl⟩:=hv;obtain ⟨μ1,h1,hle,yH⟩:=K3 hR hp;exact join h1 hle rfl yH ht rfl
    ·cases hv
   ·cases hv
  |cell ad t=>
   simp only [sZ] at hv;split at hv
   ·rename_i v hp
    split at hv
    ·rename_i st2 vs1 ht
     simp only [aG,br] at hv;obtain ⟨rfl,rfl⟩:=hv;obtain ⟨u,hr,yH⟩:=QJ hR hp;exact join hR (Mu.le.refl _) hr yH ht rfl
    ·cases hv
   ·rename_i id hp
    split at hv
    ·rename_i st1 gp
     split at hv
     ·rename_i v hp1
      split at hv
      ·rename_i st2 vs1 ht
       simp only [aG,br] at hv;obtain ⟨rfl,rfl⟩:=hv;obtain ⟨μ1,hle,h1⟩:=hR.dD gp;obtain ⟨u,hr,yH⟩:=QJ h1 hp1;exact join h1 hle hr yH ht rfl
      ·cases hv
     ·cases hv
    ·cases hv
   ·cases hv
theorem Gq {fn:Func} {tmps:Array Value} {w:World} {us:List Value} (h:(fn.results.toList.mapM (vv tmps)).run P w= .ok us w):
  ∃v,(results fn tmps).run P w= .ok v w∧((∃u,us=[u]∧v=u)∨(us.length≠1∧v= .tuple us.toArray)):=by
 have e:(results fn tmps)=(do
   let vs←fn.results.mapM (vv tmps)
   pure (if h:vs.size=1 then vs[0] else .tuple vs)):=by
  unfold results
  congr 1
 rw [e];obtain ⟨l⟩:∃l,fn.results=⟨l⟩:=⟨fn.results.toList,by simp⟩
 have hm:(fn.results.mapM (vv tmps)).run P w= .ok us.toArray w:=by
  rename_i hl;rw [hl] at h⊢;simp only at h;have:(List.toArray l).mapM (vv tmps)=Functor.map List.toArray (l.mapM (vv tmps)):=List.mapM_toArray ..;rw [show (⟨l⟩:Array ResultVar)=l.toArray from rfl,this];simp [h]
 simp only [fQ,hm,gC,kC];by_cases hs:us.length=1
 ·match us,hs with
  |[u],_=>exact ⟨u,by simp, .inl ⟨u,rfl,rfl⟩⟩
 ·exact ⟨.tuple us.toArray,by simp [hs], .inr ⟨hs,rfl⟩⟩
theorem Uw {μ:Mu} {vs:List AV} {us:List Value} {v:Value} (hall:bV μ vs us) (hv:(∃u,us=[u]∧v=u)∨(us.length≠1∧v= .tuple us.toArray)):rep μ (result vs) v:=by
 have hl:=n9 hall;rcases hv with ⟨u,rfl,rfl⟩|⟨hne,rfl⟩
 ·match vs,hl with
  |[x],_=>
   rw [bV] at hall;obtain ⟨u',us',e,h1,_⟩:=hall;injection e with e1 e2
   subst e1;exact h1
 ·have:result vs= .mu vs:=by
   match vs,hl with
   |[],_=>rfl
   |[x],hl=>exact absurd (by simpa using hl) hne
   |_::_::_,_=>rfl
  rw [this,rep];exact ⟨us,rfl,hall⟩
theorem zU {names:List Nat} {st:St}:∀{l:List Nat} {cD:List (Nat×Ob)},pQ names st l=some cD→∀id o,find cD id=some o→st.ob id=some o:=by
 intro l
 induction l with
 |nil=>intro cD hv id o hf;simp only [pQ,aG] at hv;subst hv;simp [find] at hf
 |cons j l ih=>
  intro cD hv id o hf;simp only [pQ] at hv;split at hv
  ·rename_i oj os hoj hos
   cases hc:oj.closed names with
   |false=>simp [hc] at hv
   |true=>
    simp only [hc,ai,aG] at hv;subst hv;simp only [find] at hf;cases hb:Nat.beq j id with
    |true=>simp only [hb,ai,aG] at hf;subst hf;rw [←beq_iff.1 hb];exact hoj
    |false=>simp only [hb,aj] at hf;exact ih hos id o hf
  ·cases hv
theorem KL {names:List Nat} {st:St}:∀{l:List Nat} {cD:List (Nat×Ob)},pQ names st l=some cD→cD.map (·.1)=l:=by
 intro l
 induction l with
 |nil=>intro cD hv;simp only [pQ,aG] at hv;subst hv;rfl
 |cons j l ih=>
  intro cD hv;simp only [pQ] at hv;split at hv
  ·rename_i oj os hoj hos
   cases hc:oj.closed names with
   |false=>simp [hc] at hv
   |true=>
    simp only [hc,ai,aG] at hv;subst hv;simp [ih hos]
  ·cases hv
theorem P7:∀(l:List SV) (i j:Nat) (s:SV),find (yu i l) j=some s→∃k,j=i+k∧l[k]? =some s:=by
 intro l
 induction l with
 |nil=>intro i j s hf;simp [yu,find] at hf
 |cons x l ih=>
  intro i j s hf;simp only [yu,find] at hf;cases hb:Nat.beq i j with
  |true=>simp only [hb,ai,aG] at hf;subst hf;exact ⟨0,by have:=beq_iff.1 hb;omega,rfl⟩
  |false=>
   simp only [hb,aj] at hf;obtain ⟨k,rfl,hk⟩:=ih (i+1) j s hf;exact ⟨k+1,by omega,by simpa using hk⟩
theorem Z2 {α:Type}:∀{l:List (Nat×α)} {i:Nat} {v:α},find l i=some v→i∈l.map (·.1):=by
 intro l
 induction l with
 |nil=>intro i v hf;simp [find] at hf
 |cons x l ih=>
  intro i v hf;obtain ⟨j,u⟩:=x;simp only [find] at hf;cases hb:Nat.beq j i with
  |true=>simp [beq_iff.1 hb]
  |false=>simp only [hb,aj] at hf;simp only [aP,aD];exact .inr (ih hf)
end
theorem SG {P:Program} {h:Hint} {bM:dQ} {q:Qp} {B:Mu} {f:Nat} (hok:Cw P=true) (hblk:∀fn c,P.funcs[f]? =some fn→fn.body=some c→mW q B P h fn.ntmps c) (iO:ga q B P bM) {n:Nat} {fn:Func} {c:Code} {args:List SV} {cD gm:List (Nat×Ob)} {r:AV} {e:Ex} {st:St}
  (hf:P.funcs[f]? =some fn) (hb:fn.body=some c) (fU:(Nat.ble args.length fn.ntmps&&(cD.map (·.1)).all (fun i=> !(xk i)))=true)
  (hx:exec P h bM n c { env:=find (yu 0 args),ob:=find cD }=some (e,st)) (hend:ZN P h.own fn cD e st=some (r,gm)):
  ∀(w:World) (μ:Mu) (loc:Nat→Value) (us:List Value),B.le μ→HW μ w→(∀id o,find cD id=some o→mE w.heap.size (jV q loc (cD.map (·.1))) μ loc w id o)→UY loc cD→iQ μ loc args us→
   (∀w2,(callFunc f us.toArray).run P w2= .ok (.enter f us.toArray) w2)∧Calls P f us.toArray w fun e w'=>∃v μ' loc',e= .returned v∧gd q μ loc (cD.map (·.1)) r gm w v μ' loc' w':=by
 intro w μ loc us hBle gp yG hap qW;simp only [aF] at fU;simp only [Cw,aF] at hok;obtain ⟨⟨hm,hfuncs⟩,_⟩:=hok;have hfn:Ti fn=true:=cg.1 hfuncs fn (aT (show P.funcs.toList[f]? =some fn by simpa using hf));simp only [Ti,hb,aF,gV] at hfn;obtain ⟨⟨hsmall,hname⟩,dc⟩:=hfn;have hlen:=pY qW;have hle:args.length≤fn.ntmps:=cV fU.1;refine ⟨fun w2=> ?_,?_⟩
 ·have hname':¬(fn.name= "runtime.NumGoroutine"):=by simpa using hname
  simp [callFunc,hf,hname',hb]
 refine calls_of_wp hf hb ?_;have hR:Rel fn.ntmps w μ (jV q loc (cD.map (·.1))) μ loc { env:=find (yu 0 args),ob:=find cD } { tmps:=us.toArray++Array.replicate (fn.ntmps-us.toArray.size) undef,defers:=[] } w:=by
  refine ⟨cV hsmall,?_,?_,?_,rfl,?_,gp,⟨Mu.le.refl _,fun _ _ _ h=> .inl h⟩,yG,hap,fun _ _ _=>rfl,rfl,rfl,rfl,aS _,fun _=>aS _⟩
  ·intro id hid
   have:¬(id∈cD.map (·.1)):=fun hm=>by
    have:=cg.1 fU.2 id hm;have h0:xk id=true:=by simpa [xk,cr] using hid
    rw [h0] at this;cases this
   simp only [jV,ak this]
  ·intro id v hv _
   simp only [jV] at hv;split at hv
   ·injection hv
   ·cases hv
  ·simp;omega
  ·intro i s hi
   obtain ⟨k,hk,hs⟩:=P7 args 0 i s hi;obtain ⟨u,hu,hr⟩:=LS qW hs;have hlt:=(bD.1 hu).1;refine ⟨u,?_,hr⟩;rw [hk,gE,uf (by simpa using hlt)];simpa using hu
 refine wp_mono (ue.1 (IN (B:=B) hBle (iO.mono hBle) hm n c _ e st dc (hblk fn c hf hb) hx μ loc _ w hR _ Wd.wide (.inl rfl))) ?_
 rintro e' a' w' ⟨rfl,μ1,Nc,h1⟩
 have fin:∀(e:Ex),ZN P h.own fn cD e st=some (r,gm)→(∀id,e≠ .exit id)→a'.defers=[]∧∃v,(results fn a'.tmps).run P w'= .ok v w'∧∃v' μ' loc',Ending.returned v= .returned v'∧gd q μ loc (cD.map (·.1)) r gm w v' μ' loc' w':=by
  intro e hend hne;have hone:∀t u,fn.results.toList=[.tmp t]→a'.tmps[t]? =some u→(results fn a'.tmps).run P w'= .ok u w':=fun t u hres hu=>by
   obtain ⟨v,hrun,hv⟩:=Gq (P:=P) (fn:=fn) (tmps:=a'.tmps) (w:=w') (us:=[u]) (by
    rw [hres];have:a'.tmps.getD t undef=u:=by simp [hu]
    simp [zJ,vv,this])
   rcases hv with ⟨u',e,rfl⟩|⟨hne,_⟩
   ·injection e with e;rw [e];exact hrun
   ·simp at hne
  have rJ:(bif h.own then match Un fn st,pQ (cD.map (·.1)) st (cD.map (·.1)) with
   |some r,some l=>some (r,l)
   |_,_=>none
  else match NW fn (cD.map (·.1)) st with
   |some n=>match pQ (cD.map (·.1)) st (cD.map (·.1)) with
    |some l=>some (AV.self n,l)
    |none=>none
   |none=>match sZ P fn.results.toList st with
   |some (st',vs)=>match pQ (cD.map (·.1)) st' (cD.map (·.1)) with
    |some l=>some (result vs,l)
    |none=>none
   |none=>none)=some (r,gm):=by
   cases e with
   |exit id=>exact absurd rfl (hne id)
   |normal=>exact hend
   |ret=>exact hend
  cases how:h.own with
  |true=>
   rw [how] at rJ;simp only [ai] at rJ;split at rJ
   ·rename_i r0 l hown wU
    simp only [aG,br] at rJ;obtain ⟨rfl,rfl⟩:=rJ;have og:=zU wU;unfold Un at hown;split at hown
    ·rename_i t hres
     split at hown
     ·rename_i id he
      split at hown
      ·rename_i e' sz' xs' hid dG
       injection hown with hown;subst hown
       obtain ⟨u,hu,hr⟩:=h1.env t _ he;have hr:u=fM (Nc id):=hr;rw [jf (h1.obs id _ dG)] at hr;subst hr;have hnot:¬id∈cD.map (·.1):=fun hm=>by
        have:=cg.1 fU.2 id hm;rw [hid] at this;cases this
       obtain ⟨us',hown,hrc,hblk'⟩:=h1.obs id _ dG
       refine ⟨h1.defers,_,hone t _ hres hu,_,μ1,Nc,rfl,h1.base,h1.uI, .inr (.inr ⟨e',sz',xs',us',rfl,hown,hrc,fun g hg=> ?_⟩),fun id o ho=>h1.obs id o (og id o ho),fun i j oi oj hi hj=>h1.apart i j oi oj (og i oi hi) (og j oj hj),h1.keep,
        fun id hid hlt=>h1.fix id (loc id) (by simp [jV,hid]) hlt,h1.os,h1.tape,h1.output,h1.grown,h1.drawn⟩
       have hgb:jH (Nc id) g:= .inl hg;refine ⟨?_,(hblk' g hgb).2,fun j o ho hb=> ?_⟩
       ·rcases (hblk' g hgb).1 with h|⟨x,hx,_⟩
        ·exact h
        ·simp only [jV,ak hnot] at hx;cases hx
       ·have hj:j∈cD.map (·.1):=by
         have:=Z2 ho
         rwa [KL wU] at this
        exact h1.apart j id o _ (og j o ho) dG (fun e=>hnot (e▸hj)) g hb hgb
      ·cases hown
     ·cases hown
    ·cases hown
   ·cases rJ
  |false=>
  rw [how] at rJ;simp only [aj] at rJ;split at rJ
  ·rename_i n zg
   split at rJ
   ·rename_i l wU
    simp only [aG,br] at rJ;obtain ⟨rfl,rfl⟩:=rJ;have og:=zU wU;have post:∀v,(∃A m c,Nc 10000= .slice A m c∧n≤m∧v= .slice A n c)→10000∈cD.map (·.1)→gd q μ loc (cD.map (·.1)) (.self n) l w v μ1 Nc w':=fun v ⟨A,m,c,k1,k2,k3⟩ hmem=>
     ⟨h1.base,h1.uI, .inr (.inl ⟨n,A,m,c,rfl,hmem,k1,k2,k3⟩),fun id o ho=>h1.obs id o (og id o ho),fun i j oi oj hi hj=>h1.apart i j oi oj (og i oi hi) (og j oj hj),h1.keep,
      fun id hid hlt=>h1.fix id (loc id) (by simp [jV,hid]) hlt,h1.os,h1.tape,h1.output,h1.grown,h1.drawn⟩
    unfold NW at zg;split at zg
    ·rename_i t hres hnames
     have hmem:10000∈cD.map (·.1):=by rw [hnames];simp
     split at zg
     ·rename_i e' sz' xs' he dG
      injection zg with zg;subst zg
      obtain ⟨u,hu,hr⟩:=h1.env t _ he;have hr:u=fM (Nc 10000):=hr;rw [jf (h1.obs 10000 _ dG)] at hr;obtain ⟨vs,hown,_⟩:=h1.obs 10000 _ dG;refine ⟨h1.defers,u,hone t u hres hu,u,μ1,Nc,rfl,post u ?_ hmem⟩;rcases hown.2 with ⟨e1,e2⟩|⟨g,cap,cur,e1,_⟩
      ·exact ⟨none,0,0,e1,by omega,by rw [hr,e1,e2]⟩
      ·exact ⟨_,_,cap,e1,aS _,by rw [hr,e1]⟩
     ·rename_i sz' n' e' sz2 xs' he dG
      injection zg with zg;subst zg
      obtain ⟨u,hu,hr⟩:=h1.env t _ he;obtain ⟨A,m,c,A',c',k1,_,k2,_,k3,k4,_⟩:=hr;obtain ⟨rfl,rfl⟩:=k4 rfl;exact ⟨h1.defers,u,hone t u hres hu,u,μ1,Nc,rfl,post u ⟨A',m,c',k1,k2,by simpa using k3⟩ hmem⟩
     ·cases zg
    ·cases zg
   ·cases rJ
  ·rename_i zg
   split at rJ
   ·rename_i st2 vs ht
    split at rJ
    ·rename_i l wU
     simp only [aG,br] at rJ;obtain ⟨rfl,rfl⟩:=rJ;obtain ⟨μ2,us2,h2,hle2,hmap,hall⟩:=Ld fn.results.toList h1 ht;obtain ⟨v,hrun,hv⟩:=Gq hmap;refine ⟨h2.defers,v,hrun,v,μ2,Nc,rfl,?_⟩;have og:=zU wU
     exact ⟨h2.base,h2.uI, .inl (Uw hall hv),fun id o ho=>h2.obs id o (og id o ho),fun i j oi oj hi hj=>h2.apart i j oi oj (og i oi hi) (og j oj hj),h2.keep,
      fun id hid hlt=>h2.fix id (loc id) (by simp [jV,hid]) hlt,h2.os,h2.tape,h2.output,h2.grown,h2.drawn⟩
    ·cases rJ
   ·cases rJ
 cases e with
 |exit id=>simp [ZN,ZO] at hend
 |normal=>exact fin .normal hend (by simp)
 |ret=>exact fin .ret hend (by simp)
end Go.AM
