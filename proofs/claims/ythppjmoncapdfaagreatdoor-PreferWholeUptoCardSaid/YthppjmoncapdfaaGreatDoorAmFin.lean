/- THE ABSTRACT MACHINE. -/
import Derived.Test.YthppjmoncapdfaaGreatDoorAmCall
set_option linter.all false
namespace Go.AM
open Go.RowKit
theorem bU {R:Type} {b:Bool} {x:Option R} {r:R} (hv:(bif b then x else none)=some r):b=true∧x=some r:=by
 cases b with
 |true=>exact ⟨rfl,hv⟩
 |false=>cases hv
abbrev Pe:=List (Nat×List SV×List (Nat×Ob)×(AV×List (Nat×Ob)))
def Holds (F:dQ) (S:Pe):Prop:=∀s∈S,F s.1 s.2.1 s.2.2.1=some s.2.2.2
theorem Holds.nil {F:dQ}:Holds F []:=fun _ h=>by cases h
theorem Holds.append {F:dQ} {S T:Pe} (h:Holds F S) (k:Holds F T):Holds F (S++T):=fun s hs=>(bC.1 hs).elim (h s) (k s)
theorem Holds.left {F:dQ} {S T:Pe} (h:Holds F (S++T)):Holds F S:=fun s hs=>h s (bC.2 (.inl hs))
theorem Holds.right {F:dQ} {S T:Pe} (h:Holds F (S++T)):Holds F T:=fun s hs=>h s (bC.2 (.inr hs))
theorem Holds.one {F:dQ} {g:Nat} {args:List SV} {cD:List (Nat×Ob)} {r:AV×List (Nat×Ob)} (h:F g args cD=some r):Holds F [(g,args,cD,r)]:=fun s hs=>by
 simp only [bP] at hs;subst hs;exact h
theorem Holds.get {F:dQ} {g:Nat} {args:List SV} {cD:List (Nat×Ob)} {r:AV×List (Nat×Ob)} (h:Holds F [(g,args,cD,r)]):F g args cD=some r:=h _ (bP.2 rfl)
section
variable {P:Program} {h:Hint} {F0:dQ}
theorem SM {c:Call} {f:Operand} {st:St} {r:AV} (hv:sw P h F0 st c f=some r):∃S,Holds F0 S∧∀F,Holds F S→sw P h F st c f=some r:=by
 unfold sw at hv;split at hv
 ·rename_i g args ha
  obtain ⟨hb,hv⟩:=bU hv;split at hv
  ·rename_i cD hl
   split at hv
   ·rename_i r' gm hr
    refine ⟨_,Holds.one hr,fun F hF=> ?_⟩;simp only [sw,ha,hb,ai,hl,hF.get];exact hv
   ·cases hv
  ·cases hv
 ·cases hv
theorem Qf {o:Oper} {st:St} {v:SV} (hv:ec P h F0 o st=some v):∃S,Holds F0 S∧∀F,Holds F S→ec P h F o st=some v:=by
 cases ho:o.op with
 |call c=>
  cases hc:c.callee with
  |value f=>
   simp only [ec,ho,hc] at hv;cases how:o.dst.any h.owns.contains with
   |true=>rw [how] at hv;cases hv
   |false=>
   rw [how] at hv;simp only [aj] at hv;cases hro:(o.dst.any h.stay.contains&&wide st c f) with
   |true=>
    rw [hro] at hv;simp only [ai,bS] at hv;obtain ⟨r,hr,rfl⟩:=hv;obtain ⟨S,hS,hk⟩:=SM hr;refine ⟨S,hS,fun F hF=> ?_⟩;simp only [ec,ho,hc];rw [how,hro,hk F hF];rfl
   |false=>
   rw [hro] at hv;simp only [aj] at hv;cases mU:(wide st c f||c.args.toList.any (fun x=>(oK h st x).isSome)) with
   |true=>rw [mU] at hv;cases hv
   |false=>
    rw [mU] at hv;simp only [aj] at hv;split at hv
    ·rename_i g caps vs hf hvs
     split at hv
     ·rename_i r hr
      refine ⟨_,Holds.one hr,fun F hF=> ?_⟩;simp only [ec,ho,hc,hf,hvs,hF.get];rw [how,hro,mU];exact hv
     ·cases hv
    ·cases hv
  |builtin b=>exact ⟨[],Holds.nil,fun F _=>by simp only [ec,ho,hc] at hv⊢;exact hv⟩
  |invoke r m=>exact ⟨[],Holds.nil,fun F _=>by simp only [ec,ho,hc] at hv⊢;exact hv⟩
 |makeFunc fn first caps=>exact ⟨[],Holds.nil,fun F _=>by cases fn<;>simp only [ec,ho] at hv⊢<;>exact hv⟩
 |_=>exact ⟨[],Holds.nil,fun F _=>by simp only [ec,ho] at hv⊢;exact hv⟩
theorem Pz {c:Call} {f:Operand} {st:St} {d:Option Nat} {x:St} (hv:kW P h F0 st c f d=some x):∃S,Holds F0 S∧∀F,Holds F S→kW P h F st c f d=some x:=by
 unfold kW at hv;split at hv
 ·rename_i d
  split at hv
  ·rename_i g caps vs hf hvs
   split at hv
   ·rename_i e sz xs hr
    refine ⟨_,Holds.one hr,fun F hF=> ?_⟩;simp only [kW,hf,hvs,hF.get];exact hv
   ·rename_i cs hr
    refine ⟨_,Holds.one hr,fun F hF=> ?_⟩;simp only [kW,hf,hvs,hF.get];exact hv
   ·cases hv
  ·cases hv
 ·cases hv
theorem PC {c:Call} {f:Operand} {st:St} {d:Option Nat} {x:St} (hv:pR P h F0 st c f d=some x):∃S,Holds F0 S∧∀F,Holds F S→pR P h F st c f d=some x:=by
 unfold pR at hv;split at hv
 ·rename_i g caps vs id hf hvs
  split at hv
  ·rename_i e sz xs dG
   split at hv
   ·rename_i r nm e' sz' xs' hr
    refine ⟨_,Holds.one hr,fun F hF=> ?_⟩;simp only [pR,hf,hvs,dG,hF.get];exact hv
   ·cases hv
  ·cases hv
 ·cases hv
theorem Mj {c:Call} {f:Operand} {st:St} {d:Option Nat} {x:St} (hv:jL P h F0 st c f d=some x):∃S,Holds F0 S∧∀F,Holds F S→jL P h F st c f d=some x:=by
 unfold jL at hv;split at hv
 ·rename_i g caps vs hf hvs
  simp only [] at hv;obtain ⟨hb,hv⟩:=bU hv;split at hv
  ·rename_i cD hl
   split at hv
   ·rename_i r gm hr
    refine ⟨_,Holds.one hr,fun F hF=> ?_⟩;simp only [jL,hf,hvs,hb,ai,hl,hF.get];exact hv
   ·cases hv
  ·cases hv
 ·cases hv
theorem Xs {o:Oper} {st:St} (ho:∀c,o.op≠ .call c) (F:dQ):mS P h F o st=mS P h F0 o st:=by
 unfold mS;split<;>first|rfl|(rename_i hc;exact absurd hc (ho _))|(rename_i hc _;exact absurd hc (ho _))
theorem NG {st st':St} {id:Nat} (hp:st.dD id=some st') {x:Operand} (hna:vC st x=false) {ty:TypeId} {a:AV} (hl:(bq P ty st x).bind (mK st)=some a):(bq P ty st' x).bind (mK st')=some a:=by
 unfold St.dD at hp;split at hp
 ·rename_i e sz xs hb dG
  injection hp with hp
  subst hp;cases x with
  |tmp i=>
   simp only [bq] at hl⊢;cases hi:st.env i with
   |none=>rw [hi] at hl;cases hl
   |some s=>
    rw [hi] at hl;simp only [fD,cS] at hl⊢;cases s with
    |pv v=>simpa [mK,SV.dD,SV.dm,SV.mentions] using hl
    |row j=>
     simp only [mK] at hl;simp only [SV.dD];cases hj:Nat.beq j id with
     |true=>
      have:=beq_iff.1 hj;subst this;rw [dG] at hl;simpa [mK] using hl
     |false=>
      have hne:id≠j:=fun e=>by subst e;simp [beq_iff.2] at hj
      simp only [aj,mK,bl _ _ hne];obtain ⟨ob,vD,hval⟩:=dw.1 hl;rw [vD];cases ob with
      |box t cells=>simp [Ob.val] at hval
      |row e' sz' xs'=>simpa [Ob.dD] using hval
      |mp k' e' ks' vs'=>simpa [Ob.dD] using hval
      |mr k' e' s' ks' vs'=>simpa [Ob.dD] using hval
      |rn e' s' k' e2 s2 xs' ys'=>simpa [Ob.dD] using hval
      |it s' n'=>simp [Ob.val] at hval
      |lp s'=>simp [Ob.val] at hval
    |ag cs=>simp [vC,hi] at hna
    | «at» j q=>simp [vC,hi] at hna
    |_=>cases hl
  |const v=>simp only [bq] at hl⊢;cases hc:ofConst P ty v<;>simp [hc,mK] at hl⊢;exact hl
  |func f=>simpa [bq,mK] using hl
  |global g=>simp [bq] at hl
 ·cases hp
theorem Me {st st':St} {id:Nat} (hp:st.dD id=some st') {x:Operand} (h:vC st x=false):vC st' x=false:=by
 unfold St.dD at hp;split at hp
 ·injection hp with hp
  subst hp;cases x with
  |tmp i=>
   simp only [vC] at h⊢;cases hi:st.env i with
   |none=>rfl
   |some s=>
    rw [hi] at h;simp only [cS];cases s with
    |ag cs=>simp at h
    | «at» j q=>simp at h
    |row j=>simp only [SV.dD];cases Nat.beq j id<;>rfl
    |_=>simp only [SV.dD,SV.dm];split<;>rename_i hq<;>(first|rfl|(revert hq;cases SV.mentions id _<;>intro hq<;>cases hq))
  |_=>rfl
 ·cases hp
theorem xq:∀{xs:List Operand} {st st':St},mS.iA st xs=some st'→∀{x:Operand},vC st x=false→∀{ty:TypeId} {a:AV},(bq P ty st x).bind (mK st)=some a→(bq P ty st' x).bind (mK st')=some a:=by
 intro xs
 induction xs with
 |nil=>intro st st' hp x _ ty a hl;simp only [mS.iA,aG] at hp;subst hp;exact hl
 |cons y xs ih=>
  intro st st' hp x hna ty a hl;cases y with
  |tmp i=>
   simp only [mS.iA] at hp;split at hp
   ·rename_i id hi
    cases h1:st.dD id with
    |none=>rw [h1] at hp;cases hp
    |some st1=>rw [h1] at hp;exact ih hp (Me h1 hna) (NG h1 hna hl)
   ·exact ih hp hna hl
  |const v=>exact ih hp hna hl
  |func f=>exact ih hp hna hl
  |global g=>exact ih hp hna hl
theorem sH {st st':St} {xs:List Operand} (h:mS.jv st xs=some st'):mS.iA st xs=some st'∧∀x∈xs,vC st x=false:=by
 unfold mS.jv at h;cases ha:xs.any (vC st) with
 |true=>rw [ha] at h;cases h
 |false=>
  rw [ha] at h
  exact ⟨h,fun x hx=>by
   cases hb:vC st x with
   |false=>rfl
   |true=>exact absurd hb (by simpa using qZ.1 ha x hx)⟩
theorem Cy {st st':St} {ys:List Operand} (hp:mS.jv st ys=some st'):∀{xs:List Operand} {ts:List TypeId} {vs:List AV},(∀x∈xs,vC st x=false)→jI P st xs ts=some vs→jI P st' xs ts=some vs:=by
 intro xs
 induction xs with
 |nil=>intro ts vs _ hl;exact hl
 |cons x xs ih=>
  intro ts vs hna hl;simp only [jI] at hl⊢;split at hl
  ·rename_i v us hv qW
   rw [xq (sH hp).1 (hna x (by simp)) hv,ih (fun y hy=>hna y (by simp [hy])) qW];exact hl
  ·cases hl
theorem K4 {st st':St} {ys:List Operand} (hp:mS.jv st ys=some st') {f:Operand} {g:Nat} {caps:List AV} (hf:bq P 0 st f=some (.pv (.fn g caps))):bq P 0 st' f=some (.pv (.fn g caps)):=by
 have:=xq (P:=P) (sH hp).1 (x:=f) (by
  cases f with
  |tmp i=>simp only [bq] at hf;simp [vC,hf]
  |_=>rfl) (ty:=0) (a:= .fn g caps) (by rw [hf];rfl)
 cases h1:bq P 0 st' f with
 |none=>rw [h1] at this;cases this
 |some s=>
  rw [h1] at this;simp only [fD] at this;cases s with
  |pv v=>simp only [mK,aG] at this;rw [this]
  |row id=>
   simp only [mK] at this;obtain ⟨ob,_,hval⟩:=dw.1 this;cases ob<;>simp [Ob.val] at hval
  |ag cs=>
   simp only [mK,bS] at this;obtain ⟨_,_,h⟩:=this;cases h
  | «at» j q=>
   cases q with
   |full=>cases this
   |nr i=>
    simp only [mK] at this;split at this
    ·split at this
     ·cases this
     ·cases this
    ·cases this
  |_=>cases this
theorem Vj {o:Oper} {st st':St} (hv:mS P h F0 o st=some st'):∃S,Holds F0 S∧∀F,Holds F S→mS P h F o st=some st':=by
 cases ho:o.op with
 |call c=>
  cases hc:c.callee with
  |value f=>
   have e1:∀F,mS P h F o st=(bif o.dst.any h.owns.contains then kW P h F st c f o.dst else bif o.dst.any h.stay.contains&&wide st c f then none else bif wide st c f then jL P h F st c f o.dst else bif c.args.toList.any (fun x=>(oK h st x).isSome) then pR P h F st c f o.dst else
    match mS.jv st c.args.toList with
    |some st'=>match bq P 0 st' f,jI P st' c.args.toList c.argTypes.toList with
     |some (.pv (.fn g caps)),some vs=>match F g ((vs++caps).map .pv) [] with
      |some (r,[])=>bif c.args.toList.any (kT st')|| !r.kN then none else some (st'.set o.dst (.pv r))
      |_=>none
     |_,_=>none
    |none=>none):=fun F=>by
    cases hd:o.dst<;>simp only [mS,ho,hc,hd]<;>rfl
   rw [e1] at hv;cases how:o.dst.any h.owns.contains with
   |true=>
    rw [how] at hv;simp only [ai] at hv;obtain ⟨S,hS,hall⟩:=Pz hv;exact ⟨S,hS,fun F hF=>by rw [e1,how];simp only [ai,hall F hF]⟩
   |false=>
   rw [how] at hv;simp only [aj] at hv;cases hro:(o.dst.any h.stay.contains&&wide st c f) with
   |true=>rw [hro] at hv;cases hv
   |false=>
   rw [hro] at hv;simp only [aj] at hv;cases hw:wide st c f with
   |true=>
    rw [hw] at hv;simp only [ai] at hv;obtain ⟨S,hS,hall⟩:=Mj hv;exact ⟨S,hS,fun F hF=>by rw [e1,how,hro,hw];simp only [ai,aj,hall F hF]⟩
   |false=>
   rw [hw] at hv;simp only [aj] at hv;cases mU:c.args.toList.any (fun x=>(oK h st x).isSome) with
   |true=>
    rw [mU] at hv;simp only [ai] at hv;obtain ⟨S,hS,hall⟩:=PC hv;exact ⟨S,hS,fun F hF=>by rw [e1,how,hro,hw,mU];simp only [ai,aj,hall F hF]⟩
   |false=>
    rw [mU] at hv;simp only [aj] at hv;split at hv
    ·rename_i st1 hp
     split at hv
     ·rename_i g caps vs hf hvs
      split at hv
      ·rename_i r hr
       refine ⟨_,Holds.one hr,fun F hF=> ?_⟩;rw [e1,how,hro,hw,mU];simp only [aj,hp,hf,hvs,hF.get];exact hv
      ·cases hv
     ·cases hv
    ·cases hv
  |builtin b=>exact ⟨[],Holds.nil,fun F _=>by cases hd:o.dst<;>cases b<;>simp only [mS,ho,hc,hd] at hv⊢<;>exact hv⟩
  |invoke r m=>exact ⟨[],Holds.nil,fun F _=>by cases hd:o.dst<;>simp only [mS,ho,hc,hd] at hv⊢<;>exact hv⟩
 |_=>exact ⟨[],Holds.nil,fun F _=>by rw [Xs (F0:=F0) (fun c hc=>by rw [ho] at hc;cases hc) F];exact hv⟩
theorem Yw {o:Oper} {st st':St} (hv:step0 P h F0 o st=some st'):∃S,Holds F0 S∧∀F,Holds F S→step0 P h F o st=some st':=by
 unfold step0 at hv;split at hv
 ·rename_i v hf
  obtain ⟨S,hS,hall⟩:=Qf hf;exact ⟨S,hS,fun F hF=>by simp only [step0,hall F hF];exact hv⟩
 ·rename_i hf
  have done:∀S,Holds F0 S→(∀F,Holds F S→ec P h F o st=none∧mS P h F o st=some st')→∃S,Holds F0 S∧∀F,Holds F S→step0 P h F o st=some st':=fun S hS hall=>
   ⟨S,hS,fun F hF=>by simp only [step0,(hall F hF).1];exact (hall F hF).2⟩
  have ZI:(∀F,ec P h F o st=ec P h F0 o st)→∃S,Holds F0 S∧∀F,Holds F S→step0 P h F o st=some st':=fun hsame=>by
   obtain ⟨S,hS,hall⟩:=Vj hv;exact done S hS fun F hF=>⟨by rw [hsame F];exact hf,hall F hF⟩
  cases ho:o.op with
  |call c=>
   cases hc:c.callee with
   |value f=>
    cases how:o.dst.any h.owns.contains with
    |true=>exact ZI fun F=>by simp only [ec,ho,hc,how,ai]
    |false=>
    cases hro:(o.dst.any h.stay.contains&&wide st c f) with
    |true=>
     cases hd:o.dst<;>(simp only [mS,ho,hc,hd] at hv;rw [hd] at hro how;rw [how,hro] at hv;cases hv)
    |false=>
    cases I5:(wide st c f||c.args.toList.any (fun x=>(oK h st x).isSome)) with
    |true=>
     obtain ⟨S,hS,hall⟩:=Vj hv;exact done S hS fun F hF=>⟨by simp only [ec,ho,hc];rw [how,hro,I5];rfl,hall F hF⟩
    |false=>
     obtain ⟨XR,mU⟩:=mX.1 I5
     have e1:∀F,mS P h F o st=(bif o.dst.any h.owns.contains then kW P h F st c f o.dst else bif o.dst.any h.stay.contains&&wide st c f then none else bif wide st c f then jL P h F st c f o.dst else bif c.args.toList.any (fun x=>(oK h st x).isSome) then pR P h F st c f o.dst else
      match mS.jv st c.args.toList with
      |some st'=>match bq P 0 st' f,jI P st' c.args.toList c.argTypes.toList with
       |some (.pv (.fn g caps)),some vs=>match F g ((vs++caps).map .pv) [] with
        |some (r,[])=>bif c.args.toList.any (kT st')|| !r.kN then none else some (st'.set o.dst (.pv r))
        |_=>none
       |_,_=>none
      |none=>none):=fun F=>by
      cases hd:o.dst<;>simp only [mS,ho,hc,hd]<;>rfl
     rw [e1,how,hro,XR,mU] at hv;simp only [aj] at hv;split at hv
     ·rename_i st1 hp
      split at hv
      ·rename_i g caps vs hfn hvs
       split at hv
       ·rename_i r hr
        refine done _ (Holds.one hr) fun F hF=>⟨?_,?_⟩
        ·simp only [ec,ho,hc]
         rw [how,hro,I5];simp only [aj];split
         ·rename_i g2 caps2 vs2 hfn2 hvs2
          have k1:=K4 hp hfn2;rw [hfn] at k1;simp only [aG,SV.pv.injEq,AV.fn.injEq] at k1;obtain ⟨rfl,rfl⟩:=k1;have k2:=Cy hp (sH hp).2 hvs2;rw [hvs] at k2;injection k2 with k2
          subst k2;simp only [ec,ho,hc] at hf;rw [how,hro,I5] at hf;simp only [aj,hfn2,hvs2,hr] at hf;rw [hF.get];exact hf
         ·rfl
        ·rw [e1,how,hro,XR,mU]
         simp only [aj,hp,hfn,hvs,hF.get];exact hv
       ·cases hv
      ·cases hv
     ·cases hv
   |builtin b=>exact ZI fun F=>by simp only [ec,ho,hc]
   |invoke r m=>exact ZI fun F=>by simp only [ec,ho,hc]
  |makeFunc fn first caps=>exact ZI fun F=>by cases fn<;>simp only [ec,ho]
  |_=>exact ZI fun F=>by simp only [ec,ho]
theorem RQ {o:Oper} {st st':St} (hv:step P h F0 o st=some st'):∃S,Holds F0 S∧∀F,Holds F S→step P h F o st=some st':=by
 unfold step at hv;obtain ⟨st1,h1,h2⟩:=dw.1 hv;obtain ⟨S,hS,k⟩:=Yw h2;exact ⟨S,hS,fun F hF=>by simp only [step,h1,fD,k F hF]⟩
theorem Uz {ops:Array Oper}:∀{l:List Oper} {st st':St},qk P h F0 ops l st=some st'→∃S,Holds F0 S∧∀F,Holds F S→qk P h F ops l st=some st':=by
 intro l
 induction l with
 |nil=>intro st st' hv;exact ⟨[],Holds.nil,fun F _=>hv⟩
 |cons o l ih=>
  intro st st' hv;simp only [qk] at hv;split at hv
  ·rename_i b hw
   cases b with
   |true=>
    simp only [ai] at hv;cases hs:step P h F0 o st with
    |none=>rw [hs] at hv;cases hv
    |some st1=>
     rw [hs] at hv;obtain ⟨S1,h1,k1⟩:=RQ hs;obtain ⟨S2,h2,k2⟩:=ih hv;exact ⟨S1++S2,h1.append h2,fun F hF=>by simp only [qk,hw,ai,k1 F hF.left,fD];exact k2 F hF.right⟩
   |false=>
    simp only [aj] at hv;obtain ⟨S2,h2,k2⟩:=ih hv;exact ⟨S2,h2,fun F hF=>by simp only [qk,hw,aj];exact k2 F hF⟩
  ·cases hv
theorem RI {ops:Array Oper}:∀{l:List Oper} {i:Nat} {prev:List (Nat×gu)} {st st':St},jX P h F0 ops i l prev st=some st'→∃S,Holds F0 S∧∀F,Holds F S→jX P h F ops i l prev st=some st':=by
 intro l
 induction l with
 |nil=>intro i prev st st' hv;exact ⟨[],Holds.nil,fun F _=>hv⟩
 |cons o l ih=>
  intro i prev st st' hv;simp only [jX] at hv;split at hv
  ·cases hv
  ·rename_i b hw
   cases b with
   |true=>
    simp only [ai] at hv;cases hF:(isF h st o&&(D9 h o).isEmpty) with
    |true=>
     simp only [hF,ai] at hv;split at hv
     ·rename_i v hf
      obtain ⟨hb,hv⟩:=bU hv;obtain ⟨S1,h1,k1⟩:=Qf hf;obtain ⟨S2,h2,k2⟩:=ih hv;exact ⟨S1++S2,h1.append h2,fun F hS=>by simp only [jX,hw,ai,hF,k1 F hS.left,hb];exact k2 F hS.right⟩
     ·cases hv
    |false=>
     simp only [hF,aj] at hv;split at hv
     ·rename_i st1 hs
      obtain ⟨hb,hv⟩:=bU hv;obtain ⟨S1,h1,k1⟩:=RQ hs;obtain ⟨S2,h2,k2⟩:=ih hv;exact ⟨S1++S2,h1.append h2,fun F hS=>by simp only [jX,hw,ai,hF,aj,k1 F hS.left,hb];exact k2 F hS.right⟩
     ·cases hv
   |false=>
    simp only [aj] at hv;obtain ⟨hb,hv⟩:=bU hv;obtain ⟨S2,h2,k2⟩:=ih hv;exact ⟨S2,h2,fun F hS=>by simp only [jX,hw,aj,hb,ai];exact k2 F hS⟩
theorem DG {n:Nat}:∀(c:Code) {st:St} {x:Ex×St},exec P h F0 n c st=some x→∃S,Holds F0 S∧∀F m,Holds F S→n≤m→exec P h F m c st=some x:=by
 intro c
 induction c with
 |skip=>intro st x hv;exact ⟨[],Holds.nil,fun F m _ _=>hv⟩
 |label l=>intro st x hv;exact ⟨[],Holds.nil,fun F m _ _=>hv⟩
 |exit id=>intro st x hv;exact ⟨[],Holds.nil,fun F m _ _=>hv⟩
 |ret=>intro st x hv;exact ⟨[],Holds.nil,fun F m _ _=>hv⟩
 |region id ops draw=>
  intro st x hv;simp only [exec] at hv;obtain ⟨st1,gp,hv⟩:=dw.1 hv;cases draw with
  |true=>
   simp only [ai] at hv;obtain ⟨hb,hv⟩:=bU hv;simp only [bS] at hv;obtain ⟨s,hr,rfl⟩:=hv;obtain ⟨S,hS,k⟩:=RI hr;exact ⟨S,hS,fun F m hF _=>by simp only [exec,gp,fD,ai,hb,k F hF,cS]⟩
  |false=>
   simp only [aj,bS] at hv;obtain ⟨s,hr,rfl⟩:=hv;obtain ⟨S,hS,k⟩:=Uz hr;exact ⟨S,hS,fun F m hF _=>by simp only [exec,gp,fD,aj,k F hF,cS]⟩
 |seq a b iha ihb=>
  intro st x hv;simp only [exec] at hv;cases Hg:find h.blk (dN a) with
  |some z=>simp only [Hg] at hv;exact ⟨[],Holds.nil,fun F m _ _=>by simp only [exec,Hg];exact hv⟩
  |none=>
  simp only [Hg] at hv;split at hv
  ·rename_i st1 ha
   obtain ⟨S1,h1,k1⟩:=iha ha;obtain ⟨S2,h2,k2⟩:=ihb hv;exact ⟨S1++S2,h1.append h2,fun F m hF hm=>by simp only [exec,Hg,k1 F m hF.left hm];exact k2 F m hF.right hm⟩
  ·rename_i hne
   obtain ⟨S1,h1,k1⟩:=iha hv;refine ⟨S1,h1,fun F m hF hm=> ?_⟩;simp only [exec,Hg,k1 F m hF hm];obtain ⟨e,s⟩:=x;cases e with
   |normal=>exact absurd hv (hne s)
   |exit j=>rfl
   |ret=>rfl
 |cond c a b iha ihb=>
  intro st x hv;simp only [exec] at hv;split at hv
  ·rename_i t hc
   cases t with
   |true=>obtain ⟨S,hS,k⟩:=iha hv;exact ⟨S,hS,fun F m hF hm=>by simp only [exec,hc,ai];exact k F m hF hm⟩
   |false=>obtain ⟨S,hS,k⟩:=ihb hv;exact ⟨S,hS,fun F m hF hm=>by simp only [exec,hc,aj];exact k F m hF hm⟩
  ·cases hv
 |block id c ih=>
  intro st x hv;simp only [exec] at hv;split at hv
  ·rename_i j s hc
   obtain ⟨S,hS,k⟩:=ih hc;exact ⟨S,hS,fun F m hF hm=>by simp only [exec,k F m hF hm];exact hv⟩
  ·rename_i hne
   obtain ⟨S,hS,k⟩:=ih hv;refine ⟨S,hS,fun F m hF hm=> ?_⟩;simp only [exec,k F m hF hm];obtain ⟨e,s⟩:=x;cases e with
   |normal=>rfl
   |exit j=>exact absurd hv (hne j s)
   |ret=>rfl
 |loop c ih=>
  intro st x hv;simp only [exec] at hv;have key:∀(q:Nat) {st:St} {x:Ex×St},iter h (dN c) (exec P h F0 n c) q st=some x→∃S,Holds F0 S∧∀F m q',Holds F S→n≤m→q≤q'→iter h (dN c) (exec P h F m c) q' st=some x:=by
   intro q
   induction q with
   |zero=>intro st x hv;simp [iter] at hv
   |succ q ihq=>
    intro st x hv;simp only [iter] at hv;split at hv
    ·rename_i st1 hc
     obtain ⟨S1,h1,k1⟩:=ih hc;obtain ⟨S2,h2,k2⟩:=ihq hv;refine ⟨S1++S2,h1.append h2,fun F m q' hF hm hq=> ?_⟩;obtain ⟨q'',rfl⟩:∃q'',q'=q''+1:=⟨q'-1,by omega⟩
     simp only [iter,k1 F m hF.left hm];exact k2 F m q'' hF.right hm (by omega)
    ·rename_i hne
     obtain ⟨S1,h1,k1⟩:=ih hv;refine ⟨S1,h1,fun F m q' hF hm hq=> ?_⟩;obtain ⟨q'',rfl⟩:∃q'',q'=q''+1:=⟨q'-1,by omega⟩
     simp only [iter,k1 F m hF hm];obtain ⟨e,s⟩:=x;cases e with
     |normal=>exact absurd hv (hne s)
     |exit j=>rfl
     |ret=>rfl
  obtain ⟨S,hS,k⟩:=key n hv;exact ⟨S,hS,fun F m hF hm=>by simp only [exec];exact k F m m hF hm hm⟩
 |scope c ih=>
  intro st x hv;simp only [exec] at hv;obtain ⟨S,hS,k⟩:=ih hv;exact ⟨S,hS,fun F m hF hm=>by simp only [exec];exact k F m hF hm⟩
 |rangeFunc f ps a b iha ihb=>intro st x hv;simp [exec] at hv
 |goto l=>intro st x hv;simp [exec] at hv
 |refuse s=>intro st x hv;simp [exec] at hv
theorem pS {n m:Nat} (hm:n≤m) {c:Code} {st:St} {x:Ex×St} (hv:exec P h F0 n c st=some x):exec P h F0 m c st=some x:=by
 obtain ⟨S,hS,k⟩:=DG c hv;exact k F0 m hS hm
end
section
variable {P:Program} {H:Nat→Hint} {fk:dQ}
theorem SL:∀(n:Nat) {f:Nat} {args:List SV} {cD:List (Nat×Ob)} {r:AV×List (Nat×Ob)},ot P H fk n f args cD=some r→ot P H fk (n+1) f args cD=some r:=by
 intro n
 induction n with
 |zero=>intro f args cD r hv;simp [ot] at hv
 |succ n ih=>
  intro f args cD r hv;rw [ot] at hv⊢;dsimp only at hv⊢;split at hv
  ·rename_i x hp;(try simp only [hp]);exact hv
  ·rename_i hp
   (try simp only [hp])
   split at hv
   ·rename_i fn hf
    (try simp only [hf])
    split at hv
    ·rename_i c hb
     (try simp only [hb])
     obtain ⟨hc,hv⟩:=bU hv;rw [hc];simp only [ai];split at hv
     ·rename_i e st hx
      obtain ⟨S,hS,k⟩:=DG c hx;have hS':Holds (ot P H fk (n+1)) S:=fun s hs=>ih (hS s hs)
      rw [k _ (n+1) hS' (by omega)];exact hv
     ·cases hv
    ·cases hv
   ·cases hv
theorem uW {n m:Nat} (hm:n≤m) {f:Nat} {args:List SV} {cD:List (Nat×Ob)} {r:AV×List (Nat×Ob)} (hv:ot P H fk n f args cD=some r):ot P H fk m f args cD=some r:=by
 induction hm with
 |refl=>exact hv
 |step _ ih=>exact SL _ ih
noncomputable def run (P:Program) (H:Nat→Hint) (fk:dQ):dQ:=fun f args cD=>
 open Classical in if h : ∃ r n, ot P H fk n f args cD = some r then some h.choose else none
theorem qD {f:Nat} {args:List SV} {cD:List (Nat×Ob)} {r:AV×List (Nat×Ob)}:run P H fk f args cD=some r↔∃n,ot P H fk n f args cD=some r:=by
 constructor
 ·intro hv
  unfold run at hv;split at hv
  ·rename_i hex
   injection hv with hv
   rw [←hv];exact hex.choose_spec
  ·cases hv
 ·rintro ⟨n,hn⟩
  unfold run;have hex:∃r n,ot P H fk n f args cD=some r:=⟨r,n,hn⟩
  rw [lF hex];obtain ⟨m,hm⟩:=hex.choose_spec;have h1:=uW (rj n m) hn;have h2:=uW (rq n m) hm;rw [h1] at h2;exact h2.symm
theorem XM {S:Pe} (hS:Holds (run P H fk) S):∃n,Holds (ot P H fk n) S:=by
 induction S with
 |nil=>exact ⟨0,Holds.nil⟩
 |cons s S ih=>
  obtain ⟨n,hn⟩:=ih fun t ht=>hS t (dW _ ht)
  obtain ⟨m,hm⟩:=qD.1 (hS s (nv ..));refine ⟨max n m,fun t ht=> ?_⟩;cases aD.1 ht with
  |inl e=>subst e;exact uW (rq ..) hm
  |inr e=>exact uW (rj ..) (hn t e)
theorem Gt {f:Nat} {fn:Func} {c:Code} {args:List SV} {cD:List (Nat×Ob)} {r:AV×List (Nat×Ob)} {n:Nat} {e:Ex} {st:St} (hp:fk f args cD=none)
  (hf:P.funcs[f]? =some fn) (hb:fn.body=some c) (hc:(Nat.ble args.length fn.ntmps&&(cD.map (·.1)).all (fun i=> !(xk i)))=true)
  (hx:exec P (H f) (run P H fk) n c { env:=find (yu 0 args),ob:=find cD }=some (e,st)) (he:ZN P (H f).own fn cD e st=some r):run P H fk f args cD=some r:=by
 obtain ⟨S,hS,k⟩:=DG c hx;obtain ⟨m,hm⟩:=XM hS;have hS':Holds (ot P H fk (max n m)) S:=fun s hs=>uW (rq ..) (hm s hs)
 refine qD.2 ⟨max n m+1,?_⟩;simp only [ot,hp,hf,hb,hc,ai,k _ (max n m) hS' (rj ..)];exact he
theorem qU {f:Nat} {args:List SV} {cD:List (Nat×Ob)} {r:AV×List (Nat×Ob)} (hp:fk f args cD=some r):run P H fk f args cD=some r:=
 qD.2 ⟨1,by simp only [ot,hp]⟩
theorem FR {q:Qp} {B:Mu} (hok:Cw P=true) (hblk:∀f fn c,P.funcs[f]? =some fn→fn.body=some c→mW q B P (H f) fn.ntmps c) (ou:ga q B P fk):∀n,ga q B P (ot P H fk n):=by
 intro n
 induction n with
 |zero=>intro g args cD r gm hv;simp [ot] at hv
 |succ n ih=>
  intro g args cD r gm hv;simp only [ot] at hv;split at hv
  ·rename_i x hp
   injection hv with hv
   subst hv;exact ou g args cD r gm hp
  ·split at hv
   ·rename_i fn hf
    split at hv
    ·rename_i c hb
     obtain ⟨hc,hv⟩:=bU hv;split at hv
     ·rename_i e st hx
      refine fun w μ loc us h1 h2 h3 h4 h5=> .inl ⟨?_,SG hok (hblk g) ih hf hb hc hx hv w μ loc us h1 h2 h3 h4 h5⟩
      simp only [Cw,aF] at hok;have:=cV hok.2;have:=(eG.1 hf).1;omega
     ·cases hv
    ·cases hv
   ·cases hv
theorem Fp {q:Qp} {B:Mu} (hok:Cw P=true) (hblk:∀f fn c,P.funcs[f]? =some fn→fn.body=some c→mW q B P (H f) fn.ntmps c) (ou:ga q B P fk):ga q B P (run P H fk):=by
 intro g args cD r gm hv;obtain ⟨n,hn⟩:=qD.1 hv;exact FR hok hblk ou n g args cD r gm hn
end
end Go.AM
