/- THE ABSTRACT MACHINE. -/
import Derived.Test.YthppjmoncapdfaaGreatDoorAmCall
set_option linter.unusedVariables false
set_option linter.unusedSimpArgs false
namespace Go.AM
open Go.RowKit
theorem bz {R:Type} {b:Bool} {x:Option R} {r:R} (hv:(bif b then x else none)=some r):b=true∧x=some r:=by
 cases b with
 |true=>exact ⟨rfl,hv⟩
 |false=>cases hv
abbrev IT:=List (Nat×List SV×List (Nat×Ob)×(AV×List (Nat×Ob)))
def Holds (F:cL) (S:IT):Prop:=∀s∈S,F s.1 s.2.1 s.2.2.1=some s.2.2.2
theorem Holds.nil {F:cL}:Holds F []:=fun _ h=>by cases h
theorem Holds.append {F:cL} {S T:IT} (h:Holds F S) (k:Holds F T):Holds F (S++T):=fun s hs=>(List.mem_append.1 hs).elim (h s) (k s)
theorem Holds.left {F:cL} {S T:IT} (h:Holds F (S++T)):Holds F S:=fun s hs=>h s (List.mem_append.2 (.inl hs))
theorem Holds.right {F:cL} {S T:IT} (h:Holds F (S++T)):Holds F T:=fun s hs=>h s (List.mem_append.2 (.inr hs))
theorem Holds.one {F:cL} {g:Nat} {args:List SV} {bT:List (Nat×Ob)} {r:AV×List (Nat×Ob)} (h:F g args bT=some r):Holds F [(g,args,bT,r)]:=fun s hs=>by
 simp only [List.mem_singleton] at hs;subst hs;exact h
theorem Holds.get {F:cL} {g:Nat} {args:List SV} {bT:List (Nat×Ob)} {r:AV×List (Nat×Ob)} (h:Holds F [(g,args,bT,r)]):F g args bT=some r:=h _ (List.mem_singleton.2 rfl)
section
variable {P:Program} {h:Hint} {F0:cL}
theorem Lv {c:Call} {f:Operand} {st:St} {r:AV} (hv:mJ P h F0 st c f=some r):∃S,Holds F0 S∧∀F,Holds F S→mJ P h F st c f=some r:=by
 unfold mJ at hv;split at hv
 ·rename_i g args ha
  obtain ⟨hb,hv⟩:=bz hv;split at hv
  ·rename_i bT hl
   split at hv
   ·rename_i r' dO hr
    refine ⟨_,Holds.one hr,fun F hF=> ?_⟩;simp only [mJ,ha,hb,cond_true,hl,hF.get];exact hv
   ·cases hv
  ·cases hv
 ·cases hv
theorem JG {o:Oper} {st:St} {v:SV} (hv:cI P h F0 o st=some v):∃S,Holds F0 S∧∀F,Holds F S→cI P h F o st=some v:=by
 cases ho:o.op with
 |call c=>
  cases hc:c.callee with
  |value f=>
   simp only [cI,ho,hc] at hv;cases how:o.dst.any h.owns.contains with
   |true=>rw [how] at hv;cases hv
   |false=>
   rw [how] at hv;simp only [cond_false] at hv;cases hro:(o.dst.any h.stay.contains&&wide st c f) with
   |true=>
    rw [hro] at hv;simp only [cond_true,Option.map_eq_some_iff] at hv;obtain ⟨r,hr,rfl⟩:=hv;obtain ⟨S,hS,hk⟩:=Lv hr;refine ⟨S,hS,fun F hF=> ?_⟩;simp only [cI,ho,hc];rw [how,hro,hk F hF];rfl
   |false=>
   rw [hro] at hv;simp only [cond_false] at hv;cases ia:(wide st c f||c.args.toList.any (fun x=>(jD h st x).isSome)) with
   |true=>rw [ia] at hv;cases hv
   |false=>
    rw [ia] at hv;simp only [cond_false] at hv;split at hv
    ·rename_i g caps vs hf hvs
     split at hv
     ·rename_i r hr
      refine ⟨_,Holds.one hr,fun F hF=> ?_⟩;simp only [cI,ho,hc,hf,hvs,hF.get];rw [how,hro,ia];exact hv
     ·cases hv
    ·cases hv
  |builtin b=>exact ⟨[],Holds.nil,fun F _=>by simp only [cI,ho,hc] at hv⊢;exact hv⟩
  |invoke r m=>exact ⟨[],Holds.nil,fun F _=>by simp only [cI,ho,hc] at hv⊢;exact hv⟩
 |makeFunc fn first caps=>exact ⟨[],Holds.nil,fun F _=>by cases fn<;>simp only [cI,ho] at hv⊢<;>exact hv⟩
 |_=>exact ⟨[],Holds.nil,fun F _=>by simp only [cI,ho] at hv⊢;exact hv⟩
theorem Jb {c:Call} {f:Operand} {st:St} {d:Option Nat} {x:St} (hv:gz P h F0 st c f d=some x):∃S,Holds F0 S∧∀F,Holds F S→gz P h F st c f d=some x:=by
 unfold gz at hv;split at hv
 ·rename_i d
  split at hv
  ·rename_i g caps vs hf hvs
   split at hv
   ·rename_i e sz xs hr
    refine ⟨_,Holds.one hr,fun F hF=> ?_⟩;simp only [gz,hf,hvs,hF.get];exact hv
   ·rename_i cs hr
    refine ⟨_,Holds.one hr,fun F hF=> ?_⟩;simp only [gz,hf,hvs,hF.get];exact hv
   ·cases hv
  ·cases hv
 ·cases hv
theorem Je {c:Call} {f:Operand} {st:St} {d:Option Nat} {x:St} (hv:jN P h F0 st c f d=some x):∃S,Holds F0 S∧∀F,Holds F S→jN P h F st c f d=some x:=by
 unfold jN at hv;split at hv
 ·rename_i g caps vs id hf hvs
  split at hv
  ·rename_i e sz xs cu
   split at hv
   ·rename_i r nm e' sz' xs' hr
    refine ⟨_,Holds.one hr,fun F hF=> ?_⟩;simp only [jN,hf,hvs,cu,hF.get];exact hv
   ·cases hv
  ·cases hv
 ·cases hv
theorem FO {c:Call} {f:Operand} {st:St} {d:Option Nat} {x:St} (hv:fF P h F0 st c f d=some x):∃S,Holds F0 S∧∀F,Holds F S→fF P h F st c f d=some x:=by
 unfold fF at hv;split at hv
 ·rename_i g caps vs hf hvs
  simp only [] at hv;obtain ⟨hb,hv⟩:=bz hv;split at hv
  ·rename_i bT hl
   split at hv
   ·rename_i r dO hr
    refine ⟨_,Holds.one hr,fun F hF=> ?_⟩;simp only [fF,hf,hvs,hb,cond_true,hl,hF.get];exact hv
   ·cases hv
  ·cases hv
 ·cases hv
theorem Pm {o:Oper} {st:St} (ho:∀c,o.op≠ .call c) (F:cL):iM P h F o st=iM P h F0 o st:=by
 unfold iM;split<;>first|rfl|(rename_i hc;exact absurd hc (ho _))|(rename_i hc _;exact absurd hc (ho _))
theorem Hj {st st':St} {id:Nat} (hp:st.cw id=some st') {x:Operand} (hna:qz st x=false) {ty:TypeId} {a:AV} (hl:(aR P ty st x).bind (ic st)=some a):(aR P ty st' x).bind (ic st')=some a:=by
 unfold St.cw at hp;split at hp
 ·rename_i e sz xs hb cu
  injection hp with hp
  subst hp;cases x with
  |tmp i=>
   simp only [aR] at hl⊢;cases hi:st.env i with
   |none=>rw [hi] at hl;cases hl
   |some s=>
    rw [hi] at hl;simp only [Option.bind_some,Option.map_some] at hl⊢;cases s with
    |pv v=>simpa [ic,SV.cw,SV.cn,SV.mentions] using hl
    |row j=>
     simp only [ic] at hl;simp only [SV.cw];cases hj:Nat.beq j id with
     |true=>
      have:=beq_iff.1 hj;subst this;rw [cu] at hl;simpa [ic] using hl
     |false=>
      have hne:id≠j:=fun e=>by subst e;simp [beq_iff.2] at hj
      simp only [cond_false,ic,aQ _ _ hne];obtain ⟨ob,qE,hval⟩:=Option.bind_eq_some_iff.1 hl;rw [qE];cases ob with
      |box t cells=>simp [Ob.val] at hval
      |row e' sz' xs'=>simpa [Ob.cw] using hval
      |mp k' e' ks' vs'=>simpa [Ob.cw] using hval
      |mr k' e' s' ks' vs'=>simpa [Ob.cw] using hval
      |rn e' s' k' e2 s2 xs' ys'=>simpa [Ob.cw] using hval
      |it s' n'=>simp [Ob.val] at hval
      |lp s'=>simp [Ob.val] at hval
    |ag cs=>simp [qz,hi] at hna
    | «at» j q=>simp [qz,hi] at hna
    |_=>cases hl
  |const v=>simp only [aR] at hl⊢;cases hc:ofConst P ty v<;>simp [hc,ic] at hl⊢;exact hl
  |func f=>simpa [aR,ic] using hl
  |global g=>simp [aR] at hl
 ·cases hp
theorem FH {st st':St} {id:Nat} (hp:st.cw id=some st') {x:Operand} (h:qz st x=false):qz st' x=false:=by
 unfold St.cw at hp;split at hp
 ·injection hp with hp
  subst hp;cases x with
  |tmp i=>
   simp only [qz] at h⊢;cases hi:st.env i with
   |none=>rfl
   |some s=>
    rw [hi] at h;simp only [Option.map_some];cases s with
    |ag cs=>simp at h
    | «at» j q=>simp at h
    |row j=>simp only [SV.cw];cases Nat.beq j id<;>rfl
    |_=>simp only [SV.cw,SV.cn];split<;>rename_i hq<;>(first|rfl|(revert hq;cases SV.mentions id _<;>intro hq<;>cases hq))
  |_=>rfl
 ·cases hp
theorem sg:∀{xs:List Operand} {st st':St},iM.eE st xs=some st'→∀{x:Operand},qz st x=false→∀{ty:TypeId} {a:AV},(aR P ty st x).bind (ic st)=some a→(aR P ty st' x).bind (ic st')=some a:=by
 intro xs
 induction xs with
 |nil=>intro st st' hp x _ ty a hl;simp only [iM.eE,Option.some.injEq] at hp;subst hp;exact hl
 |cons y xs ih=>
  intro st st' hp x hna ty a hl;cases y with
  |tmp i=>
   simp only [iM.eE] at hp;split at hp
   ·rename_i id hi
    cases h1:st.cw id with
    |none=>rw [h1] at hp;cases hp
    |some st1=>rw [h1] at hp;exact ih hp (FH h1 hna) (Hj h1 hna hl)
   ·exact ih hp hna hl
  |const v=>exact ih hp hna hl
  |func f=>exact ih hp hna hl
  |global g=>exact ih hp hna hl
theorem ni {st st':St} {xs:List Operand} (h:iM.fk st xs=some st'):iM.eE st xs=some st'∧∀x∈xs,qz st x=false:=by
 unfold iM.fk at h;cases ha:xs.any (qz st) with
 |true=>rw [ha] at h;cases h
 |false=>
  rw [ha] at h
  exact ⟨h,fun x hx=>by
   cases hb:qz st x with
   |false=>rfl
   |true=>exact absurd hb (by simpa using List.any_eq_false.1 ha x hx)⟩
theorem wS {st st':St} {ys:List Operand} (hp:iM.fk st ys=some st'):∀{xs:List Operand} {ts:List TypeId} {vs:List AV},(∀x∈xs,qz st x=false)→fq P st xs ts=some vs→fq P st' xs ts=some vs:=by
 intro xs
 induction xs with
 |nil=>intro ts vs _ hl;exact hl
 |cons x xs ih=>
  intro ts vs hna hl;simp only [fq] at hl⊢;split at hl
  ·rename_i v us hv lI
   rw [sg (ni hp).1 (hna x (by simp)) hv,ih (fun y hy=>hna y (by simp [hy])) lI];exact hl
  ·cases hl
theorem EA {st st':St} {ys:List Operand} (hp:iM.fk st ys=some st') {f:Operand} {g:Nat} {caps:List AV} (hf:aR P 0 st f=some (.pv (.fn g caps))):aR P 0 st' f=some (.pv (.fn g caps)):=by
 have:=sg (P:=P) (ni hp).1 (x:=f) (by
  cases f with
  |tmp i=>simp only [aR] at hf;simp [qz,hf]
  |_=>rfl) (ty:=0) (a:= .fn g caps) (by rw [hf];rfl)
 cases h1:aR P 0 st' f with
 |none=>rw [h1] at this;cases this
 |some s=>
  rw [h1] at this;simp only [Option.bind_some] at this;cases s with
  |pv v=>simp only [ic,Option.some.injEq] at this;rw [this]
  |row id=>
   simp only [ic] at this;obtain ⟨ob,_,hval⟩:=Option.bind_eq_some_iff.1 this;cases ob<;>simp [Ob.val] at hval
  |ag cs=>
   simp only [ic,Option.map_eq_some_iff] at this;obtain ⟨_,_,h⟩:=this;cases h
  | «at» j q=>
   cases q with
   |full=>cases this
   |nr i=>
    simp only [ic] at this;split at this
    ·split at this
     ·cases this
     ·cases this
    ·cases this
  |_=>cases this
theorem NW {o:Oper} {st st':St} (hv:iM P h F0 o st=some st'):∃S,Holds F0 S∧∀F,Holds F S→iM P h F o st=some st':=by
 cases ho:o.op with
 |call c=>
  cases hc:c.callee with
  |value f=>
   have e1:∀F,iM P h F o st=(bif o.dst.any h.owns.contains then gz P h F st c f o.dst else bif o.dst.any h.stay.contains&&wide st c f then none else bif wide st c f then fF P h F st c f o.dst else bif c.args.toList.any (fun x=>(jD h st x).isSome) then jN P h F st c f o.dst else
    match iM.fk st c.args.toList with
    |some st'=>match aR P 0 st' f,fq P st' c.args.toList c.argTypes.toList with
     |some (.pv (.fn g caps)),some vs=>match F g ((vs++caps).map .pv) [] with
      |some (r,[])=>bif c.args.toList.any (gx st')|| !r.gu then none else some (st'.set o.dst (.pv r))
      |_=>none
     |_,_=>none
    |none=>none):=fun F=>by
    cases hd:o.dst<;>simp only [iM,ho,hc,hd]<;>rfl
   rw [e1] at hv;cases how:o.dst.any h.owns.contains with
   |true=>
    rw [how] at hv;simp only [cond_true] at hv;obtain ⟨S,hS,hall⟩:=Jb hv;exact ⟨S,hS,fun F hF=>by rw [e1,how];simp only [cond_true,hall F hF]⟩
   |false=>
   rw [how] at hv;simp only [cond_false] at hv;cases hro:(o.dst.any h.stay.contains&&wide st c f) with
   |true=>rw [hro] at hv;cases hv
   |false=>
   rw [hro] at hv;simp only [cond_false] at hv;cases hw:wide st c f with
   |true=>
    rw [hw] at hv;simp only [cond_true] at hv;obtain ⟨S,hS,hall⟩:=FO hv;exact ⟨S,hS,fun F hF=>by rw [e1,how,hro,hw];simp only [cond_true,cond_false,hall F hF]⟩
   |false=>
   rw [hw] at hv;simp only [cond_false] at hv;cases ia:c.args.toList.any (fun x=>(jD h st x).isSome) with
   |true=>
    rw [ia] at hv;simp only [cond_true] at hv;obtain ⟨S,hS,hall⟩:=Je hv;exact ⟨S,hS,fun F hF=>by rw [e1,how,hro,hw,ia];simp only [cond_true,cond_false,hall F hF]⟩
   |false=>
    rw [ia] at hv;simp only [cond_false] at hv;split at hv
    ·rename_i st1 hp
     split at hv
     ·rename_i g caps vs hf hvs
      split at hv
      ·rename_i r hr
       refine ⟨_,Holds.one hr,fun F hF=> ?_⟩;rw [e1,how,hro,hw,ia];simp only [cond_false,hp,hf,hvs,hF.get];exact hv
      ·cases hv
     ·cases hv
    ·cases hv
  |builtin b=>exact ⟨[],Holds.nil,fun F _=>by cases hd:o.dst<;>cases b<;>simp only [iM,ho,hc,hd] at hv⊢<;>exact hv⟩
  |invoke r m=>exact ⟨[],Holds.nil,fun F _=>by cases hd:o.dst<;>simp only [iM,ho,hc,hd] at hv⊢<;>exact hv⟩
 |_=>exact ⟨[],Holds.nil,fun F _=>by rw [Pm (F0:=F0) (fun c hc=>by rw [ho] at hc;cases hc) F];exact hv⟩
theorem Qk {o:Oper} {st st':St} (hv:step0 P h F0 o st=some st'):∃S,Holds F0 S∧∀F,Holds F S→step0 P h F o st=some st':=by
 unfold step0 at hv;split at hv
 ·rename_i v hf
  obtain ⟨S,hS,hall⟩:=JG hf;exact ⟨S,hS,fun F hF=>by simp only [step0,hall F hF];exact hv⟩
 ·rename_i hf
  have done:∀S,Holds F0 S→(∀F,Holds F S→cI P h F o st=none∧iM P h F o st=some st')→∃S,Holds F0 S∧∀F,Holds F S→step0 P h F o st=some st':=fun S hS hall=>
   ⟨S,hS,fun F hF=>by simp only [step0,(hall F hF).1];exact (hall F hF).2⟩
  have RO:(∀F,cI P h F o st=cI P h F0 o st)→∃S,Holds F0 S∧∀F,Holds F S→step0 P h F o st=some st':=fun hsame=>by
   obtain ⟨S,hS,hall⟩:=NW hv;exact done S hS fun F hF=>⟨by rw [hsame F];exact hf,hall F hF⟩
  cases ho:o.op with
  |call c=>
   cases hc:c.callee with
   |value f=>
    cases how:o.dst.any h.owns.contains with
    |true=>exact RO fun F=>by simp only [cI,ho,hc,how,cond_true]
    |false=>
    cases hro:(o.dst.any h.stay.contains&&wide st c f) with
    |true=>
     cases hd:o.dst<;>(simp only [iM,ho,hc,hd] at hv;rw [hd] at hro how;rw [how,hro] at hv;cases hv)
    |false=>
    cases CI:(wide st c f||c.args.toList.any (fun x=>(jD h st x).isSome)) with
    |true=>
     obtain ⟨S,hS,hall⟩:=NW hv;exact done S hS fun F hF=>⟨by simp only [cI,ho,hc];rw [how,hro,CI];rfl,hall F hF⟩
    |false=>
     obtain ⟨PK,ia⟩:=Bool.or_eq_false_iff.1 CI
     have e1:∀F,iM P h F o st=(bif o.dst.any h.owns.contains then gz P h F st c f o.dst else bif o.dst.any h.stay.contains&&wide st c f then none else bif wide st c f then fF P h F st c f o.dst else bif c.args.toList.any (fun x=>(jD h st x).isSome) then jN P h F st c f o.dst else
      match iM.fk st c.args.toList with
      |some st'=>match aR P 0 st' f,fq P st' c.args.toList c.argTypes.toList with
       |some (.pv (.fn g caps)),some vs=>match F g ((vs++caps).map .pv) [] with
        |some (r,[])=>bif c.args.toList.any (gx st')|| !r.gu then none else some (st'.set o.dst (.pv r))
        |_=>none
       |_,_=>none
      |none=>none):=fun F=>by
      cases hd:o.dst<;>simp only [iM,ho,hc,hd]<;>rfl
     rw [e1,how,hro,PK,ia] at hv;simp only [cond_false] at hv;split at hv
     ·rename_i st1 hp
      split at hv
      ·rename_i g caps vs hfn hvs
       split at hv
       ·rename_i r hr
        refine done _ (Holds.one hr) fun F hF=>⟨?_,?_⟩
        ·simp only [cI,ho,hc]
         rw [how,hro,CI];simp only [cond_false];split
         ·rename_i g2 caps2 vs2 hfn2 hvs2
          have k1:=EA hp hfn2;rw [hfn] at k1;simp only [Option.some.injEq,SV.pv.injEq,AV.fn.injEq] at k1;obtain ⟨rfl,rfl⟩:=k1;have k2:=wS hp (ni hp).2 hvs2;rw [hvs] at k2;injection k2 with k2
          subst k2;simp only [cI,ho,hc] at hf;rw [how,hro,CI] at hf;simp only [cond_false,hfn2,hvs2,hr] at hf;rw [hF.get];exact hf
         ·rfl
        ·rw [e1,how,hro,PK,ia]
         simp only [cond_false,hp,hfn,hvs,hF.get];exact hv
       ·cases hv
      ·cases hv
     ·cases hv
   |builtin b=>exact RO fun F=>by simp only [cI,ho,hc]
   |invoke r m=>exact RO fun F=>by simp only [cI,ho,hc]
  |makeFunc fn first caps=>exact RO fun F=>by cases fn<;>simp only [cI,ho]
  |_=>exact RO fun F=>by simp only [cI,ho]
theorem KQ {o:Oper} {st st':St} (hv:step P h F0 o st=some st'):∃S,Holds F0 S∧∀F,Holds F S→step P h F o st=some st':=by
 unfold step at hv;obtain ⟨st1,h1,h2⟩:=Option.bind_eq_some_iff.1 hv;obtain ⟨S,hS,k⟩:=Qk h2;exact ⟨S,hS,fun F hF=>by simp only [step,h1,Option.bind_some,k F hF]⟩
theorem Nf {ops:Array Oper}:∀{l:List Oper} {st st':St},kq P h F0 ops l st=some st'→∃S,Holds F0 S∧∀F,Holds F S→kq P h F ops l st=some st':=by
 intro l
 induction l with
 |nil=>intro st st' hv;exact ⟨[],Holds.nil,fun F _=>hv⟩
 |cons o l ih=>
  intro st st' hv;simp only [kq] at hv;split at hv
  ·rename_i b hw
   cases b with
   |true=>
    simp only [cond_true] at hv;cases hs:step P h F0 o st with
    |none=>rw [hs] at hv;cases hv
    |some st1=>
     rw [hs] at hv;obtain ⟨S1,h1,k1⟩:=KQ hs;obtain ⟨S2,h2,k2⟩:=ih hv;exact ⟨S1++S2,h1.append h2,fun F hF=>by simp only [kq,hw,cond_true,k1 F hF.left,Option.bind_some];exact k2 F hF.right⟩
   |false=>
    simp only [cond_false] at hv;obtain ⟨S2,h2,k2⟩:=ih hv;exact ⟨S2,h2,fun F hF=>by simp only [kq,hw,cond_false];exact k2 F hF⟩
  ·cases hv
theorem KH {ops:Array Oper}:∀{l:List Oper} {i:Nat} {prev:List (Nat×dF)} {st st':St},fO P h F0 ops i l prev st=some st'→∃S,Holds F0 S∧∀F,Holds F S→fO P h F ops i l prev st=some st':=by
 intro l
 induction l with
 |nil=>intro i prev st st' hv;exact ⟨[],Holds.nil,fun F _=>hv⟩
 |cons o l ih=>
  intro i prev st st' hv;simp only [fO] at hv;split at hv
  ·cases hv
  ·rename_i b hw
   cases b with
   |true=>
    simp only [cond_true] at hv;cases hF:(SE h st o&&(tR h o).isEmpty) with
    |true=>
     simp only [hF,cond_true] at hv;split at hv
     ·rename_i v hf
      obtain ⟨hb,hv⟩:=bz hv;obtain ⟨S1,h1,k1⟩:=JG hf;obtain ⟨S2,h2,k2⟩:=ih hv;exact ⟨S1++S2,h1.append h2,fun F hS=>by simp only [fO,hw,cond_true,hF,k1 F hS.left,hb];exact k2 F hS.right⟩
     ·cases hv
    |false=>
     simp only [hF,cond_false] at hv;split at hv
     ·rename_i st1 hs
      obtain ⟨hb,hv⟩:=bz hv;obtain ⟨S1,h1,k1⟩:=KQ hs;obtain ⟨S2,h2,k2⟩:=ih hv;exact ⟨S1++S2,h1.append h2,fun F hS=>by simp only [fO,hw,cond_true,hF,cond_false,k1 F hS.left,hb];exact k2 F hS.right⟩
     ·cases hv
   |false=>
    simp only [cond_false] at hv;obtain ⟨hb,hv⟩:=bz hv;obtain ⟨S2,h2,k2⟩:=ih hv;exact ⟨S2,h2,fun F hS=>by simp only [fO,hw,cond_false,hb,cond_true];exact k2 F hS⟩
theorem xP {n:Nat}:∀(c:Code) {st:St} {x:Ex×St},exec P h F0 n c st=some x→∃S,Holds F0 S∧∀F m,Holds F S→n≤m→exec P h F m c st=some x:=by
 intro c
 induction c with
 |skip=>intro st x hv;exact ⟨[],Holds.nil,fun F m _ _=>hv⟩
 |label l=>intro st x hv;exact ⟨[],Holds.nil,fun F m _ _=>hv⟩
 |exit id=>intro st x hv;exact ⟨[],Holds.nil,fun F m _ _=>hv⟩
 |ret=>intro st x hv;exact ⟨[],Holds.nil,fun F m _ _=>hv⟩
 |region id ops draw=>
  intro st x hv;simp only [exec] at hv;obtain ⟨st1,dQ,hv⟩:=Option.bind_eq_some_iff.1 hv;cases draw with
  |true=>
   simp only [cond_true] at hv;obtain ⟨hb,hv⟩:=bz hv;simp only [Option.map_eq_some_iff] at hv;obtain ⟨s,hr,rfl⟩:=hv;obtain ⟨S,hS,k⟩:=KH hr;exact ⟨S,hS,fun F m hF _=>by simp only [exec,dQ,Option.bind_some,cond_true,hb,k F hF,Option.map_some]⟩
  |false=>
   simp only [cond_false,Option.map_eq_some_iff] at hv;obtain ⟨s,hr,rfl⟩:=hv;obtain ⟨S,hS,k⟩:=Nf hr;exact ⟨S,hS,fun F m hF _=>by simp only [exec,dQ,Option.bind_some,cond_false,k F hF,Option.map_some]⟩
 |seq a b Vx WR=>
  intro st x hv;simp only [exec] at hv;cases Br:find h.blk (cE a) with
  |some z=>simp only [Br] at hv;exact ⟨[],Holds.nil,fun F m _ _=>by simp only [exec,Br];exact hv⟩
  |none=>
  simp only [Br] at hv;split at hv
  ·rename_i st1 ha
   obtain ⟨S1,h1,k1⟩:=Vx ha;obtain ⟨S2,h2,k2⟩:=WR hv;exact ⟨S1++S2,h1.append h2,fun F m hF hm=>by simp only [exec,Br,k1 F m hF.left hm];exact k2 F m hF.right hm⟩
  ·rename_i hne
   obtain ⟨S1,h1,k1⟩:=Vx hv;refine ⟨S1,h1,fun F m hF hm=> ?_⟩;simp only [exec,Br,k1 F m hF hm];obtain ⟨e,s⟩:=x;cases e with
   |normal=>exact absurd hv (hne s)
   |exit j=>rfl
   |ret=>rfl
 |cond c a b Vx WR=>
  intro st x hv;simp only [exec] at hv;split at hv
  ·rename_i t hc
   cases t with
   |true=>obtain ⟨S,hS,k⟩:=Vx hv;exact ⟨S,hS,fun F m hF hm=>by simp only [exec,hc,cond_true];exact k F m hF hm⟩
   |false=>obtain ⟨S,hS,k⟩:=WR hv;exact ⟨S,hS,fun F m hF hm=>by simp only [exec,hc,cond_false];exact k F m hF hm⟩
  ·cases hv
 |block id c ih=>
  intro st x hv;simp only [exec] at hv;split at hv
  ·rename_i j s hc
   obtain ⟨S,hS,k⟩:=ih hc;exact ⟨S,hS,fun F m hF hm=>by simp only [exec,k F m hF hm];exact hv⟩
  ·rename_i hne
   obtain ⟨S,hS,k⟩:=ih hv;refine ⟨S,hS,fun F m hF hm=> ?_⟩;simp only [exec,k F m hF hm];obtain ⟨e,s⟩:=x;cases e with
   |normal=>rfl
   |exit j=>exact absurd hv (hne j s)
   |ret=>rfl
 |loop c ih=>
  intro st x hv;simp only [exec] at hv;have key:∀(q:Nat) {st:St} {x:Ex×St},iter h (cE c) (exec P h F0 n c) q st=some x→∃S,Holds F0 S∧∀F m q',Holds F S→n≤m→q≤q'→iter h (cE c) (exec P h F m c) q' st=some x:=by
   intro q
   induction q with
   |zero=>intro st x hv;simp [iter] at hv
   |succ q ihq=>
    intro st x hv;simp only [iter] at hv;split at hv
    ·rename_i st1 hc
     obtain ⟨S1,h1,k1⟩:=ih hc;obtain ⟨S2,h2,k2⟩:=ihq hv;refine ⟨S1++S2,h1.append h2,fun F m q' hF hm hq=> ?_⟩;obtain ⟨V2,rfl⟩:∃V2,q'=V2+1:=⟨q'-1,by omega⟩
     simp only [iter,k1 F m hF.left hm];exact k2 F m V2 hF.right hm (by omega)
    ·rename_i hne
     obtain ⟨S1,h1,k1⟩:=ih hv;refine ⟨S1,h1,fun F m q' hF hm hq=> ?_⟩;obtain ⟨V2,rfl⟩:∃V2,q'=V2+1:=⟨q'-1,by omega⟩
     simp only [iter,k1 F m hF hm];obtain ⟨e,s⟩:=x;cases e with
     |normal=>exact absurd hv (hne s)
     |exit j=>rfl
     |ret=>rfl
  obtain ⟨S,hS,k⟩:=key n hv;exact ⟨S,hS,fun F m hF hm=>by simp only [exec];exact k F m m hF hm hm⟩
 |scope c ih=>
  intro st x hv;simp only [exec] at hv;obtain ⟨S,hS,k⟩:=ih hv;exact ⟨S,hS,fun F m hF hm=>by simp only [exec];exact k F m hF hm⟩
 |rangeFunc f ps a b Vx WR=>intro st x hv;simp [exec] at hv
 |goto l=>intro st x hv;simp [exec] at hv
 |refuse s=>intro st x hv;simp [exec] at hv
theorem jO {n m:Nat} (hm:n≤m) {c:Code} {st:St} {x:Ex×St} (hv:exec P h F0 n c st=some x):exec P h F0 m c st=some x:=by
 obtain ⟨S,hS,k⟩:=xP c hv;exact k F0 m hS hm
end
section
variable {P:Program} {H:Nat→Hint} {dg:cL}
theorem Lu:∀(n:Nat) {f:Nat} {args:List SV} {bT:List (Nat×Ob)} {r:AV×List (Nat×Ob)},jo P H dg n f args bT=some r→jo P H dg (n+1) f args bT=some r:=by
 intro n
 induction n with
 |zero=>intro f args bT r hv;simp [jo] at hv
 |succ n ih=>
  intro f args bT r hv;rw [jo] at hv⊢;dsimp only at hv⊢;split at hv
  ·rename_i x hp;(try simp only [hp]);exact hv
  ·rename_i hp
   (try simp only [hp])
   split at hv
   ·rename_i fn hf
    (try simp only [hf])
    split at hv
    ·rename_i c hb
     (try simp only [hb])
     obtain ⟨hc,hv⟩:=bz hv;rw [hc];simp only [cond_true];split at hv
     ·rename_i e st hx
      obtain ⟨S,hS,k⟩:=xP c hx;have hS':Holds (jo P H dg (n+1)) S:=fun s hs=>ih (hS s hs)
      rw [k _ (n+1) hS' (by omega)];exact hv
     ·cases hv
    ·cases hv
   ·cases hv
theorem pO {n m:Nat} (hm:n≤m) {f:Nat} {args:List SV} {bT:List (Nat×Ob)} {r:AV×List (Nat×Ob)} (hv:jo P H dg n f args bT=some r):jo P H dg m f args bT=some r:=by
 induction hm with
 |refl=>exact hv
 |step _ ih=>exact Lu _ ih
noncomputable def run (P:Program) (H:Nat→Hint) (dg:cL):cL:=fun f args bT=>
 open Classical in if h : ∃ r n, jo P H dg n f args bT = some r then some h.choose else none
theorem kS {f:Nat} {args:List SV} {bT:List (Nat×Ob)} {r:AV×List (Nat×Ob)}:run P H dg f args bT=some r↔∃n,jo P H dg n f args bT=some r:=by
 constructor
 ·intro hv
  unfold run at hv;split at hv
  ·rename_i hex
   injection hv with hv
   rw [←hv];exact hex.choose_spec
  ·cases hv
 ·rintro ⟨n,hn⟩
  unfold run;have hex:∃r n,jo P H dg n f args bT=some r:=⟨r,n,hn⟩
  rw [dif_pos hex];obtain ⟨m,hm⟩:=hex.choose_spec;have h1:=pO (Nat.le_max_left n m) hn;have h2:=pO (Nat.le_max_right n m) hm;rw [h1] at h2;exact h2.symm
theorem PF {S:IT} (hS:Holds (run P H dg) S):∃n,Holds (jo P H dg n) S:=by
 induction S with
 |nil=>exact ⟨0,Holds.nil⟩
 |cons s S ih=>
  obtain ⟨n,hn⟩:=ih fun t ht=>hS t (List.mem_cons_of_mem _ ht)
  obtain ⟨m,hm⟩:=kS.1 (hS s (List.mem_cons_self ..));refine ⟨max n m,fun t ht=> ?_⟩;cases List.mem_cons.1 ht with
  |inl e=>subst e;exact pO (Nat.le_max_right ..) hm
  |inr e=>exact pO (Nat.le_max_left ..) (hn t e)
theorem AX {f:Nat} {fn:Func} {c:Code} {args:List SV} {bT:List (Nat×Ob)} {r:AV×List (Nat×Ob)} {n:Nat} {e:Ex} {st:St} (hp:dg f args bT=none)
  (hf:P.funcs[f]? =some fn) (hb:fn.body=some c) (hc:(Nat.ble args.length fn.ntmps&&(bT.map (·.1)).all (fun i=> !(r9 i)))=true)
  (hx:exec P (H f) (run P H dg) n c { env:=find (sA 0 args),ob:=find bT }=some (e,st)) (he:RT P (H f).own fn bT e st=some r):run P H dg f args bT=some r:=by
 obtain ⟨S,hS,k⟩:=xP c hx;obtain ⟨m,hm⟩:=PF hS;have hS':Holds (jo P H dg (max n m)) S:=fun s hs=>pO (Nat.le_max_right ..) (hm s hs)
 refine kS.2 ⟨max n m+1,?_⟩;simp only [jo,hp,hf,hb,hc,cond_true,k _ (max n m) hS' (Nat.le_max_left ..)];exact he
theorem lC {f:Nat} {args:List SV} {bT:List (Nat×Ob)} {r:AV×List (Nat×Ob)} (hp:dg f args bT=some r):run P H dg f args bT=some r:=
 kS.2 ⟨1,by simp only [jo,hp]⟩
theorem Aq {q:Qp} {B:Mu} (hok:wR P=true) (hblk:∀f fn c,P.funcs[f]? =some fn→fn.body=some c→iP q B P (H f) fn.ntmps c) (jq:dL q B P dg):∀n,dL q B P (jo P H dg n):=by
 intro n
 induction n with
 |zero=>intro g args bT r dO hv;simp [jo] at hv
 |succ n ih=>
  intro g args bT r dO hv;simp only [jo] at hv;split at hv
  ·rename_i x hp
   injection hv with hv
   subst hv;exact jq g args bT r dO hp
  ·split at hv
   ·rename_i fn hf
    split at hv
    ·rename_i c hb
     obtain ⟨hc,hv⟩:=bz hv;split at hv
     ·rename_i e st hx
      refine fun w μ loc us h1 h2 h3 h4 h5=> .inl ⟨?_,Lq hok (hblk g) ih hf hb hc hx hv w μ loc us h1 h2 h3 h4 h5⟩
      simp only [wR,Bool.and_eq_true] at hok;have:=Nat.le_of_ble_eq_true hok.2;have:=(Array.getElem?_eq_some_iff.1 hf).1;omega
     ·cases hv
    ·cases hv
   ·cases hv
theorem zX {q:Qp} {B:Mu} (hok:wR P=true) (hblk:∀f fn c,P.funcs[f]? =some fn→fn.body=some c→iP q B P (H f) fn.ntmps c) (jq:dL q B P dg):dL q B P (run P H dg):=by
 intro g args bT r dO hv;obtain ⟨n,hn⟩:=kS.1 hv;exact Aq hok hblk jq n g args bT r dO hn
end
end Go.AM
