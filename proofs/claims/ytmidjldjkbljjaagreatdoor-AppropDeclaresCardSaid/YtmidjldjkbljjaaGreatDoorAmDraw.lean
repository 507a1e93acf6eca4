/- THE ABSTRACT MACHINE. -/
import Derived.Test.YtmidjldjkbljjaaGreatDoorAmRun
set_option linter.unusedVariables false
set_option linter.unusedSimpArgs false
namespace Go.AM
open Go.RowKit
section
variable {P:Program} {h:Hint} {bH:de}
theorem uz {st st':St} {x:Operand} (hx:∀t,x= .tmp t→st.env t=st'.env t) (ty:TypeId):bg P ty st x=bg P ty st' x:=by
 cases x with
 |tmp t=>exact hx t rfl
 |_=>rfl
def DV (P:Program) (st st':St) (x:Operand):Prop:=∀ty sv,bg P ty st x=some sv→∀id∈sv.ids,st.ob id=st'.ob id
theorem rK {st st':St} {v:SV} (hv:∀id∈v.ids,st.ob id=st'.ob id):elems st v=elems st' v:=by
 cases v with
 |row id=>simp only [elems,hv id (by simp [SV.ids])]
 |pv x=>cases x<;>rfl
 |_=>rfl
theorem AL {st st':St} {v:SV} (hv:∀id∈v.ids,st.ob id=st'.ob id):maps st v=maps st' v:=by
 cases v with
 |row id=>simp only [maps,hv id (by simp [SV.ids])]
 |pv x=>cases x<;>rfl
 |_=>rfl
theorem Km {st st':St} {v:SV} (hv:∀id∈v.ids,st.ob id=st'.ob id):nE st v=nE st' v:=by
 cases v with
 |row id=>simp only [nE,hv id (by simp [SV.ids])]
 |_=>rfl
theorem Cj {st st':St} {xs:List Operand} {ts:List TypeId} (cQ:∀x∈xs,DV P st st' x) (hx:∀x∈xs,∀ty,bg P ty st x=bg P ty st' x):eW P st xs ts=eW P st' xs ts:=by
 induction xs generalizing ts with
 |nil=>rfl
 |cons x xs ih=>
  have hl:(bg P (ts.headD 0) st x).bind (nE st)=(bg P (ts.headD 0) st' x).bind (nE st'):=by
   rw [←hx x (by simp)];cases ho:bg P (ts.headD 0) st x with
   |none=>rfl
   |some sv=>exact Km (cQ x (by simp) _ sv ho)
  simp only [eW];rw [hl,ih (fun y hy=>cQ y (by simp [hy])) (fun y hy=>hx y (by simp [hy]))]
theorem tO {st st':St} {ty:Nat→TypeId} {l:List (Nat×Operand)} (hx:∀x∈l.map (·.2),∀t,bg P t st x=bg P t st' x):partsOf P ty st l=partsOf P ty st' l:=by
 induction l with
 |nil=>rfl
 |cons p l ih=>
  obtain ⟨i,x⟩:=p;simp only [partsOf];rw [hx x (by simp),ih (fun y hy=>hx y (by simp only [List.map_cons,List.mem_cons];exact .inr hy))]
theorem q5 {st st':St} {b:Bool} {acc:AV} {l:List Operand} (hx:∀x∈l,∀t,bg P t st x=bg P t st' x):eM P st b acc l=eM P st' b acc l:=by
 induction l generalizing acc with
 |nil=>rfl
 |cons x l ih=>
  simp only [eM];rw [hx x (by simp)];cases (bg P 0 st' x).bind eC with
  |none=>rfl
  |some v=>
   simp only;cases Kw b acc v with
   |none=>rfl
   |some r=>exact ih (fun y hy=>hx y (by simp [hy]))
theorem HC {st st':St} {c:Call} (cQ:∀x∈c.args.toList,DV P st st' x) (hx:∀x∈c.args.toList,∀ty,bg P ty st x=bg P ty st' x):q7 P c st=q7 P c st':=by
 obtain ⟨cal,⟨args⟩,tys⟩:=c;unfold q7;simp only at hx cQ⊢;split
 ·rename_i x
  have hxx:=hx x (by simp);have hxo:=cQ x (by simp);split
  ·rename_i t _
   rw [←hxx t];cases ho:bg P t st x with
   |none=>
    rcases P.underlying t with _|d
    ·rfl
    ·cases d<;>rfl
   |some sv=>
    have:=rK (hxo t sv ho);have Y7:=AL (hxo t sv ho);rcases P.underlying t with _|d
    ·rfl
    ·cases d<;>first
      |rfl
      |(show Option.map _ (maps st sv)=Option.map _ (maps st' sv);rw [Y7])
      |(cases sv with
        |pv v=>cases v<;>rfl
        |_=>rfl)
      |(cases sv with
        |sub id sz lo hi=>rfl
        |undef=>show Option.map _ (elems st _)=Option.map _ (elems st' _);rw [this]
        |any=>show Option.map _ (elems st _)=Option.map _ (elems st' _);rw [this]
        |pv v=>show Option.map _ (elems st _)=Option.map _ (elems st' _);rw [this]
        |ptr id off=>show Option.map _ (elems st _)=Option.map _ (elems st' _);rw [this]
        |row id=>show Option.map _ (elems st _)=Option.map _ (elems st' _);rw [this]
        |rp id sz i off=>show Option.map _ (elems st _)=Option.map _ (elems st' _);rw [this]
        |cp cs=>show Option.map _ (elems st _)=Option.map _ (elems st' _);rw [this]
        |cl f caps=>show Option.map _ (elems st _)=Option.map _ (elems st' _);rw [this]
        |ag caps=>show Option.map _ (elems st _)=Option.map _ (elems st' _);rw [this]
        |two s b=>show Option.map _ (elems st _)=Option.map _ (elems st' _);rw [this])
  ·rfl
 ·rename_i x l
  have hm:∀b acc,eM P st b acc l=eM P st' b acc l:=fun b acc=>q5 (fun y hy=>hx y (by simp [hy]))
  rw [hx x (by simp)];simp only [hm]
 ·rename_i x l
  have hm:∀b acc,eM P st b acc l=eM P st' b acc l:=fun b acc=>q5 (fun y hy=>hx y (by simp [hy]))
  rw [hx x (by simp)];simp only [hm]
 ·rfl
theorem tN {st st':St} {x:Option Operand} (hx:∀y,x=some y→∀ty,bg P ty st y=bg P ty st' y):fL P st x=fL P st' x:=by
 cases x with
 |none=>rfl
 |some y=>simp [fL,hx y rfl]
theorem KJ {st st':St} {o:Oper} (cQ:Ht o.op=false→∀x∈o.op.operands.toList,DV P st st' x) (hop:∀x∈o.op.operands.toList,∀ty,bg P ty st x=bg P ty st' x):cM P o st=cM P o st':=by
 obtain ⟨dst,op,type,pos,after,guard⟩:=o;simp only at hop;cases op with
 |move x=>have hx:=hop x (by simp [Op.operands]);simp [cM,hx]
 |assign x=>have hx:=hop x (by simp [Op.operands]);simp [cM,hx]
 |pick c a b=>have hx:=hop c (by simp [Op.operands]);have hy:=hop a (by simp [Op.operands]);have hz:=hop b (by simp [Op.operands]);simp [cM,hx,hy,hz]
 |binOp op t x y t'=>have hx:=hop x (by simp [Op.operands]);have hy:=hop y (by simp [Op.operands]);simp [cM,hx,hy]
 |unOp op t x=>have hx:=hop x (by simp [Op.operands]);simp [cM,hx]
 |convert s d x=>
  have hx:=hop x (by simp [Op.operands]);have ho:=cQ rfl x (by simp [Op.operands]) s;have he:(bg P s st x).bind (elems st)=(bg P s st' x).bind (elems st'):=by
   rw [←hx s];cases hv:bg P s st x with
   |none=>rfl
   |some sv=>exact rK (ho _ hv)
  simp only [cM,hx 0,he]
 |nilCheck x=>have hx:=hop x (by simp [Op.operands]);simp only [cM,hx]
 |fieldAddr t x f=>have hx:=hop x (by simp [Op.operands]);simp [cM,hx]
 |field t x f=>have hx:=hop x (by simp [Op.operands]);simp [cM,hx]
 |indexAddr t x i=>
  have hx:=hop x (by simp [Op.operands]);have hy:=hop i (by simp [Op.operands]);have ho:=cQ rfl x (by simp [Op.operands]) t;have YB:vm P st t x i=vm P st' t x i:=by
   unfold vm;rw [←hx t,←hy 0];cases hv:bg P t st x with
   |none=>rcases isSlice P t with _|⟨e,s⟩<;>simp only []
   |some sv=>
    have PE:=ho _ hv;clear hv;rcases isSlice P t with _|⟨e,s⟩
    ·simp only []
    ·cases sv with
     |row id=>
      rcases bg P 0 st i with _|b
      ·rfl
      ·cases b with
       |pv v=>cases v<;>first|rfl|(simp only [PE id (by simp [SV.ids])])
       |_=>rfl
     |pv v=>cases v<;>first|rfl|(rcases bg P 0 st i with _|b<;>first|rfl|(cases b<;>first|rfl|(rename_i q;cases q<;>rfl)))
     |_=>first|rfl|(rcases bg P 0 st i with _|b<;>first|rfl|(cases b<;>first|rfl|(rename_i q;cases q<;>rfl)))
  have har:∀n e,wX P st n e x i=wX P st' n e x i:=fun n e=>by simp only [wX,hx 0,hy 0]
  simp only [cM,YB,har]
 |index t x i=>have hx:=hop x (by simp [Op.operands]);have hy:=hop i (by simp [Op.operands]);simp [cM,hx,hy]
 |load t x=>
  have hx:=hop x (by simp [Op.operands]);have ho:=cQ rfl x (by simp [Op.operands]) 0;simp only [cM];rw [←hx 0];cases hv:bg P 0 st x with
  |none=>rfl
  |some sv=>
   have PE:=ho _ hv;clear hv;cases sv with
   |ptr id off=>simp only [PE id (by simp [SV.ids])]
   |rp id sz i off=>simp only [PE id (by simp [SV.ids])]
   |pv v=>cases v<;>rfl
   |_=>rfl
 |lookup t x k ok=>
  have hx:=hop x (by simp [Op.operands]);have hk:=hop k (by simp [Op.operands]);have ho:=cQ rfl x (by simp [Op.operands]) t;have hm:(bg P t st x).bind (maps st)=(bg P t st' x).bind (maps st'):=by
   rw [←hx t];cases hv:bg P t st x with
   |none=>rfl
   |some sv=>exact AL (ho _ hv)
  have hkr:(bg P t st x).bind (yN st)=(bg P t st' x).bind (yN st'):=by
   rw [←hx t];cases hv:bg P t st x with
   |none=>rfl
   |some sv=>
    have:=ho _ hv;cases sv with
    |row id=>simp only [Option.bind_some,yN];rw [this id (by simp [SV.ids])]
    |_=>rfl
  simp only [cM,hm,hk,hkr]
 |extract x i=>have hx:=hop x (by simp [Op.operands]);simp [cM,hx]
 |slice t x lo hi mx=>
  cases mx with
  |some m=>simp [cM]
  |none=>
   have hx:=hop x (by simp [Op.operands]);have hl:=tN (P:=P) (st:=st) (st':=st') (x:=lo) (fun y e=>by subst e;exact hop y (by simp [Op.operands]));have hh:=tN (P:=P) (st:=st) (st':=st') (x:=hi) (fun y e=>by subst e;exact hop y (by cases lo<;>simp [Op.operands]));have ho:=cQ rfl x (by simp [Op.operands]) t;simp only [cM];rw [←hx t,hl,hh];cases hv:bg P t st x with
   |none=>rcases P.underlying t with _|d<;>first|rfl|(cases d<;>rfl)
   |some sv=>
    have PE:=ho _ hv;clear hv;rcases P.underlying t with _|d
    ·rfl
    ·cases d<;>first
      |rfl
      |(rcases fL P st' lo with _|l
        ·cases sv with
         |pv v=>cases v<;>rfl
         |_=>rfl
        ·rcases fL P st' hi with _|l2
         ·cases sv with
          |pv v=>cases v<;>rfl
          |_=>rfl
         ·cases sv with
          |row id=>simp only [PE id (by simp [SV.ids])]
          |pv v=>cases v<;>rfl
          |_=>rfl)
 |build t parts=>
  have hp:=tO (P:=P) (st:=st) (st':=st') (ty:=Ek P t) (l:=parts.toList) (fun x hx=>hop x (by simpa [Op.operands] using hx));simp [cM,hp]
 |call c=>
  have hin:∀x∈c.args.toList,x∈(Op.call c).operands.toList:=fun x hx=>by
   simp only [Op.operands,Call.operands,Array.toList_append,List.mem_append];exact .inr hx
  have:=HC (P:=P) (st:=st) (st':=st') (c:=c) (fun x hx=>cQ rfl x (hin x hx)) (fun x hx=>hop x (hin x hx));simp [cM,this]
 |_=>simp [cM]
theorem xq {st:St}:∀{l:List Operand} {x:Operand} {ty:TypeId} {sv:SV} {id:Nat},x∈l→bg P ty st x=some sv→id∈sv.ids→id∈Ar st l:=by
 intro l
 induction l with
 |nil=>intro x ty sv id hx;simp at hx
 |cons y l ih=>
  intro x ty sv id hx ho hid;rcases List.mem_cons.1 hx with rfl|hx
  ·cases x with
   |tmp t=>
    simp only [bg] at ho;simp only [Ar,ho,List.mem_append];exact .inl hid
   |const v=>
    simp only [bg] at ho;cases hc:ofConst P ty v with
    |none=>simp [hc] at ho
    |some y=>simp [hc] at ho;subst ho;simp [SV.ids] at hid
   |func f=>simp [bg] at ho;subst ho;simp [SV.ids] at hid
   |global g=>simp [bg] at ho
  ·have:=ih hx ho hid
   cases y with
   |tmp t=>simp only [Ar,List.mem_append];exact .inr this
   |_=>simpa [Ar] using this
theorem oG (st:St):∀(n:Nat) (todo done:List Nat),∀id∈done,id∈eO st n todo done
 |0,todo,done,id,h=>by simpa [eO] using h
 |n+1,[],done,id,h=>by simpa [eO] using h
 |n+1,x::todo,done,id,h=>by
  simp only [eO];cases done.contains x with
  |true=>exact oG st n todo done id h
  |false=>exact oG st n _ _ id (by simp [h])
theorem nq {st st':St}:∀(n:Nat) (todo done:List Nat),(∀id∈eO st n todo done,st.ob id=st'.ob id)→eO st n todo done=eO st' n todo done
 |0,todo,done,h=>by simp [eO]
 |n+1,[],done,h=>by simp [eO]
 |n+1,x::todo,done,h=>by
  simp only [eO] at h⊢;cases hc:done.contains x with
  |true=>rw [hc] at h;exact nq n todo done h
  |false=>
   rw [hc] at h;simp only [cond_false] at h⊢;have hx:st.ob x=st'.ob x:=h x (oG st n _ _ x (by simp));have hi:zD st x=zD st' x:=by simp only [zD,hx]
   rw [←hi];exact nq n _ _ h
theorem tJ {st st':St} {ids:List Nat} {ρ:Nat→Nat}:∀{l:List (Nat×Nat)},(∀p∈l,st.ob p.1=st'.ob p.1)→fW st ids ρ l=fW st' ids ρ l
 |[],_=>rfl
 |p::l,h=>by
  obtain ⟨id,nm⟩:=p;simp only [fW];rw [h (id,nm) (by simp),tJ (fun q hq=>h q (by simp [hq]))]
theorem uT {st st':St}:∀{xs:List Operand} {ts:List TypeId},(∀x∈xs,∀ty,bg P ty st x=bg P ty st' x)→oC P h st xs ts=oC P h st' xs ts
 |[],ts,_=>rfl
 |x::xs,ts,hx=>by
  simp only [oC,Ol];rw [hx x (by simp),uT (fun y hy=>hx y (by simp [hy]))]
theorem D9 {st st':St} {c:Call} {f:Operand} (hf:bg P 0 st f=bg P 0 st' f) (ha:∀x∈c.args.toList,∀ty,bg P ty st x=bg P ty st' x)
  (zq:∀g args,qL P h st c f=some (g,args)→∀id∈fM st args,st.ob id=st'.ob id):kQ P h bH st c f=kQ P h bH st' c f:=by
 have e1:qL P h st c f=qL P h st' c f:=by
  unfold qL;rw [hf,uT ha]
 unfold kQ;rw [←e1];cases hr:qL P h st c f with
 |none=>rfl
 |some p=>
  obtain ⟨g,args⟩:=p;simp only;have hi:=zq g args hr;have e2:fM st args=fM st' args:=nq 200 _ _ hi;rw [←e2];have e3:fW st (fM st args) (jT (eD (fM st args))) (eD (fM st args))=fW st' (fM st args) (jT (eD (fM st args))) (eD (fM st args)):=
   tJ (fun p hp=>hi p.1 (by
    have:p.1∈(eD (fM st args)).map (·.1):=List.mem_map.2 ⟨p,hp,rfl⟩
    rwa [show (eD (fM st args)).map (·.1)=fM st args from oc _ _ _] at this))
  rw [e3]
theorem Ju {st st':St} {o:Oper} (zq:Ht o.op=false→∀id∈Dq st o,st.ob id=st'.ob id) (hro:∀id∈Fj P h o st,st.ob id=st'.ob id) (GL:∀t∈slotsOf o,st.env t=st'.env t):cH P h bH o st=cH P h bH o st':=by
 have cQ:Ht o.op=false→∀x∈o.op.operands.toList,DV P st st' x:=fun hn x hx ty sv ho id hid=>zq hn id (xq hx ho hid)
 have hop:∀x∈o.op.operands.toList,∀ty,bg P ty st x=bg P ty st' x:=fun x hx ty=>uz (fun t e=>GL t (by
  subst e
  exact List.mem_filterMap.2 ⟨.tmp t,hx,rfl⟩)) ty
 have hpv:=KJ (P:=P) (o:=o) cQ hop;obtain ⟨dst,op,type,pos,after,guard⟩:=o;simp only at hop;cases op with
 |buildSlice t len parts=>
  have hp:∀ty,partsOf P ty st parts.toList=partsOf P ty st' parts.toList:=fun ty=>tO (fun x hx=>hop x (by simpa [Op.operands] using hx))
  simp [cH,lW,hp]
 |call c=>
  obtain ⟨cal,⟨args⟩,⟨tys⟩⟩:=c;cases cal with
  |value f=>
   have hargs:∀x∈args,x∈(Op.call { callee:=Callee.value f,args:=⟨args⟩,argTypes:=⟨tys⟩ }).operands.toList:=fun x hx=>by
    simp only [Op.operands,Call.operands,Array.toList_append,List.mem_append];exact .inr hx
   have hf:=hop f (by simp [Op.operands,Call.operands]);have ha:=Cj (P:=P) (st:=st) (st':=st') (xs:=args) (ts:=tys) (fun x hx=>cQ rfl x (hargs x hx)) (fun x hx=>hop x (hargs x hx));have hr:args.any (jU st)=args.any (jU st'):=by
    have key:∀x∈args,jU st x=jU st' x:=fun x hx=>by
     cases x with
     |tmp t=>
      have:=hop (.tmp t) (hargs _ hx) 0;simp only [bg] at this;simp [jU,this]
     |_=>rfl
    clear ha hargs hop hpv GL cQ zq hro
    induction args with
    |nil=>rfl
    |cons x xs ih=>simp only [List.any_cons];rw [key x (by simp),ih (fun y hy=>key y (by simp [hy]))]
   have gq:args.any (fun x=>(jg h st x).isSome)=args.any (fun x=>(jg h st' x).isSome):=by
    have key:∀x∈args,jg h st x=jg h st' x:=fun x hx=>by
     cases x with
     |tmp t=>
      have:=hop (.tmp t) (hargs _ hx) 0;simp only [bg] at this;simp [jg,this]
     |_=>rfl
    clear ha hargs hop hpv GL hr cQ zq hro
    induction args with
    |nil=>rfl
    |cons x xs ih=>simp only [List.any_cons];rw [key x (by simp),ih (fun y hy=>key y (by simp [hy]))]
   have hwide:wide st { callee:=Callee.value f,args:=⟨args⟩,argTypes:=⟨tys⟩ } f=wide st' { callee:=Callee.value f,args:=⟨args⟩,argTypes:=⟨tys⟩ } f:=by
    have kf:SP st f=SP st' f:=by
     cases f with
     |tmp t=>
      have:=hf 0;simp only [bg] at this;simp [SP,this]
     |_=>rfl
    have key:∀x∈args,C7 st x=C7 st' x:=fun x hx=>by
     cases x with
     |tmp t=>
      have:=hop (.tmp t) (hargs _ hx) 0;simp only [bg] at this;simp [C7,this]
     |_=>rfl
    have kk:args.any (C7 st)=args.any (C7 st'):=by
     clear ha hargs hop hpv GL hr cQ zq gq hro
     induction args with
     |nil=>rfl
     |cons x xs ih=>simp only [List.any_cons];rw [key x (by simp),ih (fun y hy=>key y (by simp [hy]))]
    simp only [wide,kf,kk]
   cases hst:dst.any h.stay.contains with
   |false=>simp [cH,hf,ha,hr,gq,hwide,hst]
   |true=>
    have hc:=D9 (P:=P) (h:=h) (bH:=bH) (st:=st) (st':=st') (c:={ callee:=Callee.value f,args:=⟨args⟩,argTypes:=⟨tys⟩ }) (f:=f) (hf 0) (fun x hx=>hop x (hargs x hx)) (fun g as hg id hid=>hro id (by
     simp only [Fj,hg,hst,cond_true];exact hid))
    simp [cH,hf,ha,hr,gq,hwide,hst,hc]
  |_=>simpa [cH,cM] using hpv
 |makeFunc f first caps=>
  cases f with
  |func g=>
   have hc:mo st caps.toList=mo st' caps.toList:=by
    have key:∀x∈caps.toList,∀ty,bg P ty st x=bg P ty st' x:=fun x hx=>hop x (by simp only [Op.operands,Array.toList_append,List.mem_append];exact .inr hx)
    clear hop hpv GL cQ zq;generalize caps.toList=l at key
    induction l with
    |nil=>rfl
    |cons x xs ih=>
     cases x with
     |tmp t=>
      have:=key (.tmp t) (by simp) 0;simp only [bg] at this;simp only [mo];rw [this,ih (fun y hy=>key y (by simp [hy]))]
     |_=>rfl
   have vi:oE st caps.toList=oE st' caps.toList:=by
    have key:∀x∈caps.toList,∀ty,bg P ty st x=bg P ty st' x:=fun x hx=>hop x (by simp only [Op.operands,Array.toList_append,List.mem_append];exact .inr hx)
    clear hop hpv GL cQ zq hc;generalize caps.toList=l at key
    induction l with
    |nil=>rfl
    |cons x xs ih=>
     cases x with
     |tmp t=>
      have:=key (.tmp t) (by simp) 0;simp only [bg] at this;simp only [oE];rw [this,ih (fun y hy=>key y (by simp [hy]))]
     |_=>rfl
   simp [cH,hc,vi]
  |_=>simpa [cH] using hpv
 |assign x=>simp only [cH,hpv]
 |lookup t x k ok=>simp only [cH,hpv]
 |build t ps=>simp only [cH,hpv]
 |_=>simpa [cH] using hpv
theorem kE {st st':St} {ops:Array Oper} {o:Oper} (GL:∀t∈iB ops o,st.env t=st'.env t):fe ops o st=fe ops o st':=by
 unfold fe;cases hg:o.guard with
 |none=>rfl
 |some p=>
  obtain ⟨j,want⟩:=p;simp only;cases hd:(ops[j]?).bind (·.dst) with
  |none=>rfl
  |some d=>simp only;rw [GL d (by simp [iB,hg,hd])]
def zS (P:Program) (h:Hint) (bH:de) (ops:Array Oper) (fresh:List (Nat×Nat)) (i:Nat) (o:Oper) (s:St) (f:dV) (s':St):Prop:=
 (fe ops o s=some false∧s'=s.set o.dst .undef∧f=ny ops o s)∨
 (fe ops o s=some true∧∃v,cH P h bH o s=some v∧s'=s.set o.dst v∧f=rO P h ops o s v∧iW ops fresh i v=true)∨
 (fe ops o s=some true∧∃t x y sa sv id,o.op= .store t x y∧o.dst=none∧bg P 0 s x=some sa∧bg P t s y=some sv∧targetId sa=some id∧storeAt P t s sa sv=some s'∧f=fD ops o s id∧iW ops fresh i sv=true)∨
 (fe ops o s=some true∧∃t d z,o.op= .alloc t∧o.dst=some d∧h.rows.contains d=false∧zeroCells P t=some z∧s'={ env:=put s.env d (some (.ptr d 0)),ob:=put s.ob d (some (.box t (z.map .pv))) }∧f=gl ops o d)∨
 (fe ops o s=some true∧step P h bH o s=some s'∧f=eB∧fresh.all (fun p=>Nat.blt p.2 i)=true)∨
 (fe ops o s=some true∧step P h bH o s=some s'∧∃c d id,o.op= .call c∧o.dst=some d∧CK P s fresh ops c (some d)=some id∧f=iT ops o s d id)
structure Run (P:Program) (h:Hint) (bH:de) (ops:Array Oper) (fresh:List (Nat×Nat)) (S:Nat→St) (Fp:Nat→dV):Prop where
 op:∀i o,ops[i]? =some o→zS P h bH ops fresh i o (S i) (Fp i) (S (i+1))
 ord:∀i j,j<i→i<ops.size→(Fp j).conflict (Fp i)=true→reach ops 12 i j=true
theorem Wx {ops:Array Oper} {fresh:List (Nat×Nat)}:∀(l:List Oper) (i:Nat) (prev:List (Nat×dV)) (st s:St),cg P h bH ops fresh i l prev st=some s→
  ∃(S:Nat→St) (Fp:Nat→dV),S i=st∧S (i+l.length)=s∧(∀k o,l[k]? =some o→zS P h bH ops fresh (i+k) o (S (i+k)) (Fp (i+k)) (S (i+k+1)))∧
   (∀k,k<l.length→∀p∈prev,p.2.conflict (Fp (i+k))=true→reach ops 12 (i+k) p.1=true)∧
   (∀k q,q<k→k<l.length→(Fp (i+q)).conflict (Fp (i+k))=true→reach ops 12 (i+k) (i+q)=true):=by
 intro l
 induction l with
 |nil=>
  intro i prev st s hr;simp only [cg,Option.some.injEq] at hr;subst hr;exact ⟨fun _=>st,fun _=>eB,rfl,rfl,by simp,by simp,by simp⟩
 |cons o l ih=>
  intro i prev st s hr;have cont:∀(f:dV) (st1:St),zS P h bH ops fresh i o st f st1→eR ops prev i f=true→cg P h bH ops fresh (i+1) l ((i,f)::prev) st1=some s→
    ∃(S:Nat→St) (Fp:Nat→dV),S i=st∧S (i+(o::l).length)=s∧(∀k o',(o::l)[k]? =some o'→zS P h bH ops fresh (i+k) o' (S (i+k)) (Fp (i+k)) (S (i+k+1)))∧
     (∀k,k<(o::l).length→∀p∈prev,p.2.conflict (Fp (i+k))=true→reach ops 12 (i+k) p.1=true)∧
     (∀k q,q<k→k<(o::l).length→(Fp (i+q)).conflict (Fp (i+k))=true→reach ops 12 (i+k) (i+q)=true):=by
   intro f st1 hop hfo pK;obtain ⟨S,Fp,h0,hn,SI,TN,yK⟩:=ih (i+1) ((i,f)::prev) st1 s pK;refine ⟨fun k=>if k≤i then st else S k,fun k=>if k≤i then f else Fp k,by simp,?_,?_,?_,?_⟩
   ·have:¬(i+(o::l).length≤i):=by simp
    simp only [this,if_false];rw [←hn];congr 1;simp;omega
   ·intro k o' hk
    cases k with
    |zero=>
     simp at hk;subst hk;have:¬(i+0+1≤i):=by omega
     dsimp only;simp only [Nat.add_zero,Nat.le_refl,if_true];rw [if_neg (by omega),h0];exact hop
    |succ k=>
     simp at hk;have:=SI k o' hk;dsimp only;rw [if_neg (by omega),if_neg (by omega),if_neg (by omega)]
     rwa [show i+1+k=i+(k+1) from by omega] at this
   ·intro k hk p hp hc
    cases k with
    |zero=>
     simp only [Nat.add_zero,Nat.le_refl,if_true] at hc⊢;have:=List.all_eq_true.1 hfo p hp;simpa [hc] using this
    |succ k=>
     dsimp only at hc;rw [if_neg (by omega)] at hc;have:=TN k (by simpa using hk) p (by simp [hp]) (by rwa [show i+1+k=i+(k+1) from by omega])
     rwa [show i+1+k=i+(k+1) from by omega] at this
   ·intro k q hqk hk hc
    cases k with
    |zero=>omega
    |succ k=>
     dsimp only at hc;rw [if_neg (show¬(i+(k+1)≤i) by omega)] at hc;cases q with
     |zero=>
      simp only [Nat.add_zero,Nat.le_refl,if_true] at hc⊢;have:=TN k (by simpa using hk) (i,f) (by simp) (by rwa [show i+1+k=i+(k+1) from by omega])
      rwa [show i+1+k=i+(k+1) from by omega] at this
     |succ q=>
      rw [if_neg (show¬(i+(q+1)≤i) by omega)] at hc;have:=yK k q (by omega) (by simpa using hk) (by rwa [show i+1+k=i+(k+1) from by omega,show i+1+q=i+(q+1) from by omega])
      rwa [show i+1+k=i+(k+1) from by omega,show i+1+q=i+(q+1) from by omega] at this
  simp only [cg] at hr;split at hr
  ·cases hr
  ·rename_i b hw
   cases b with
   |false=>
    simp only [cond_false] at hr;cases hfo:eR ops prev i (ny ops o st) with
    |false=>simp [hfo] at hr
    |true=>simp only [hfo,cond_true] at hr;exact cont _ _ (.inl ⟨hw,rfl,rfl⟩) hfo hr
   |true=>
    simp only [cond_true] at hr;cases hF:YM h st o with
    |true=>
     simp only [hF,cond_true] at hr;cases hf:cH P h bH o st with
     |some v=>
      simp only [hf] at hr;cases hc:(iW ops fresh i v&&eR ops prev i (rO P h ops o st v)) with
      |false=>simp [hc] at hr
      |true=>
       simp only [hc,cond_true] at hr;simp only [Bool.and_eq_true] at hc;exact cont _ _ (.inr (.inl ⟨hw,v,hf,rfl,rfl,hc.1⟩)) hc.2 hr
     |none=>simp [hf] at hr
    |false=>
     simp only [hF,cond_false] at hr
     have rest:(bif fresh.all (fun p=>Nat.blt p.2 i)&&eR ops prev i eB then
       match step P h bH o st with
       |some st'=>cg P h bH ops fresh (i+1) l ((i,eB)::prev) st'
       |none=>none
      else none)=some s→_:=fun hr=>by
      cases hc:(fresh.all (fun p=>Nat.blt p.2 i)&&eR ops prev i eB) with
      |false=>simp [hc] at hr
      |true=>
       simp only [hc,cond_true] at hr;simp only [Bool.and_eq_true] at hc;cases hs:step P h bH o st with
       |none=>simp [hs] at hr
       |some st1=>simp only [hs] at hr;exact cont _ _ (.inr (.inr (.inr (.inr (.inl ⟨hw,hs,rfl,hc.1⟩))))) hc.2 hr
     split at hr
     ·rename_i t x y ho hd
      split at hr
      ·rename_i sa sv hx hy
       split at hr
       ·rename_i id st1 ht hst
        cases hc:(iW ops fresh i sv&&eR ops prev i (fD ops o st id)) with
        |false=>simp [hc] at hr
        |true=>
         simp only [hc,cond_true] at hr;simp only [Bool.and_eq_true] at hc;exact cont _ _ (.inr (.inr (.inl ⟨hw,t,x,y,sa,sv,id,ho,hd,hx,hy,ht,hst,rfl,hc.1⟩))) hc.2 hr
       ·cases hr
      ·cases hr
     ·rename_i t d ho hd
      cases hrw:h.rows.contains d with
      |true=>rw [hrw] at hr;cases hr
      |false=>
      rw [hrw] at hr;simp only [cond_false] at hr;split at hr
      ·rename_i z hz
       cases hfo:eR ops prev i (gl ops o d) with
       |false=>simp [hfo] at hr
       |true=>simp only [hfo,cond_true] at hr;exact cont _ _ (.inr (.inr (.inr (.inl ⟨hw,t,d,z,ho,hd,hrw,hz,rfl,rfl⟩)))) hfo hr
      ·cases hr
     ·rename_i c ho
      split at hr
      ·rename_i id iE
       obtain ⟨d',hd⟩:∃d',o.dst=some d':=by
        cases FN:o.dst with
        |some d'=>exact ⟨d',rfl⟩
        |none=>
         exfalso;rw [FN] at iE;unfold CK at iE;split at iE
         ·rename_i h9;cases h9
         ·cases iE
       rw [hd] at iE;simp only [hd,Option.getD_some] at hr;cases hfo:eR ops prev i (iT ops o st d' id) with
       |false=>simp [hfo] at hr
       |true=>
        simp only [hfo,cond_true] at hr;cases hs:step P h bH o st with
        |none=>simp [hs] at hr
        |some st1=>simp only [hs] at hr;exact cont _ _ (.inr (.inr (.inr (.inr (.inr ⟨hw,hs,c,d',id,ho,hd,iE,rfl⟩))))) hfo hr
      ·exact rest hr
     ·exact rest hr
     ·exact rest hr
     ·exact rest hr
     ·exact rest hr
     ·exact rest hr
     ·exact rest hr
     ·exact rest hr
     ·exact rest hr
     ·exact rest hr
     ·exact rest hr
     ·cases hr
theorem iV {a b:List Nat} {x:Nat} (ha:x∈a) (hb:x∈b):meets a b=true:=by
 simp only [meets,List.any_eq_true];exact ⟨x,ha,x,hb,Nat.beq_refl x⟩
theorem rV {d:Nat} {v:SV} (hm:v.mentions d=false):v.bR d=v:=by simp [SV.bR,hm]
theorem tU {t:TypeId} {s s':St} {sa sv:SV} {id:Nat} (hst:storeAt P t s sa sv=some s') (ht:targetId sa=some id):
  s'.env=s.env∧(∀j,j≠id→s'.ob j=s.ob j)∧∀x:St,x.ob id=s.ob id→(∀j∈sv.ids,x.ob j=s.ob j)→storeAt P t x sa sv=some { x with ob:=put x.ob id (s'.ob id) }:=by
 have hone:∀x:St,(∀j∈sv.ids,x.ob j=s.ob j)→kL x sv=kL s sv:=fun x hx=>by
  cases sv with
  |row j=>simp only [kL];rw [hx j (by simp [SV.ids])]
  |pv v=>cases v<;>rfl
  |_=>rfl
 cases sa with
 |ptr i off=>
  simp only [targetId,Option.some.injEq] at ht;subst ht;simp only [storeAt] at hst;split at hst
  ·rename_i bt cells n cQ hsz
   split at hst
   ·rename_i cs
    split at hst
    ·rename_i hc
     injection hst with hst;subst hst
     refine ⟨rfl,fun j hj=>aV _ _ (fun e=>hj e.symm),fun x hx _=> ?_⟩;simp only [storeAt,hx,cQ,hsz,hc,bO];simp
    ·cases hst
   ·rename_i cs
    split at hst
    ·rename_i hc
     injection hst with hst;subst hst
     refine ⟨rfl,fun j hj=>aV _ _ (fun e=>hj e.symm),fun x hx _=> ?_⟩;simp only [storeAt,hx,cQ,hsz,hc,bO];simp
    ·cases hst
   ·rename_i hno1 hno
    split at hst
    ·rename_i hc
     injection hst with hst;subst hst
     refine ⟨rfl,fun j hj=>aV _ _ (fun e=>hj e.symm),fun x hx hxs=> ?_⟩;have h1:=hone x hxs;simp only [storeAt,hx,cQ,hsz,bO];cases sv with
     |pv v=>
      cases v with
      |agg cs=>exact absurd rfl (hno cs)
      |_=>simp only [h1,hc,and_self,if_true]
     |ag cs=>exact absurd rfl (hno1 cs)
     |_=>simp only [h1,hc,and_self,if_true]
    ·cases hst
  ·cases hst
 |rp i sz k off=>
  simp only [targetId,Option.some.injEq] at ht;subst ht;simp only [storeAt] at hst;split at hst
  ·rename_i e sz' xs n v cQ hsz
   split at hst
   ·rename_i c hc
    split at hst
    ·rename_i c6
     injection hst with hst;subst hst
     refine ⟨rfl,fun j hj=>aV _ _ (fun e=>hj e.symm),fun x hx _=> ?_⟩;simp only [storeAt,hx,cQ,hsz,hc,bO];rw [if_pos c6]
    ·cases hst
   ·cases hst
  ·cases hst
 |_=>simp [targetId] at ht
def dV.wE (f:dV) (t:Nat):Prop:=f.all=true∨t∈f.ws∨(f.mv.isSome=true∧f.we t=true)
def dV.wO (f:dV) (t:Nat):Prop:=f.all=true∨t∈f.wo∨(f.mv.isSome=true∧f.oe t=true)
theorem nU {l:List Nat} {p:Nat→Bool} {x:Nat} (hx:x∈l) (hp:p x=true):l.any p=true:=List.any_eq_true.2 ⟨x,hx,hp⟩
theorem Ob.A4 {id:Nat} {o:Ob} (h:o.mentions id=false):o.bR id=o:=by
 cases o with
 |box t cells=>
  simp only [Ob.mentions,List.any_eq_false] at h;simp only [Ob.bR]
  congr 1
  exact (List.map_congr_left fun c hc=>rV (by simpa using h c hc)).trans (List.map_id _)
 |_=>rfl
theorem FW {o:Oper} {s s':St} {c:Call} {d id:Nat} {fresh:List (Nat×Nat)} {ops:Array Oper} (ho:o.op= .call c) (hd:o.dst=some d) (iE:CK P s fresh ops c (some d)=some id) (hst:step P h bH o s=some s'):
  (fresh=[]∧distinct (ops.toList.filterMap (·.dst))=true)∧∃ob:Ob,(∀j,ob.bR j=ob)∧s'=(s.new id ob).set (some d) (.row id)∧
   ∀x:St,(∀t∈slotsOf o,x.env t=s.env t)→(∀j∈id::Dq s o,x.ob j=s.ob j)→step P h bH o x=some ((x.new id ob).set (some d) (.row id)):=by
 unfold CK at iE;split at iE
 ·rename_i x y t t' d' hc hargs vl FN
  cases c6:(fresh.isEmpty&&distinct (ops.toList.filterMap (·.dst))) with
  |false=>rw [c6] at iE;cases iE
  |true=>
  rw [c6] at iE;simp only [cond_true] at iE;simp only [Bool.and_eq_true,List.isEmpty_iff] at c6;refine ⟨c6,?_⟩;split at iE
  ·rename_i id' hx
   injection iE with iE;subst iE
   have hf:∀x:St,cH P h bH o x=none:=fun x=>by simp only [cH,ho,hc,q7]
   have he:∀x':St,step P h bH o x'=(match isSlice P t,bg P t x' x,bg P t' x' y with
    |some (e,s),some (.row id),some y=>match x'.ob id,elems x' y,P.info? e with
     |some (.row e' sz xs),some (sz',ys),some i=>
      if t=t'∧e=e'∧s=sz∧sz=sz'∧0<sz∧(xs.length+ys.length) *i.bytes≤140737488355328∧xs.length+ys.length≤4611686018427387904∧i.zero.map (fun z=>z.cells.size)=some sz∧lF id=true then
       some ((x'.new id (.row e sz (xs++ys))).set (some d) (.row id)) else none
     |_,_,_=>none
    |_,_,_=>none):=fun x'=>by
    simp only [step,hf,mI,ho,hc,hd,hargs,vl];rfl
   rw [he] at hst;split at hst
   ·rename_i e sz0 id2 sy hs hx2 hy
    rw [hx] at hx2;simp only [Option.some.injEq,SV.row.injEq] at hx2;subst hx2;split at hst
    ·rename_i e' sz xs sz' ys i cQ hel hi
     split at hst
     ·rename_i hcnd
      injection hst with hst
      refine ⟨.row e sz (xs++ys),fun j=>rfl,hst.symm,fun x' hx' Yu=> ?_⟩
      have Yt:∀z∈[x,y],∀ty,bg P ty x' z=bg P ty s z:=fun z hz ty=>uz (fun u e=>hx' u (by
       subst e;refine List.mem_filterMap.2 ⟨.tmp u,?_,rfl⟩;rw [ho];simp only [Op.operands,Call.operands,hc,Array.toList_append,List.mem_append]
       right
       rw [hargs];exact hz)) ty
      rw [he,Yt x (by simp) t,Yt y (by simp) t',hx,hy,hs];have e1:x'.ob id'=s.ob id':=Yu id' (by simp)
      have e2:elems x' sy=elems s sy:=rK (fun j hj=>Yu j (List.mem_cons_of_mem _ (xq (P:=P) (x:=y) (ty:=t') (by
       rw [ho];simp only [Op.operands,Call.operands,hc,Array.toList_append,List.mem_append]
       right
       rw [hargs];simp) hy hj)))
      simp only [e1,cQ,e2,hel,hi];rw [if_pos hcnd]
     ·cases hst
    ·cases hst
   ·cases hst
  ·cases iE
 ·cases iE
theorem vv {id:Nat} {v:SV} (h:v.mentions id=true):id∈v.ids:=by
 have caps:∀cs:List j3,cs.any (j3.mentions id)=true→id∈cs.filterMap (fun
  | .p j| .r j=>some j
  | .v _=>none):=fun cs hc=>by
  obtain ⟨c,hc1,vi⟩:=List.any_eq_true.1 hc;refine List.mem_filterMap.2 ⟨c,hc1,?_⟩;cases c with
  |v a=>simp [j3.mentions] at vi
  |p j=>rw [←beq_iff.1 vi]
  |r j=>rw [←beq_iff.1 vi]
 induction v with
 |two s b ih=>exact ih h
 |ptr j off=>simp only [SV.ids,List.mem_singleton];exact (beq_iff.1 h).symm
 |row j=>simp only [SV.ids,List.mem_singleton];exact (beq_iff.1 h).symm
 |rp j sz i off=>simp only [SV.ids,List.mem_singleton];exact (beq_iff.1 h).symm
 |sub j sz lo hi=>simp only [SV.ids,List.mem_singleton];exact (beq_iff.1 h).symm
 |cl f cs=>exact caps cs h
 |ag cs=>exact caps cs h
 |_=>simp [SV.mentions] at h
theorem Ad:∀{l:List Oper} {m q t:Nat} {a b:Oper},distinct (l.filterMap (·.dst))=true→l[m]? =some a→l[q]? =some b→a.dst=some t→b.dst=some t→m=q
 |[],m,q,t,a,b,_,h1,_,_,_=>by simp at h1
 |x::l,m,q,t,a,b,hd,h1,h2,e1,e2=>by
  have mem:∀{k:Nat} {c:Oper},l[k]? =some c→c.dst=some t→t∈l.filterMap (·.dst):=fun hk hc=>List.mem_filterMap.2 ⟨_,List.mem_of_getElem? hk,hc⟩
  cases hx:x.dst with
  |none=>
   rw [List.filterMap_cons_none hx] at hd;cases m with
   |zero=>simp at h1;subst h1;rw [hx] at e1;cases e1
   |succ m=>
    cases q with
    |zero=>simp at h2;subst h2;rw [hx] at e2;cases e2
    |succ q=>exact congrArg (· +1) (Ad hd (by simpa using h1) (by simpa using h2) e1 e2)
  |some d=>
   rw [List.filterMap_cons_some hx] at hd;simp only [distinct,Bool.and_eq_true,Bool.not_eq_true'] at hd;have hnot:d∉l.filterMap (·.dst):=fun hm=>by
    have:(l.filterMap (·.dst)).contains d=true:=by simpa using hm
    rw [this] at hd;cases hd.1
   cases m with
   |zero=>
    simp at h1;subst h1;rw [hx] at e1;injection e1 with e1;subst e1
    cases q with
    |zero=>rfl
    |succ q=>exact absurd (mem (by simpa using h2) e2) hnot
   |succ m=>
    cases q with
    |zero=>
     simp at h2;subst h2;rw [hx] at e2;injection e2 with e2;subst e2
     exact absurd (mem (by simpa using h1) e1) hnot
    |succ q=>exact congrArg (· +1) (Ad hd.2 (by simpa using h1) (by simpa using h2) e1 e2)
theorem HA {ops:Array Oper} {fresh:List (Nat×Nat)} {i:Nat} {o:Oper} {s s':St} {f:dV} (hr:zS P h bH ops fresh i o s f s'):
  (∀t,¬f.wE t→s'.env t=s.env t)∧∀id,¬f.wO id→s'.ob id=s.ob id:=by
 suffices hsuf:f.all=false→(∀t,t∉f.ws→(f.mv.isSome=true→f.we t=false)→s'.env t=s.env t)∧∀id,id∉f.wo→(f.mv.isSome=true→f.oe id=false)→s'.ob id=s.ob id by
  cases hall:f.all with
  |true=>exact ⟨fun t ht=>absurd (.inl hall) ht,fun t ht=>absurd (.inl hall) ht⟩
  |false=>
   obtain ⟨h1,h2⟩:=hsuf hall;refine ⟨fun t ht=>h1 t (fun hm=>ht (.inr (.inl hm))) ?_,fun t ht=>h2 t (fun hm=>ht (.inr (.inl hm))) ?_⟩
   ·intro hm
    cases hb:f.we t with
    |true=>exact absurd (.inr (.inr ⟨hm,hb⟩)) ht
    |false=>rfl
   ·intro hm
    cases hb:f.oe t with
    |true=>exact absurd (.inr (.inr ⟨hm,hb⟩)) ht
    |false=>rfl
 intro hall;have vk:∀v:SV,(∀t,t∉o.dst.toList→(s.set o.dst v).env t=s.env t)∧(s.set o.dst v).ob=s.ob:=fun v=>by
  cases hd:o.dst with
  |none=>exact ⟨fun _ _=>rfl,rfl⟩
  |some d=>exact ⟨fun t ht=>aV _ _ (fun e=>ht (by simp [e])),rfl⟩
 rcases hr with ⟨_,rfl,rfl⟩|⟨_,v,_,rfl,rfl,_⟩|⟨_,t,x,y,sa,sv,id,_,_,_,_,htg,hst,rfl,_⟩|⟨_,t,d,z,_,_,_,_,rfl,rfl⟩|⟨_,_,rfl,_⟩|⟨_,hst,c,d,id,wU,FN,iE,rfl⟩
 ·exact ⟨fun t ht _=>(vk _).1 t ht,fun id _ _=>by rw [(vk _).2]⟩
 ·exact ⟨fun t ht _=>(vk _).1 t ht,fun id _ _=>by rw [(vk _).2]⟩
 ·obtain ⟨h1,h2,_⟩:=tU hst htg
  exact ⟨fun t _ _=>by rw [h1],fun j hj _=>h2 j (fun e=>hj (by simp [fD,e]))⟩
 ·exact ⟨fun t ht _=>aV _ _ (fun e=>ht (by simp [gl,e])),fun j hj _=>aV _ _ (fun e=>hj (by simp [gl,e]))⟩
 ·simp [eB] at hall
 ·obtain ⟨_,ob,hpo,rfl,_⟩:=FW wU FN iE hst
  refine ⟨fun t ht VK=> ?_,fun j _ Vw=> ?_⟩
  ·have hne:d≠t:=fun e=>ht (by simp [iT,e])
   simp only [St.set,St.new,St.bR,aV _ _ hne]
   replace VK:=VK rfl
   simp only [iT] at VK;cases hv:s.env t with
   |none=>rfl
   |some v=>rw [hv] at VK;simp only [Option.map_some];rw [rV VK]
  ·replace Vw:=Vw rfl
   simp only [iT,Bool.or_eq_false_iff] at Vw;have hne:id≠j:=fun e=>by rw [e,Nat.beq_refl] at Vw;cases Vw.1
   simp only [St.set,St.new,St.bR,aV _ _ hne];cases hv:s.ob j with
   |none=>rfl
   |some v=>rw [hv] at Vw;simp only [Option.map_some];rw [Ob.A4 Vw.2]
section
variable {W:Nat→Prop} {D E:Nat→Prop}
open Classical in
noncomputable def last (W D:Nat→Prop):Nat→Nat
 |0=>0
 |m+1=>if D m∧W m then m+1 else last W D m
theorem gH:∀{n:Nat},(∀m,m<n→W m→(D m↔E m))→last W D n=last W E n:=by
 intro n
 induction n with
 |zero=>intro _;rfl
 |succ n ih=>
  intro hc;simp only [last];have hi:=ih (fun m hm=>hc m (by omega));by_cases hw:W n
  ·have:=hc n (by omega) hw
   by_cases hd:D n
   ·rw [if_pos ⟨hd,hw⟩,if_pos ⟨this.1 hd,hw⟩]
   ·rw [if_neg (fun h=>hd h.1),if_neg (fun h=>hd (this.2 h.1)),hi]
  ·rw [if_neg (fun h=>hw h.2),if_neg (fun h=>hw h.2),hi]
theorem AJ {i:Nat} (hW:W i) (hD:D i):∀{n:Nat},i<n→(∀m,i<m→m<n→W m→¬D m)→last W D n=i+1:=by
 intro n
 induction n with
 |zero=>intro h;omega
 |succ n ih=>
  intro hin hno;simp only [last];rcases Nat.lt_or_ge i n with hlt|hge
  ·have:¬(D n∧W n):=fun h=>hno n hlt (by omega) h.2 h.1
   rw [if_neg this];exact ih hlt (fun m h1 h2=>hno m h1 (by omega))
  ·have:i=n:=by omega
   subst this;rw [if_pos ⟨hD,hW⟩]
theorem lU {α:Type} {g:Nat→α} {i n:Nat} (hg:∀m,m<n→¬W m→g (m+1)=g m):∀{m:Nat},m≤n→g (last W (· <i) m)=g (min m i):=by
 intro m
 induction m with
 |zero=>intro _;simp [last]
 |succ m ih=>
  intro hm;simp only [last];by_cases hc:m<i∧W m
  ·rw [if_pos hc,Nat.min_eq_left (by omega)]
  ·rw [if_neg hc,ih (by omega)]
   by_cases hlt:m<i
   ·rw [Nat.min_eq_left (by omega),Nat.min_eq_left (by omega)]
    exact (hg m (by omega) (fun hw=>hc ⟨hlt,hw⟩)).symm
   ·rw [Nat.min_eq_right (by omega),Nat.min_eq_right (by omega)]
end
def kI (x:St) (d:Nat):Prop:=(∀t sv,x.env t=some sv→sv.bR d=sv)∧∀id o,x.ob id=some o→o.bR d=o
theorem yY (a b:Nat) (v:SV) (hv:v.bR a=v):(v.bR b).bR a=v.bR b:=by
 unfold SV.bR at hv⊢;cases hb:v.mentions b with
 |true=>simp [SV.mentions]
 |false=>simp only [cond_false];exact hv
theorem A5 (a:Nat) (v:SV):(v.bR a).bR a=v.bR a:=by
 unfold SV.bR;cases hb:v.mentions a with
 |true=>simp [SV.mentions]
 |false=>simp [hb]
theorem AZ:∀(l:List (Nat×Nat)) (st:St),(∀p∈l,kI (gR l st) p.1)∧∀d,kI st d→kI (gR l st) d:=by
 have keep:∀(st:St) (b d:Nat),kI st d→kI (st.bR b) d:=by
  intro st b d hn;refine ⟨fun t sv he=> ?_,fun id o ho=> ?_⟩
  ·simp only [St.bR] at he
   cases h1:st.env t with
   |none=>simp [h1] at he
   |some s=>simp [h1] at he;subst he;exact yY d b s (hn.1 t s h1)
  ·simp only [St.bR] at ho
   by_cases e:b=id
   ·subst e;simp [bO] at ho
   ·simp only [aV _ _ e] at ho
    cases h1:st.ob id with
    |none=>simp [h1] at ho
    |some q=>
     simp [h1] at ho;subst ho;have:=hn.2 id q h1;cases q with
     |row e sz xs=>rfl
     |mp k e ks vs=>rfl
     |mr k e s ks vs=>rfl
     |it s n=>rfl
     |box t cells=>
      simp only [Ob.bR,Ob.box.injEq,true_and,List.map_map] at this⊢;rw [List.map_inj_left];intro c hc;have hcp:c.bR d=c:=by
       have:=List.map_inj_left.1 (this.trans (List.map_id cells).symm) c hc;simpa using this
      exact yY d b c hcp
 have self:∀(st:St) (d:Nat),kI (st.bR d) d:=by
  intro st d;refine ⟨fun t sv he=> ?_,fun id o ho=> ?_⟩
  ·simp only [St.bR] at he
   cases h1:st.env t with
   |none=>simp [h1] at he
   |some s=>simp [h1] at he;subst he;exact A5 d s
  ·simp only [St.bR] at ho
   by_cases e:d=id
   ·subst e;simp [bO] at ho
   ·simp only [aV _ _ e] at ho
    cases h1:st.ob id with
    |none=>simp [h1] at ho
    |some q=>
     simp [h1] at ho;subst ho;cases q with
     |row e sz xs=>rfl
     |mp k e ks vs=>rfl
     |mr k e s ks vs=>rfl
     |it s n=>rfl
     |box t cells=>
      simp only [Ob.bR,Ob.box.injEq,true_and,List.map_map];rw [List.map_inj_left];intro c hc;exact A5 d c
 intro l
 induction l with
 |nil=>intro st;exact ⟨by simp,fun d h=>h⟩
 |cons p l ih=>
  intro st;obtain ⟨h1,h2⟩:=ih (st.bR p.1);refine ⟨fun q hq=> ?_,fun d hd=>h2 d (keep st p.1 d hd)⟩;rcases List.mem_cons.1 hq with rfl|hq
  ·exact h2 _ (self st _)
  ·exact h1 q hq
theorem js {d:Nat} {v:SV} (hm:v.mentions d=false):v.bR d=v:=by simp [SV.bR,hm]
theorem kI.set {x:St} {d:Nat} (hn:kI x d) {t:Option Nat} {v:SV} (hv:v.bR d=v):kI (x.set t v) d:=by
 cases t with
 |none=>exact hn
 |some t=>
  refine ⟨fun u sv he=> ?_,hn.2⟩;simp only [St.set] at he;by_cases e:t=u
  ·subst e;simp only [bO,Option.some.injEq] at he;subst he;exact hv
  ·simp only [aV _ _ e] at he;exact hn.1 u sv he
theorem kI.HG {x:St} {d:Nat} (hn:kI x d) {id:Nat} {o:Ob} (ho:o.bR d=o):kI { x with ob:=put x.ob id (some o) } d:=by
 refine ⟨hn.1,fun j o' he=> ?_⟩;by_cases e:id=j
 ·subst e;simp only [bO,Option.some.injEq] at he;subst he;exact ho
 ·simp only [aV _ _ e] at he;exact hn.2 j o' he
theorem HF {d:Nat} {t:TypeId} {cells:List SV} (h:(Ob.box t cells).bR d= .box t cells):∀c∈cells,c.bR d=c:=fun c hc=>by
 simp only [Ob.bR,Ob.box.injEq,true_and] at h;have:=List.map_inj_left.1 (h.trans (List.map_id cells).symm) c hc;simpa using this
theorem nW {d:Nat} {t:TypeId} {cells:List SV} (h:∀c∈cells,c.bR d=c):(Ob.box t cells).bR d= .box t cells:=by
 simp only [Ob.bR,Ob.box.injEq,true_and];have:cells.map (SV.bR d)=cells.map id:=List.map_inj_left.2 (fun c hc=>by simpa using h c hc);rw [this,List.map_id]
theorem Ct {t:TypeId} {x x':St} {sa sv:SV} {d:Nat} (hn:kI x d) (hv:sv.bR d=sv) (hst:storeAt P t x sa sv=some x'):kI x' d:=by
 cases sa with
 |ptr i off=>
  simp only [storeAt] at hst;split at hst
  ·rename_i bt cells n cQ hsz
   have hc:=HF (hn.2 i _ cQ);split at hst
   ·rename_i cs
    split at hst
    ·injection hst with hst;subst hst
     refine hn.HG (nW fun c rA=> ?_);simp only [List.mem_append,List.mem_map] at rA;rcases rA with (h1|⟨y,hy,rfl⟩)|h1
     ·exact hc c (List.mem_of_mem_take h1)
     ·have hm:(SV.ag cs).mentions d=false:=by
       cases hm:(SV.ag cs).mentions d with
       |false=>rfl
       |true=>simp [SV.bR,hm] at hv
      have hy':y.mentions d=false:=by
       simp only [SV.mentions,List.any_eq_false] at hm;simpa using hm y hy
      cases y with
      |v a=>rfl
      |p id=>exact js hy'
      |r id=>exact js hy'
     ·exact hc c (List.mem_of_mem_drop h1)
    ·cases hst
   ·rename_i cs
    split at hst
    ·injection hst with hst;subst hst
     refine hn.HG (nW fun c rA=> ?_);simp only [List.mem_append,List.mem_map] at rA;rcases rA with (h1|⟨y,_,rfl⟩)|h1
     ·exact hc c (List.mem_of_mem_take h1)
     ·rfl
     ·exact hc c (List.mem_of_mem_drop h1)
    ·cases hst
   ·split at hst
    ·injection hst with hst;subst hst
     refine hn.HG (nW fun c rA=> ?_);rcases List.mem_or_eq_of_mem_set rA with h1|rfl
     ·exact hc c h1
     ·exact hv
    ·cases hst
  ·cases hst
 |rp i sz k off=>
  simp only [storeAt] at hst;split at hst
  ·split at hst
   ·split at hst
    ·injection hst with hst;subst hst
     exact hn.HG rfl
    ·cases hst
   ·cases hst
  ·cases hst
 |_=>simp [storeAt] at hst
theorem Nw {x:St} {d:Nat} (hn:kI x d) {o:Ob} {v:SV}:(x.new d o).set (some d) v={ env:=put x.env d (some v),ob:=put x.ob d (some o) }:=by
 have he:(x.bR d).env=x.env:=by
  funext t
  simp only [St.bR];cases h1:x.env t with
  |none=>rfl
  |some s=>simp [hn.1 t s h1]
 have ho:∀j,d≠j→(x.bR d).ob j=x.ob j:=fun j hj=>by
  simp only [St.bR,aV _ _ hj];cases h1:x.ob j with
  |none=>rfl
  |some s=>simp [hn.2 j s h1]
 simp only [St.new,St.set,he,St.mk.injEq,true_and]
 funext j
 by_cases e:d=j
 ·subst e;simp [bO]
 ·rw [aV _ _ e,aV _ _ e,ho j e]
theorem Kt:∀{l:List Oper} {i k:Nat} {o:Oper} {t:TypeId} {d:Nat},l[k]? =some o→o.op= .alloc t→o.dst=some d→(d,i+k)∈dN i l:=by
 intro l
 induction l with
 |nil=>intro i k o t d hk;simp at hk
 |cons x l ih=>
  intro i k o t d hk ho hd;cases k with
  |zero=>
   simp at hk;subst hk;simp [dN,ho,hd]
  |succ k=>
   simp at hk;have:=ih (i:=i+1) hk ho hd;rw [show i+1+k=i+(k+1) from by omega] at this;simp only [dN];split
   ·exact List.mem_cons_of_mem _ this
   ·exact this
theorem NH:∀{l:List (Nat×Nat)} {p q:Nat×Nat},lY l=true→p∈l→q∈l→p.1=q.1→p=q:=by
 intro l
 induction l with
 |nil=>intro p q _ hp;simp at hp
 |cons x l ih=>
  intro p q ho hp hq he;simp only [lY,Bool.and_eq_true,Bool.not_eq_true'] at ho;have no:∀y∈l,y.1≠x.1:=fun y hy e=>by
   have:=List.any_eq_false.1 ho.1 y hy;rw [e] at this;simp [Nat.beq_refl] at this
  rcases List.mem_cons.1 hp with rfl|hp'<;>rcases List.mem_cons.1 hq with rfl|JC
  ·rfl
  ·exact absurd he.symm (no q JC)
  ·exact absurd he (no p hp')
  ·exact ih ho.2 hp' JC he
theorem MX:∀{l:List Oper} {i:Nat},kS i l=true→∀(p:Nat) (o:Oper),l[p]? =some o→∀e∈o.after.toList,Region.binds .any e=true→e.on<i+p:=by
 intro l
 induction l with
 |nil=>intro i _ p o ho;simp at ho
 |cons x l ih=>
  intro i hs p o ho e he hb;simp only [kS,Bool.and_eq_true] at hs;cases p with
  |zero=>
   simp at ho;subst ho;have:=List.all_eq_true.1 hs.1 e he;simp only [hb,Bool.not_true,Bool.false_or,Nat.blt_eq] at this;omega
  |succ p=>
   simp at ho;have:=ih hs.2 p o ho e he hb;omega
theorem vP {ops:Array Oper} {D:Nat→Prop} (rS:∀j o,D j→ops[j]? =some o→∀e∈o.after.toList,Region.binds .any e=true→D e.on):
  ∀(n i j:Nat),(∀o,ops[i]? =some o→∀e∈o.after.toList,Region.binds .any e=true→D e.on)→reach ops n i j=true→D j:=by
 intro n
 induction n with
 |zero=>intro i j _ h;simp [reach] at h
 |succ n ih=>
  intro i j tH h;simp only [reach] at h;cases ho:ops[i]? with
  |none=>simp [ho] at h
  |some o=>
   simp only [ho,Bool.or_eq_true] at h;rcases h with h|h
   ·simp only [OQ,List.any_eq_true,Bool.and_eq_true] at h
    obtain ⟨e,he,hb,Vy⟩:=h;have:=tH o ho e he hb
    rwa [beq_iff.1 Vy] at this
   ·simp only [List.any_eq_true,Bool.and_eq_true] at h
    obtain ⟨e,he,hb,hr⟩:=h;exact ih e.on j (fun o' ho' e' he' hb'=>rS e.on o' (tH o ho e he hb) ho' e' he' hb') hr
theorem filter_lt {α:Type} {p q:α→Bool} {l:List α} {i:α} (hi:i∈l) (hp:p i=true) (hq:q i=false) (hpq:∀j,q j=true→p j=true):(l.filter q).length<(l.filter p).length:=by
 have le:∀l:List α,(l.filter q).length≤(l.filter p).length:=by
  intro l
  induction l with
  |nil=>simp
  |cons x l ih=>
   by_cases hx:q x=true
   ·simp [List.filter_cons,hx,hpq x hx,ih]
   ·have hx':q x=false:=by simpa using hx
    by_cases hy:p x=true
    ·simp [List.filter_cons,hx',hy];omega
    ·have hy':p x=false:=by simpa using hy
     simpa [List.filter_cons,hx',hy'] using ih
 induction l with
 |nil=>simp at hi
 |cons x l ih=>
  rcases List.mem_cons.1 hi with rfl|hi
  ·simp only [List.filter_cons,hp,hq,if_true]
   have:=le l;simp;omega
  ·have:=ih hi
   by_cases hx:q x=true
   ·simp [List.filter_cons,hx,hpq x hx,this]
   ·have hx':q x=false:=by simpa using hx
    by_cases hy:p x=true
    ·simp [List.filter_cons,hx',hy];omega
    ·have hy':p x=false:=by simpa using hy
     simpa [List.filter_cons,hx',hy'] using this
theorem Rel.bR {N:Nat} {w0:World} {μ0:Mu} {L:kP} {μ:Mu} {loc:Nat→Value} {st:St} {a:Act} {w:World} (hR:Rel N w0 μ0 L μ loc st a w) (id:Nat):Rel N w0 μ0 L μ loc (st.bR id) a w:=by
 have qp:∀j o,(st.bR id).ob j=some o→∃o',st.ob j=some o'∧o=o'.bR id:=fun j o ho=>by
  simp only [St.bR] at ho;by_cases e:id=j
  ·subst e;simp [bO] at ho
  ·simp only [aV _ _ e] at ho
   cases h1:st.ob j with
   |none=>simp [h1] at ho
   |some o'=>simp [h1] at ho;exact ⟨o',rfl,ho.symm⟩
 refine { hR with env:=fun i sv he=> ?_,obs:=fun j o ho=> ?_,apart:=fun i j oi oj hi hj=> ?_ }
 ·simp only [St.bR] at he
  cases h1:st.env i with
  |none=>simp [h1] at he
  |some s=>
   simp [h1] at he;subst he;obtain ⟨v,hv,hs⟩:=hR.env i s h1;exact ⟨v,hv,dU hs⟩
 ·obtain ⟨o',ho',rfl⟩:=qp j o ho
  have:=hR.obs j o' ho';cases o' with
  |row e sz xs=>exact this
  |mp k e ks vs=>exact this
  |mr k e s ks vs=>exact this
  |it s n=>exact this
  |box t cells=>
   obtain ⟨b,vs,h1,h2,h3,h4,h5,h6⟩:=this;refine ⟨b,vs,h1,h2,h3,h4,?_,h6⟩;clear h3 h6 ho' ho
   induction cells generalizing vs with
   |nil=>exact h5
   |cons c cs ih=>
    obtain ⟨u,us,rfl,k1,k2⟩:=h5;exact ⟨u,us,rfl,dU k1,ih us k2⟩
 ·obtain ⟨N6,hi',_⟩:=qp i oi hi
  obtain ⟨Rv,hj',_⟩:=qp j oj hj;exact hR.apart i j N6 Rv hi' hj'
theorem Rel.gR {N:Nat} {w0:World} {μ0:Mu} {L:kP} {μ:Mu} {loc:Nat→Value} {a:Act} {w:World}:∀(l:List (Nat×Nat)) (st:St),Rel N w0 μ0 L μ loc st a w→Rel N w0 μ0 L μ loc (AM.gR l st) a w
 |[],_,hR=>hR
 |p::l,st,hR=>Rel.gR l (st.bR p.1) (hR.bR p.1)
end
section
variable {P:Program} {N:Nat} {w0:World} {μ0:Mu} {L:kP} {h:Hint} {bH:de} {Q:Exit→Act→World→Prop}
structure W6 (S:Nat→St) (Fp:Nat→dV) (fresh:List (Nat×Nat)) (n:Nat) (D:Nat→Prop) (x:St):Prop where
 env:∀t,x.env t=(S (last (fun m=>(Fp m).wE t) D n)).env t
 ob:∀id,x.ob id=(S (last (fun m=>(Fp m).wO id) D n)).ob id
 L4:∀p∈fresh,¬D p.2→kI x p.1
theorem St.same {x y:St} (h1:∀t,x.env t=y.env t) (h2:∀t,x.ob t=y.ob t):x=y:=by
 obtain ⟨xe,xo⟩:=x;obtain ⟨ye,yo⟩:=y;have e1:xe=ye:=funext h1;have e2:xo=yo:=funext h2;rw [e1,e2]
theorem Rm {ops:Array Oper} {fresh:List (Nat×Nat)} {S:Nat→St} {Fp:Nat→dV} {D E:Nat→Prop} {x:St} {i:Nat} {o:Oper} (hfresh:fresh=dN 0 ops.toList) (Pw:lY fresh=true)
  (hop:∀k o,ops[k]? =some o→zS P h bH ops fresh k o (S k) (Fp k) (S (k+1)))
  (yK:∀k q,q<k→k<ops.size→(Fp q).conflict (Fp k)=true→reach ops 12 k q=true)
  (hM:W6 S Fp fresh ops.size D x) (ho:ops[i]? =some o) (hi:i<ops.size) (hD:¬D i) (hE:∀j,E j↔(D j∨j=i))
  (rR:∀j,reach ops 12 i j=true→D j) (rS:∀m q,D m→reach ops 12 m q=true→D q):
  ∃x',((fe ops o x=some true∧step P h bH o x=some x')∨(fe ops o x=some false∧x'=x.set o.dst .undef))∧W6 S Fp fresh ops.size E x':=by
 have hframe:∀m,m<ops.size→(∀t,¬(Fp m).wE t→(S (m+1)).env t=(S m).env t)∧∀id,¬(Fp m).wO id→(S (m+1)).ob id=(S m).ob id:=fun m hm=>
  HA (hop m _ (Array.getElem?_eq_getElem hm))
 have side:∀m,m<ops.size→m≠i→(Fp m).conflict (Fp i)=true→(Fp i).conflict (Fp m)=true→(D m↔m<i):=by
  intro m hm hne c1 c2;rcases Nat.lt_or_gt_of_ne hne with hlt|hgt
  ·exact ⟨fun _=>hlt,fun _=>rR m (yK i m hlt hi c1)⟩
  ·exact ⟨fun hd=>absurd (rS m i hd (yK m i hgt hm c2)) hD,fun hl=>by omega⟩
 have UY:∀t,((Fp i).wE t∨t∈(Fp i).rs)→∀m,(Fp m).wE t→(Fp m).conflict (Fp i)=true∧(Fp i).conflict (Fp m)=true:=by
  intro t ht m hm;unfold dV.conflict dV.IA;rcases ht with (h1|h1|⟨h0,h1⟩)|h1
  ·simp [h1]
  ·rcases hm with h2|h2|⟨_,h2⟩
   ·simp [h2]
   ·simp [iV h2 h1,iV h1 h2]
   ·simp [nU h1 h2]
  ·rcases hm with h2|h2|⟨h3,h2⟩
   ·simp [h2]
   ·simp [nU h2 h1]
   ·obtain ⟨d1,hd1⟩:=Option.isSome_iff_exists.1 h0
    obtain ⟨d2,hd2⟩:=Option.isSome_iff_exists.1 h3;simp [dV.rW,hd1,hd2]
  ·rcases hm with h2|h2|⟨_,h2⟩
   ·simp [h2]
   ·simp [iV h2 h1,iV h1 h2]
   ·simp [nU h1 h2]
 have UZ:∀t,((Fp i).wO t∨t∈(Fp i).ro)→∀m,(Fp m).wO t→(Fp m).conflict (Fp i)=true∧(Fp i).conflict (Fp m)=true:=by
  intro t ht m hm;unfold dV.conflict dV.IA;rcases ht with (h1|h1|⟨h0,h1⟩)|h1
  ·simp [h1]
  ·rcases hm with h2|h2|⟨_,h2⟩
   ·simp [h2]
   ·simp [iV h2 h1,iV h1 h2]
   ·simp [nU h1 h2]
  ·rcases hm with h2|h2|⟨h3,h2⟩
   ·simp [h2]
   ·simp [nU h2 h1]
   ·obtain ⟨d1,hd1⟩:=Option.isSome_iff_exists.1 h0
    obtain ⟨d2,hd2⟩:=Option.isSome_iff_exists.1 h3;simp [dV.rW,hd1,hd2]
  ·rcases hm with h2|h2|⟨_,h2⟩
   ·simp [h2]
   ·simp [iV h2 h1,iV h1 h2]
   ·simp [nU h1 h2]
 have Ld:∀t,(S (last (fun m=>(Fp m).wE t) (· <i) ops.size)).env t=(S i).env t:=fun t=>by
  have:=lU (W:=fun m=>(Fp m).wE t) (g:=fun k=>(S k).env t) (i:=i) (n:=ops.size) (fun m hm SH=>(hframe m hm).1 t SH) (Nat.le_refl _)
  rwa [Nat.min_eq_right (by omega)] at this
 have Lg:∀t,(S (last (fun m=>(Fp m).wO t) (· <i) ops.size)).ob t=(S i).ob t:=fun t=>by
  have:=lU (W:=fun m=>(Fp m).wO t) (g:=fun k=>(S k).ob t) (i:=i) (n:=ops.size) (fun m hm SH=>(hframe m hm).2 t SH) (Nat.le_refl _)
  rwa [Nat.min_eq_right (by omega)] at this
 have UH:∀t,((Fp i).wE t∨t∈(Fp i).rs)→x.env t=(S i).env t:=by
  intro t ht;rw [hM.env t,gH (E:=(· <i)) (fun m hm hw=> ?_)]
  ·exact Ld t
  ·by_cases e:m=i
   ·subst e;exact ⟨fun h=>absurd h hD,fun h=>by omega⟩
   ·exact side m hm e (UY t ht m hw).1 (UY t ht m hw).2
 have WJ:∀t,((Fp i).wO t∨t∈(Fp i).ro)→x.ob t=(S i).ob t:=by
  intro t ht;rw [hM.ob t,gH (E:=(· <i)) (fun m hm hw=> ?_)]
  ·exact Lg t
  ·by_cases e:m=i
   ·subst e;exact ⟨fun h=>absurd h hD,fun h=>by omega⟩
   ·exact side m hm e (UZ t ht m hw).1 (UZ t ht m hw).2
 have after:∀x':St,(∀t,(Fp i).wE t→x'.env t=(S (i+1)).env t)→(∀t,¬(Fp i).wE t→x'.env t=x.env t)→
   (∀t,(Fp i).wO t→x'.ob t=(S (i+1)).ob t)→(∀t,¬(Fp i).wO t→x'.ob t=x.ob t)→
   (∀p∈fresh,¬D p.2→p.2≠i→kI x' p.1)→W6 S Fp fresh ops.size E x':=by
  intro x' e1 e2 o1 o2 hj;refine ⟨fun t=> ?_,fun t=> ?_,fun p hp hnE=>hj p hp (fun hd=>hnE ((hE _).2 (.inl hd))) (fun e=>hnE ((hE _).2 (.inr e)))⟩
  ·by_cases hw:(Fp i).wE t
   ·rw [e1 t hw,AJ (W:=fun m=>(Fp m).wE t) (i:=i) hw ((hE i).2 (.inr rfl)) hi (fun m h1 h2 VL hEm=> ?_)]
    have hc:=UY t (.inl hw) m VL;rcases (hE m).1 hEm with hd|rfl
    ·have:=(side m h2 (by omega) hc.1 hc.2).1 hd;omega
    ·omega
   ·rw [e2 t hw,hM.env t,gH (E:=E) (fun m hm VL=> ?_)]
    rw [hE m];exact ⟨.inl,fun hd=>hd.elim id fun e=>absurd (e▸VL) hw⟩
  ·by_cases hw:(Fp i).wO t
   ·rw [o1 t hw,AJ (W:=fun m=>(Fp m).wO t) (i:=i) hw ((hE i).2 (.inr rfl)) hi (fun m h1 h2 VL hEm=> ?_)]
    have hc:=UZ t (.inl hw) m VL;rcases (hE m).1 hEm with hd|rfl
    ·have:=(side m h2 (by omega) hc.1 hc.2).1 hd;omega
    ·omega
   ·rw [o2 t hw,hM.ob t,gH (E:=E) (fun m hm VL=> ?_)]
    rw [hE m];exact ⟨.inl,fun hd=>hd.elim id fun e=>absurd (e▸VL) hw⟩
 have YS:∀v,iW ops fresh i v=true→∀p∈fresh,¬D p.2→v.bR p.1=v:=fun v hv p hp hnd=>by
  have:=List.all_eq_true.1 hv p hp;simp only [Bool.or_eq_true,Bool.not_eq_true'] at this;rcases this with h1|h1
  ·exact js h1
  ·exact absurd (rR _ h1) hnd
 have Y6:∀v:SV,(Fp i).ws=o.dst.toList→S (i+1)=(S i).set o.dst v→(∀t,t∈(Fp i).ws→(x.set o.dst v).env t=(S (i+1)).env t)∧(∀t,t∉(Fp i).ws→(x.set o.dst v).env t=x.env t)∧(x.set o.dst v).ob=x.ob:=by
  intro v PG hS;rw [PG,hS];cases hd:o.dst with
  |none=>exact ⟨fun t ht=>by simp at ht,fun _ _=>rfl,rfl⟩
  |some d=>
   refine ⟨fun t ht=> ?_,fun t ht=>aV _ _ (fun e=>ht (by simp [e])),rfl⟩;have:t=d:=by simpa using ht
   subst this;simp [St.set,bO]
 have hrun:=hop i o ho;rcases hrun with ⟨hw,hS,hf⟩|⟨hw,v,hv,hS,hf,hm⟩|⟨hw,t,ax,ay,sa,sv,id,wU,hdn,hx,hy,htg,hst,hf,hm⟩|⟨hw,t,d,z,wU,FN,hrw,hz,hS,hf⟩|⟨hw,hst,hf,hlow⟩|⟨hw,hst,c,d,id,wU,FN,iE,hf⟩
 ·
  have hall:(Fp i).all=false:=by rw [hf];rfl
  have mD:(Fp i).mv=none:=by rw [hf];rfl
  have Nk:(Fp i).wo=[]:=by rw [hf];rfl
  have hrd:∀t∈iB ops o,x.env t=(S i).env t:=fun t ht=>UH t (.inr (by rw [hf];exact ht))
  obtain ⟨s1,s2,s3⟩:=Y6 .undef (by rw [hf];rfl) hS;refine ⟨x.set o.dst .undef, .inr ⟨by rw [kE hrd];exact hw,rfl⟩,after _ (fun t ht=>s1 t (by simpa [dV.wE,mD,hall] using ht)) (fun t ht=>s2 t (by simpa [dV.wE,mD,hall] using ht)) (fun t ht=>by simp [dV.wO,mD,hall,Nk] at ht) (fun t _=>by rw [s3]) (fun p hp hnd _=>(hM.L4 p hp hnd).set rfl)⟩
 ·
  have hall:(Fp i).all=false:=by rw [hf];rfl
  have mD:(Fp i).mv=none:=by rw [hf];rfl
  have Nk:(Fp i).wo=[]:=by rw [hf];rfl
  have hrd:∀t∈iB ops o,x.env t=(S i).env t:=fun t ht=>UH t (.inr (by rw [hf];exact ht))
  obtain ⟨s1,s2,s3⟩:=Y6 v (by rw [hf];rfl) hS;have Yk:cH P h bH o x=some v:=by
   rw [←hv];refine (Ju (st:=S i) (st':=x) (fun hn id hid=>(WJ id (.inr (by rw [hf];simp [rO,hn,hid]))).symm) (fun id hid=>(WJ id (.inr ?_)).symm) (fun t ht=>(hrd t (by simp [iB,ht])).symm)).symm;have hn:Ht o.op=false:=by
    unfold Fj at hid;cases hopc:o.op<;>simp [hopc] at hid;rfl
   rw [hf];simp [rO,hn,hid]
  refine ⟨x.set o.dst v, .inl ⟨by rw [kE hrd];exact hw,by unfold step;rw [Yk]⟩,after _ (fun t ht=>s1 t (by simpa [dV.wE,mD,hall] using ht)) (fun t ht=>s2 t (by simpa [dV.wE,mD,hall] using ht)) (fun t ht=>by simp [dV.wO,mD,hall,Nk] at ht) (fun t _=>by rw [s3]) (fun p hp hnd _=>(hM.L4 p hp hnd).set (YS v hm p hp hnd))⟩
 ·
  have hall:(Fp i).all=false:=by rw [hf];rfl
  have mD:(Fp i).mv=none:=by rw [hf];rfl
  have PG:(Fp i).ws=[]:=by rw [hf];rfl
  have Nk:(Fp i).wo=[id]:=by rw [hf];rfl
  have hrd:∀t∈iB ops o,x.env t=(S i).env t:=fun t ht=>UH t (.inr (by rw [hf];exact ht))
  obtain ⟨l1,l2,l3⟩:=tU hst htg
  have Yu:∀y∈o.op.operands.toList,∀ty,bg P ty x y=bg P ty (S i) y:=fun y hy' ty=>uz (fun u e=>hrd u (by
   subst e
   exact List.mem_append_left _ (List.mem_filterMap.2 ⟨.tmp u,hy',rfl⟩))) ty
  have hxs:storeAt P t x sa sv=some { x with ob:=put x.ob id ((S (i+1)).ob id) }:=by
   refine l3 x (WJ id (.inr (by rw [hf];simp [fD]))) (fun j hj=>WJ j (.inr ?_));rw [hf];simp only [fD,List.mem_cons];exact .inr (xq (P:=P) (x:=ay) (ty:=t) (by rw [wU];simp [Op.operands]) hy hj)
  refine ⟨{ x with ob:=put x.ob id ((S (i+1)).ob id) }, .inl ⟨by rw [kE hrd];exact hw,?_⟩,after _ (fun t ht=>by simp [dV.wE,mD,hall,PG] at ht) (fun t _=>rfl) (fun t ht=> ?_) (fun t ht=> ?_) (fun p hp hnd _=> ?_)⟩
  ·have k1:=Yu ax (by rw [wU];simp [Op.operands]) 0
   have k2:=Yu ay (by rw [wU];simp [Op.operands]) t;have hfn:cH P h bH o x=none:=by simp [cH,wU,cM]
   unfold step;rw [hfn];simp only [mI,hdn,wU,k1,k2,hx,hy];exact hxs
  ·have:t=id:=by simpa [dV.wO,mD,hall,Nk] using ht
   subst this;exact bO _ _ _
  ·exact aV _ _ (fun e=>ht (.inr (.inl (by rw [Nk,e];simp))))
  ·exact Ct (hM.L4 p hp hnd) (YS sv hm p hp hnd) hxs
 ·
  have hall:(Fp i).all=false:=by rw [hf];rfl
  have mD:(Fp i).mv=none:=by rw [hf];rfl
  have PG:(Fp i).ws=[d]:=by rw [hf];rfl
  have Nk:(Fp i).wo=[d]:=by rw [hf];rfl
  have hrd:∀t∈iB ops o,x.env t=(S i).env t:=fun t ht=>UH t (.inr (by rw [hf];exact ht))
  have hin:(d,i)∈fresh:=by
   rw [hfresh];have:=Kt (l:=ops.toList) (i:=0) (k:=i) (by simpa using ho) wU FN;simpa using this
  have hno:=hM.L4 _ hin hD;refine ⟨{ env:=put x.env d (some (.ptr d 0)),ob:=put x.ob d (some (.box t (z.map .pv))) }, .inl ⟨by rw [kE hrd];exact hw,?_⟩,after _ (fun u hu=> ?_) (fun u hu=> ?_) (fun u hu=> ?_) (fun u hu=> ?_) (fun p hp hnd hpi=> ?_)⟩
  ·have hfn:cH P h bH o x=none:=by simp [cH,wU,cM]
   unfold step;rw [hfn];simp only [mI,FN,wU,hz,hrw,cond_false];rw [Nw hno]
  ·have:u=d:=by simpa [dV.wE,mD,hall,PG] using hu
   subst this;rw [hS];simp [bO]
  ·exact aV _ _ (fun e=>hu (.inr (.inl (by rw [PG,e];simp))))
  ·have:u=d:=by simpa [dV.wO,mD,hall,Nk] using hu
   subst this;rw [hS];simp [bO]
  ·exact aV _ _ (fun e=>hu (.inr (.inl (by rw [Nk,e];simp))))
  ·have hne:p.1≠d:=fun e=>hpi (by
    have:=NH Pw hp hin e
    rw [this])
   have h1:kI (x.set (some d) (.ptr d 0)) p.1:=(hM.L4 p hp hnd).set (js (by simp [SV.mentions,I4 (fun e=>hne e.symm)]))
   exact h1.HG (id:=d) (o:= .box t (z.map .pv)) (nW fun c hc=>by
    obtain ⟨y,_,rfl⟩:=List.mem_map.1 hc
    rfl)
 ·
  have hall:(Fp i).all=true:=by rw [hf];rfl
  have hx:x=S i:=St.same (fun t=>UH t (.inl (.inl hall))) (fun t=>WJ t (.inl (.inl hall)));refine ⟨S (i+1), .inl ⟨by rw [hx];exact hw,by rw [hx];exact hst⟩,after _ (fun _ _=>rfl) (fun t ht=>absurd (.inl hall) ht) (fun _ _=>rfl) (fun t ht=>absurd (.inl hall) ht) (fun p hp hnd _=> ?_)⟩;have:=List.all_eq_true.1 hlow p hp;have hlt:p.2<i:=by simpa [Nat.blt_eq] using this
  exact absurd (rR _ (yK i p.2 hlt hi (by unfold dV.conflict;simp [hall]))) hnd
 ·
  obtain ⟨⟨hfr,Po⟩,ob,hpo,hS,hrun⟩:=FW wU FN iE hst;have mD:(Fp i).mv=some id:=by rw [hf];rfl
  have VK:∀t,(Fp i).we t=match (S i).env t with
   |some v=>v.mentions id
   |none=>false:=fun t=>by rw [hf];rfl
  have hrd:∀t∈iB ops o,x.env t=(S i).env t:=fun t ht=>UH t (.inr (by rw [hf];exact ht))
  have hro:∀j∈id::Dq (S i) o,x.ob j=(S i).ob j:=fun j hj=>WJ j (.inr (by rw [hf];exact hj))
  have qp:∀j,x.ob j=(S i).ob j:=fun j=>by
   rw [hM.ob j,gH (E:=(· <i)) (fun m hm hw=> ?_)]
   ·exact Lg j
   ·by_cases e:m=i
    ·subst e;exact ⟨fun h=>absurd h hD,fun h=>by omega⟩
    ·have hc:(Fp m).conflict (Fp i)=true∧(Fp i).conflict (Fp m)=true:=by
      unfold dV.conflict dV.rW;rcases hw with h2|h2|⟨h3,_⟩
      ·simp [h2]
      ·have:(Fp m).wo.isEmpty=false:=by
        cases Nk:(Fp m).wo with
        |nil=>rw [Nk] at h2;cases h2
        |cons=>rfl
       simp [mD,this]
      ·obtain ⟨d2,hd2⟩:=Option.isSome_iff_exists.1 h3
       simp [mD,hd2]
     exact side m hm e hc.1 hc.2
  have PG:∀m t,m<ops.size→t∈(Fp m).ws→∃om,ops[m]? =some om∧om.dst=some t:=fun m t hm ht=>by
   have hom:ops[m]? =some (ops[m]'hm):=Array.getElem?_eq_getElem hm;refine ⟨_,hom,?_⟩;rcases hop m _ hom with ⟨_,_,rz⟩|⟨_,v,_,_,rz,_⟩|⟨_,t',x',y',sa,sv,id',_,_,_,_,_,_,rz,_⟩|⟨_,t',d',z,_,JA,_,_,_,rz⟩|⟨_,_,rz,_⟩|⟨_,_,c',d',id',_,JA,_,rz⟩
   ·rw [rz] at ht;simpa [ny] using ht
   ·rw [rz] at ht;simpa [rO] using ht
   ·rw [rz] at ht;simp [fD] at ht
   ·rw [rz] at ht;have:t=d':=by simpa [gl] using ht
    rw [this];exact JA
   ·rw [rz] at ht;simp [eB] at ht
   ·rw [rz] at ht;have:t=d':=by simpa [iT] using ht
    rw [this];exact JA
  have YF:∀m q t,m<ops.size→q<ops.size→t∈(Fp m).ws→t∈(Fp q).ws→m=q:=fun m q t hm hq h1 h2=>by
   obtain ⟨om,e1,e2⟩:=PG m t hm h1;obtain ⟨oq,e3,e4⟩:=PG q t hq h2;exact Ad Po (by simpa using e1) (by simpa using e3) e2 e4
  have Yc:∀m t,m<ops.size→m≠i→(Fp m).wE t→t∉(Fp m).ws→(D m↔m<i):=fun m t hm hne hw hn=>by
   have hc:(Fp m).conflict (Fp i)=true∧(Fp i).conflict (Fp m)=true:=by
    unfold dV.conflict dV.rW;rcases hw with h2|h2|⟨h3,_⟩
    ·simp [h2]
    ·exact absurd h2 hn
    ·obtain ⟨d2,hd2⟩:=Option.isSome_iff_exists.1 h3
     simp [mD,hd2]
   exact side m hm hne hc.1 hc.2
  have hmen:∀m,m<ops.size→m≠i→id∈(Fp m).L4→(D m↔m<i):=fun m hm hne hid=>by
   have hc:(Fp m).conflict (Fp i)=true∧(Fp i).conflict (Fp m)=true:=by
    have:(Fp m).L4.any (Nat.beq id)=true:=nU hid (Nat.beq_refl id);unfold dV.conflict dV.rW;simp [mD,this]
   exact side m hm hne hc.1 hc.2
  have hkey:∀t v,x.env t=some v→v.mentions id=true→∀m,m<ops.size→m≠i→(Fp m).wE t→(D m↔m<i):=by
   intro t v hv hm m Pu hne hw;by_cases hin:t∈(Fp m).ws
   ·have Py:∀q,q<ops.size→q≠m→q≠i→(Fp q).wE t→(D q↔q<i):=fun q hq hqm hqi WS=>Yc q t hq hqi WS (fun h2=>hqm (YF q m t hq Pu h2 hin))
    have hom:ops[m]? =some (ops[m]'Pu):=Array.getElem?_eq_getElem Pu;have hnew:∀u,(S (m+1)).env t=some u→u.mentions id=true→id∈(Fp m).L4∨(Fp m).wo≠[]∨(Fp m).all=true∨(Fp m).mv.isSome=true:=by
     intro u hu hum;obtain ⟨om,e1,e2⟩:=PG m t Pu hin;rcases hop m om e1 with ⟨_,Vj,rz⟩|⟨_,v',_,Vj,rz,_⟩|⟨_,t',x',y',sa,sv,id',_,_,_,_,_,_,rz,_⟩|⟨_,t',d',z,_,JA,_,_,_,rz⟩|⟨_,_,rz,_⟩|⟨_,_,c',d',id',_,JA,_,rz⟩
     ·rw [Vj,e2] at hu
      simp only [St.set,bO,Option.some.injEq] at hu;subst hu;simp [SV.mentions] at hum
     ·rw [Vj,e2] at hu
      simp only [St.set,bO,Option.some.injEq] at hu;subst hu
      left;rw [rz];simp [rO,vv hum]
     ·right;left;rw [rz];simp [fD]
     ·right;left;rw [rz];simp [gl]
     ·right;right;left;rw [rz];rfl
     ·right;right;right;rw [rz];rfl
    have hold:∀u,(S m).env t=some u→u.mentions id=true→id∈(Fp m).L4∨(Fp m).wo≠[]∨(Fp m).all=true∨(Fp m).mv.isSome=true:=by
     intro u hu hum;obtain ⟨om,e1,e2⟩:=PG m t Pu hin;have hoi:id∈E9 om (S m):=by simp only [E9,e2,hu];exact vv hum
     rcases hop m om e1 with ⟨_,Vj,rz⟩|⟨_,v',_,Vj,rz,_⟩|⟨_,t',x',y',sa,sv,id',_,_,_,_,_,_,rz,_⟩|⟨_,t',d',z,_,JA,_,_,_,rz⟩|⟨_,_,rz,_⟩|⟨_,_,c',d',id',_,JA,_,rz⟩
     ·left;rw [rz];exact hoi
     ·left;rw [rz];simp [rO,hoi]
     ·right;left;rw [rz];simp [fD]
     ·right;left;rw [rz];simp [gl]
     ·right;right;left;rw [rz];rfl
     ·right;right;right;rw [rz];rfl
    have Yg:(id∈(Fp m).L4∨(Fp m).wo≠[]∨(Fp m).all=true∨(Fp m).mv.isSome=true)→(D m↔m<i):=by
     intro hh;rcases hh with h1|h1|h1|h1
     ·exact hmen m Pu hne h1
     ·have:(Fp m).wo.isEmpty=false:=by
       cases Nk:(Fp m).wo with
       |nil=>exact absurd Nk h1
       |cons=>rfl
      exact side m Pu hne (by unfold dV.conflict dV.rW;simp [mD,this]) (by unfold dV.conflict dV.rW;simp [mD,this])
     ·exact side m Pu hne (by unfold dV.conflict;simp [h1]) (by unfold dV.conflict;simp [h1])
     ·obtain ⟨d2,hd2⟩:=Option.isSome_iff_exists.1 h1
      exact side m Pu hne (by unfold dV.conflict dV.rW;simp [mD,hd2]) (by unfold dV.conflict dV.rW;simp [mD,hd2])
    constructor
    ·intro hDm
     rcases Nat.lt_or_gt_of_ne hne with h1|h1
     ·exact h1
     ·
      have Yp:last (fun m=>(Fp m).wE t) D ops.size=m+1:=AJ (W:=fun m=>(Fp m).wE t) (i:=m) hw hDm Pu (fun q hq1 hq2 WS hDq=>by
       have hqi:q≠i:=fun e=>hD (e▸hDq)
       have:=(Py q hq2 (by omega) hqi WS).1 hDq
       omega)
      have oV:=hM.env t;rw [Yp,hv] at oV;exact (Yg (hnew v oV.symm hm)).1 hDm
    ·intro hlt
     refine Classical.byContradiction fun Vs=> ?_
     have hsame:last (fun m=>(Fp m).wE t) D ops.size=last (fun m=>(Fp m).wE t) (· <m) ops.size:=gH (fun q hq WS=>by
      by_cases eqm:q=m
      ·subst eqm;exact ⟨fun h=>absurd h Vs,fun h=>by omega⟩
      ·by_cases eqi:q=i
       ·subst eqi;exact ⟨fun h=>absurd h hD,fun h=>by omega⟩
       ·have JC:=Py q hq eqm eqi WS
        constructor
        ·intro hDq
         rcases Nat.lt_or_gt_of_ne eqm with h1|h1
         ·exact h1
         ·exfalso
          have hcq:(Fp m).conflict (Fp q)=true:=by
           unfold dV.conflict dV.IA;rcases WS with h2|h2|⟨_,h2⟩
           ·simp [h2]
           ·simp [iV hin h2]
           ·simp [nU hin h2]
          exact Vs (rS q m hDq (yK q m h1 hq hcq))
        ·intro hqm;exact JC.2 (by omega))
     have hbm:(S (last (fun m=>(Fp m).wE t) (· <m) ops.size)).env t=(S m).env t:=by
      have:=lU (W:=fun m=>(Fp m).wE t) (g:=fun k=>(S k).env t) (i:=m) (n:=ops.size) (fun m hm SH=>(hframe m hm).1 t SH) (Nat.le_refl _)
      rwa [Nat.min_eq_right (by omega)] at this
     have Vj:(S m).env t=some v:=by rw [←hbm,←hsame,←hM.env t];exact hv
     exact Vs ((Yg (hold v Vj hm)).2 hlt)
   ·exact Yc m t Pu hne hw hin
  have VF:∀t v,x.env t=some v→v.mentions id=true→(Fp i).wE t:=fun t v hv hm=>by
   refine .inr (.inr ⟨by rw [mD];rfl,?_⟩);rw [VK];have key:(S i).env t=some v:=by
    rw [←hv,hM.env t,←Ld t]
    congr 2
    refine (gH (fun m hmn hw=> ?_)).symm;by_cases e:m=i
    ·subst e;exact ⟨fun h=>absurd h hD,fun h=>by omega⟩
    ·exact hkey t v hv hm m hmn e hw
   rw [key];exact hm
  have hpv:∀t,¬(Fp i).wE t→(x.env t).map (SV.bR id)=x.env t:=fun t ht=>by
   cases hv:x.env t with
   |none=>rfl
   |some v=>
    cases hm:v.mentions id with
    |true=>exact absurd (VF t v hv hm) ht
    |false=>simp only [Option.map_some];rw [js hm]
  refine ⟨(x.new id ob).set (some d) (.row id), .inl ⟨by rw [kE hrd];exact hw,hrun x (fun t ht=>hrd t (by simp [iB,ht])) hro⟩,after _ (fun t ht=> ?_) (fun t ht=> ?_) (fun t _=> ?_) (fun t ht=> ?_) (fun p hp=>by rw [hfr] at hp;cases hp)⟩
  ·rw [hS]
   by_cases e:d=t
   ·subst e;simp [St.set,bO]
   ·simp only [St.set,St.new,St.bR,aV _ _ e]
    rw [UH t (.inl ht)]
  ·have e:d≠t:=fun e=>ht (.inr (.inl (by rw [hf];simp [iT,e])))
   simp only [St.set,St.new,St.bR,aV _ _ e];exact hpv t ht
  ·rw [hS]
   simp only [St.set,St.new,St.bR];by_cases e:id=t
   ·subst e;simp [bO]
   ·simp only [aV _ _ e];rw [qp t]
  ·have e:id≠t:=fun e=>ht (.inr (.inr ⟨by rw [mD];rfl,by rw [hf];simp [iT,e,Nat.beq_refl]⟩))
   simp only [St.set,St.new,St.bR,aV _ _ e];have h0:¬((Fp i).oe t=true):=fun h=>ht (.inr (.inr ⟨by rw [mD];rfl,h⟩))
   rw [hf] at h0;simp only [iT,Bool.or_eq_true,not_or] at h0;rw [qp t];cases hv:(S i).ob t with
   |none=>rfl
   |some v=>
    rw [hv] at h0;simp only [Option.map_some];rw [Ob.A4 (by simpa using h0.2)]
theorem Ji (e7:ez L.q μ0 P bH) {ops:Array Oper} {st stF:St} (Vm:kS 0 ops.toList=true) (Pw:lY (dN 0 ops.toList)=true)
  (hrun:cg P h bH ops (dN 0 ops.toList) 0 ops.toList [] (gR (dN 0 ops.toList) st)=some stF) (hd:∀o∈ops.toList,∀i,o.dst=some i→i<N)
  (hQ:∀a' w' μ' loc',Rel N w0 μ0 L μ' loc' stF a' w'→Q .normal a' w') {μ:Mu} {loc:Nat→Value} {a:Act} {w:World} (hR:Rel N w0 μ0 L μ loc st a w):
  wpAny P .any ops Q ops.size (Array.replicate ops.size false) a w:=by
 obtain ⟨S,Fp,h0,hn,SI,_,PA⟩:=Wx _ _ _ _ _ hrun;simp only [Nat.zero_add,Array.length_toList] at hn SI PA;have hop:∀k o,ops[k]? =some o→zS P h bH ops (dN 0 ops.toList) k o (S k) (Fp k) (S (k+1)):=fun k o hk=>SI k o (by simpa using hk)
 have yK:∀k q,q<k→k<ops.size→(Fp q).conflict (Fp k)=true→reach ops 12 k q=true:=fun k q=>PA k q
 let D:Array Bool→Nat→Prop:=fun listed j=>listed.getD j false=true
 have W9:∀(listed:Array Bool) (a:Act) (w:World) (μ:Mu) (loc:Nat→Value),(∀j,j<ops.size→D listed j)→(∃x,W6 S Fp (dN 0 ops.toList) ops.size (D listed) x∧Rel N w0 μ0 L μ loc x a w)→Q .normal a w:=by
  intro listed a w μ loc hall ⟨x,hM,TF⟩;have hframe:∀m,m<ops.size→(∀t,¬(Fp m).wE t→(S (m+1)).env t=(S m).env t)∧∀id,¬(Fp m).wO id→(S (m+1)).ob id=(S m).ob id:=fun m hm=>
   HA (hop m _ (Array.getElem?_eq_getElem hm))
  have hx:x=stF:=by
   rw [←hn];refine St.same (fun t=> ?_) (fun t=> ?_)
   ·rw [hM.env t,gH (E:=(· <ops.size)) (fun m hm _=>⟨fun _=>hm,fun _=>hall m hm⟩)]
    have:=lU (W:=fun m=>(Fp m).wE t) (g:=fun k=>(S k).env t) (i:=ops.size) (n:=ops.size) (fun m hm SH=>(hframe m hm).1 t SH) (Nat.le_refl _)
    rwa [Nat.min_self] at this
   ·rw [hM.ob t,gH (E:=(· <ops.size)) (fun m hm _=>⟨fun _=>hm,fun _=>hall m hm⟩)]
    have:=lU (W:=fun m=>(Fp m).wO t) (g:=fun k=>(S k).ob t) (i:=ops.size) (n:=ops.size) (fun m hm SH=>(hframe m hm).2 t SH) (Nat.le_refl _)
    rwa [Nat.min_self] at this
  subst hx;exact hQ _ _ _ _ TF
 have main:∀(fuel:Nat) (listed:Array Bool) (a:Act) (w:World) (μ:Mu) (loc:Nat→Value),listed.size=ops.size→((List.range ops.size).filter fun j=> !listed.getD j true).length≤fuel→
   (∀j o,D listed j→ops[j]? =some o→∀e∈o.after.toList,Region.binds .any e=true→D listed e.on)→
   (∃x,W6 S Fp (dN 0 ops.toList) ops.size (D listed) x∧Rel N w0 μ0 L μ loc x a w)→
   wpAny P .any ops Q fuel listed a w:=by
  intro fuel
  induction fuel with
  |zero=>
   intro listed a w μ loc hsz hleft rS hinv;have hall:∀j,j<ops.size→D listed j:=fun j hj=>by
    have h0:((List.range ops.size).filter fun j=> !listed.getD j true)=[]:=List.eq_nil_of_length_eq_zero (by omega);have:=List.filter_eq_nil_iff.1 h0 j (by simpa using hj);have hlt:j<listed.size:=by omega
    simpa [D,Array.getD,hlt] using this
   refine ⟨?_,?_⟩
   ·unfold Region.ready
    apply List.filter_eq_nil_iff.2;intro j hj;have hj':j<ops.size:=by simpa using hj
    have:=hall j hj';have hlt:j<listed.size:=by omega
    have ht:listed.getD j true=true:=by simpa [D,Array.getD,hlt] using this
    simp [ht]
   ·exact W9 listed a w μ loc hall hinv
  |succ fuel ih=>
   intro listed a w μ loc hsz hleft rS hinv;have VE:∀i,i∈Region.ready .any ops listed→∃o,ops[i]? =some o∧i<ops.size∧¬D listed i∧listed.getD i true=false∧∀e∈o.after.toList,Region.binds .any e=true→D listed e.on:=by
    intro i hi;unfold Region.ready at hi;simp only [List.mem_filter,List.mem_range,Bool.and_eq_true,Bool.not_eq_true'] at hi;obtain ⟨hlt,hnl,tH⟩:=hi;have ho:ops[i]? =some (ops[i]'hlt):=Array.getElem?_eq_getElem hlt;refine ⟨_,ho,hlt,?_,hnl,?_⟩
    ·have hl':i<listed.size:=by omega
     have:listed[i]=false:=by simpa [Array.getD,hl'] using hnl
     simp [D,Array.getD,hl',this]
    ·intro e he hb
     simp only [ho,Option.map_some,Option.getD_some] at tH;have:=Array.all_eq_true'.1 tH e (by simpa using he);simpa [hb,D] using this
   have vk:∀i,i<ops.size→∀j,D (listed.setIfInBounds i true) j↔(D listed j∨j=i):=by
    intro i hi j;have hl':i<listed.size:=by omega
    by_cases hj:j<listed.size
    ·by_cases e:i=j
     ·subst e;simp [D,Array.getD,hj]
     ·have e':j≠i:=fun h=>e h.symm
      simp [D,Array.getD,hj,e,e',Array.getElem_setIfInBounds]
    ·have e':j≠i:=fun h=>by subst h;exact hj hl'
     have h1:(listed.setIfInBounds i true).getD j false=false:=by simp [Array.getD,hj]
     have h2:listed.getD j false=false:=by simp [Array.getD,hj]
     simp only [D,h1,h2,e',or_false]
   have next:∀i o,ops[i]? =some o→i<ops.size→¬D listed i→listed.getD i true=false→(∀e∈o.after.toList,Region.binds .any e=true→D listed e.on)→
     (listed.setIfInBounds i true).size=ops.size∧((List.range ops.size).filter fun j=> !(listed.setIfInBounds i true).getD j true).length≤fuel∧
     (∀j o,D (listed.setIfInBounds i true) j→ops[j]? =some o→∀e∈o.after.toList,Region.binds .any e=true→D (listed.setIfInBounds i true) e.on):=by
    intro i o ho hlt Vs hnl tH;refine ⟨by simp [hsz],?_,?_⟩
    ·have hl':i<listed.size:=by omega
     have:=filter_lt (l:=List.range ops.size) (p:=fun j=> !listed.getD j true) (q:=fun j=> !(listed.setIfInBounds i true).getD j true) (i:=i) (by simpa using hlt) (by simp [hnl]) (by simp [Array.getD,hl'])
      (fun j hj=>by
       by_cases hjl:j<listed.size
       ·by_cases e:i=j
        ·subst e;simp [Array.getD,hjl] at hj
        ·simpa [Array.getD,hjl,Array.getElem_setIfInBounds,e] using hj
       ·simp [Array.getD,hjl] at hj)
     omega
    ·intro j oj hj R1 e he hb
     rw [vk i hlt] at hj⊢;rcases hj with hj|rfl
     ·exact .inl (rS j oj hj R1 e he hb)
     ·rw [ho] at R1;injection R1 with R1;subst R1
      exact .inl (tH e he hb)
   have wrap:∀(i:Nat) (o:Oper) (x x':St) (μ:Mu) (loc:Nat→Value),ops[i]? =some o→Rel N w0 μ0 L μ loc x a w→
     ((fe ops o x=some true∧step P h bH o x=some x')∨(fe ops o x=some false∧x'=x.set o.dst .undef))→
     (∀a' w' μ' loc',Rel N w0 μ0 L μ' loc' x' a' w'→wpAny P .any ops Q fuel (listed.setIfInBounds i true) a' w')→wpOp P ops Q i (wpAny P .any ops Q fuel (listed.setIfInBounds i true)) a w:=by
    intro i o x x' μ loc ho TF hstep hK
    have hdo:∀t,o.dst=some t→t<N:=hd o (by
     have:=List.mem_of_getElem? (show ops.toList[i]? =some o by simpa using ho);exact this)
    unfold wpOp;simp only [ho];rcases hstep with ⟨hw,hstep⟩|⟨hw,rfl⟩
    ·rw [qT TF hw]
     simp only [if_true];exact .inl (Bn TF e7 hdo hstep hK)
    ·rw [qT TF hw]
     simp only [Bool.false_eq_true,if_false];exact hK _ _ _ _ (TF.set hdo (show cT μ loc .undef undef from rfl))
   refine ⟨fun hnil=> ?_,?_⟩
   ·
    by_cases hall:∀j,j<ops.size→D listed j
    ·exact W9 listed a w μ loc hall hinv
    ·exfalso
     have hex:∃j,j<ops.size∧¬D listed j:=Classical.byContradiction fun hn=>hall fun j hj=>Classical.byContradiction fun hd=>hn ⟨j,hj,hd⟩
     have least:∀n j,j<n→j<ops.size→¬D listed j→∃i,i<ops.size∧¬D listed i∧∀k,k<i→D listed k:=by
      intro n
      induction n with
      |zero=>intro j hj;omega
      |succ n ihn=>
       intro j hj hjs hjd;by_cases hlow:∃k,k<j∧¬D listed k
       ·obtain ⟨k,hk,hkd⟩:=hlow
        exact ihn k (by omega) (by omega) hkd
       ·exact ⟨j,hjs,hjd,fun k hk=>Classical.byContradiction fun hkd=>hlow ⟨k,hk,hkd⟩⟩
     obtain ⟨j,hj,hjd⟩:=hex;obtain ⟨i,hi,hid,hlow⟩:=least (j+1) j (by omega) hj hjd;have ho:ops[i]? =some (ops[i]'hi):=Array.getElem?_eq_getElem hi;have hs2:=MX Vm i (ops[i]'hi) (by rw [Array.getElem?_toList];exact ho);have hl':i<listed.size:=by omega
     have hmem:i∈Region.ready .any ops listed:=by
      unfold Region.ready;simp only [List.mem_filter,List.mem_range,Bool.and_eq_true,Bool.not_eq_true'];refine ⟨hi,?_,?_⟩
      ·have:¬(listed[i]=true):=by simpa [D,Array.getD,hl'] using hid
       simpa [Array.getD,hl'] using this
      ·simp only [ho,Option.map_some,Option.getD_some]
       apply Array.all_eq_true'.2;intro e he;cases hb:Region.binds .any e with
       |false=>rfl
       |true=>
        have:=hlow e.on (by simpa using hs2 e (by simpa using he) hb);simpa [D] using this
     rw [hnil] at hmem;cases hmem
   ·obtain ⟨x,hM,TF⟩:=hinv
    intro i hi;obtain ⟨o,ho,hlt,Vs,hnl,tH⟩:=VE i hi;obtain ⟨n1,n2,n3⟩:=next i o ho hlt Vs hnl tH
    obtain ⟨x',hst,hM'⟩:=Rm rfl Pw hop yK hM ho hlt Vs (vk i hlt)
     (fun j hj=>vP rS 12 i j (fun o' ho'=>by rw [ho] at ho';injection ho' with ho';subst ho';exact tH) hj)
     (fun m q hm hr=>vP rS 12 m q (fun o' ho'=>rS m o' hm ho') hr)
    exact wrap i o x x' μ loc ho TF hst (fun a' w' μ' loc' rQ=>ih _ a' w' μ' loc' n1 n2 n3 ⟨x',hM',rQ⟩)
 have hnone:∀j,¬D (Array.replicate ops.size false) j:=fun j=>by
  by_cases hj:j<ops.size<;>simp [D,Array.getD,hj]
 have hzero:∀(W:Nat→Prop) (m:Nat),last W (D (Array.replicate ops.size false)) m=0:=fun W m=>by
  induction m with
  |zero=>rfl
  |succ m ih=>simp only [last];rw [if_neg (fun h=>hnone m h.1),ih]
 refine main ops.size _ a w μ loc (by simp) ?_ (fun j o hj=>absurd hj (hnone j)) ⟨gR (dN 0 ops.toList) st,⟨fun t=>by rw [hzero,h0],fun t=>by rw [hzero,h0],fun p hp _=>(AZ _ st).1 p hp⟩,Rel.gR _ _ hR⟩
 calc _≤(List.range ops.size).length:=List.length_filter_le _ _
  _=ops.size:=by simp
end
end Go.AM
