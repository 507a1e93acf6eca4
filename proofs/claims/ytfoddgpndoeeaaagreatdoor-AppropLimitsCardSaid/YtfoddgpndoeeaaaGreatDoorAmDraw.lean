/- THE ABSTRACT MACHINE. -/
import Derived.Test.YtfoddgpndoeeaaaGreatDoorAmRun
set_option linter.unusedVariables false
set_option linter.unusedSimpArgs false
namespace Go.AM
open Go.RowKit
section
variable {P:Program} {h:Hint} {aV:cQ}
theorem jy {st st':St} {x:Operand} (hx:∀t,x= .tmp t→st.env t=st'.env t) (ty:TypeId):aM P ty st x=aM P ty st' x:=by
 cases x with
 |tmp t=>exact hx t rfl
 |_=>rfl
def CC (P:Program) (st st':St) (x:Operand):Prop:=∀ty sv,aM P ty st x=some sv→∀id∈sv.ids,st.ob id=st'.ob id
theorem qJ {st st':St} {v:SV} (hv:∀id∈v.ids,st.ob id=st'.ob id):elems st v=elems st' v:=by
 cases v with
 |row id=>simp only [elems,hv id (by simp [SV.ids])]
 |pv x=>cases x<;>rfl
 |_=>rfl
theorem zC {st st':St} {v:SV} (hv:∀id∈v.ids,st.ob id=st'.ob id):maps st v=maps st' v:=by
 cases v with
 |row id=>simp only [maps,hv id (by simp [SV.ids])]
 |pv x=>cases x<;>rfl
 |_=>rfl
theorem IV {st st':St} {v:SV} (hv:∀id∈v.ids,st.ob id=st'.ob id):mD st v=mD st' v:=by
 cases v with
 |row id=>simp only [mD,hv id (by simp [SV.ids])]
 |_=>rfl
theorem AZ {st st':St} {xs:List Operand} {ts:List TypeId} (cz:∀x∈xs,CC P st st' x) (hx:∀x∈xs,∀ty,aM P ty st x=aM P ty st' x):eU P st xs ts=eU P st' xs ts:=by
 induction xs generalizing ts with
 |nil=>rfl
 |cons x xs ih=>
  have hl:(aM P (ts.headD 0) st x).bind (mD st)=(aM P (ts.headD 0) st' x).bind (mD st'):=by
   rw [←hx x (by simp)];cases ho:aM P (ts.headD 0) st x with
   |none=>rfl
   |some sv=>exact IV (cz x (by simp) _ sv ho)
  simp only [eU];rw [hl,ih (fun y hy=>cz y (by simp [hy])) (fun y hy=>hx y (by simp [hy]))]
theorem q7 {st st':St} {b:Bool}:∀{xs:List Operand} {ts:List TypeId},(∀x∈xs,∀ty,aM P ty st x=aM P ty st' x)→jW P b st xs ts=jW P b st' xs ts
 |[],_,_=>rfl
 |x::xs,ts,hx=>by
  simp only [jW,DV];rw [hx x (by simp),q7 (fun y hy=>hx y (by simp [hy]))]
theorem nG {st st':St} {ty:Nat→TypeId} {l:List (Nat×Operand)} (hx:∀x∈l.map (·.2),∀t,aM P t st x=aM P t st' x):partsOf P ty st l=partsOf P ty st' l:=by
 induction l with
 |nil=>rfl
 |cons p l ih=>
  obtain ⟨i,x⟩:=p;simp only [partsOf];rw [hx x (by simp),ih (fun y hy=>hx y (by simp only [List.map_cons,List.mem_cons];exact .inr hy))]
theorem qn {st st':St} {b:Bool} {acc:AV} {l:List Operand} (hx:∀x∈l,∀t,aM P t st x=aM P t st' x):eF P st b acc l=eF P st' b acc l:=by
 induction l generalizing acc with
 |nil=>rfl
 |cons x l ih=>
  simp only [eF];rw [hx x (by simp)];cases (aM P 0 st' x).bind dS with
  |none=>rfl
  |some v=>
   simp only;cases I6 b acc v with
   |none=>rfl
   |some r=>exact ih (fun y hy=>hx y (by simp [hy]))
theorem Ga {st st':St} {c:Call} (cz:∀x∈c.args.toList,CC P st st' x) (hx:∀x∈c.args.toList,∀ty,aM P ty st x=aM P ty st' x):qp P c st=qp P c st':=by
 obtain ⟨cal,⟨args⟩,tys⟩:=c;unfold qp;simp only at hx cz⊢;split
 ·rename_i x
  have hxx:=hx x (by simp);have VJ:=cz x (by simp);split
  ·rename_i t _
   rw [←hxx t];cases ho:aM P t st x with
   |none=>
    rcases P.underlying t with _|d
    ·rfl
    ·cases d<;>rfl
   |some sv=>
    have:=qJ (VJ t sv ho);have We:=zC (VJ t sv ho);rcases P.underlying t with _|d
    ·rfl
    ·cases d<;>first
      |rfl
      |(show Option.map _ (maps st sv)=Option.map _ (maps st' sv);rw [We])
      |(cases sv with
        |pv v=>cases v<;>rfl
        |_=>rfl)
      |(cases sv with
        |sub id sz lo hi=>rfl
        |undef=>show Option.map _ (elems st _)=Option.map _ (elems st' _);rw [this]
        |any=>show Option.map _ (elems st _)=Option.map _ (elems st' _);rw [this]
        |pv v=>cases v with
         |jL=>rfl
         |_=>show Option.map _ (elems st _)=Option.map _ (elems st' _);rw [this]
        |ptr id off=>show Option.map _ (elems st _)=Option.map _ (elems st' _);rw [this]
        |row id=>show Option.map _ (elems st _)=Option.map _ (elems st' _);rw [this]
        |rp id sz i off=>show Option.map _ (elems st _)=Option.map _ (elems st' _);rw [this]
        |cp cs=>show Option.map _ (elems st _)=Option.map _ (elems st' _);rw [this]
        |cl f caps=>show Option.map _ (elems st _)=Option.map _ (elems st' _);rw [this]
        |ag caps=>show Option.map _ (elems st _)=Option.map _ (elems st' _);rw [this]
        |two s b=>show Option.map _ (elems st _)=Option.map _ (elems st' _);rw [this])
  ·rfl
 ·rename_i x l
  have hm:∀b acc,eF P st b acc l=eF P st' b acc l:=fun b acc=>qn (fun y hy=>hx y (by simp [hy]))
  rw [hx x (by simp)];simp only [hm]
 ·rename_i x l
  have hm:∀b acc,eF P st b acc l=eF P st' b acc l:=fun b acc=>qn (fun y hy=>hx y (by simp [hy]))
  rw [hx x (by simp)];simp only [hm]
 ·rfl
theorem sO {st st':St} {x:Option Operand} (hx:∀y,x=some y→∀ty,aM P ty st y=aM P ty st' y):fB P st x=fB P st' x:=by
 cases x with
 |none=>rfl
 |some y=>simp [fB,hx y rfl]
theorem Jn {st st':St} {o:Oper} (cz:BT o.op=false→∀x∈o.op.operands.toList,CC P st st' x) (hop:∀x∈o.op.operands.toList,∀ty,aM P ty st x=aM P ty st' x):cD P o st=cD P o st':=by
 obtain ⟨dst,op,type,pos,after,guard⟩:=o;simp only at hop;cases op with
 |move x=>have hx:=hop x (by simp [Op.operands]);simp [cD,hx]
 |assign x=>have hx:=hop x (by simp [Op.operands]);simp [cD,hx]
 |pick c a b=>have hx:=hop c (by simp [Op.operands]);have hy:=hop a (by simp [Op.operands]);have hz:=hop b (by simp [Op.operands]);simp [cD,hx,hy,hz]
 |binOp op t x y t'=>have hx:=hop x (by simp [Op.operands]);have hy:=hop y (by simp [Op.operands]);simp [cD,hx,hy]
 |unOp op t x=>have hx:=hop x (by simp [Op.operands]);simp [cD,hx]
 |convert s d x=>
  have hx:=hop x (by simp [Op.operands]);have ho:=cz rfl x (by simp [Op.operands]) s;have he:(aM P s st x).bind (elems st)=(aM P s st' x).bind (elems st'):=by
   rw [←hx s];cases hv:aM P s st x with
   |none=>rfl
   |some sv=>exact qJ (ho _ hv)
  simp only [cD,hx 0,he]
 |nilCheck x=>have hx:=hop x (by simp [Op.operands]);simp only [cD,hx]
 |fieldAddr t x f=>have hx:=hop x (by simp [Op.operands]);simp [cD,hx]
 |field t x f=>have hx:=hop x (by simp [Op.operands]);simp [cD,hx]
 |indexAddr t x i=>
  have hx:=hop x (by simp [Op.operands]);have hy:=hop i (by simp [Op.operands]);have ho:=cz rfl x (by simp [Op.operands]) t;have Ud:nU P st t x i=nU P st' t x i:=by
   unfold nU;rw [←hx t,←hy 0];cases hv:aM P t st x with
   |none=>rcases isSlice P t with _|⟨e,s⟩<;>simp only []
   |some sv=>
    have Ue:=ho _ hv;clear hv;rcases isSlice P t with _|⟨e,s⟩
    ·simp only []
    ·cases sv with
     |row id=>
      rcases aM P 0 st i with _|b
      ·rfl
      ·cases b with
       |pv v=>cases v<;>first|rfl|(simp only [Ue id (by simp [SV.ids])])
       |_=>rfl
     |pv v=>cases v<;>first|rfl|(rcases aM P 0 st i with _|b<;>first|rfl|(cases b<;>first|rfl|(rename_i q;cases q<;>rfl)))
     |_=>first|rfl|(rcases aM P 0 st i with _|b<;>first|rfl|(cases b<;>first|rfl|(rename_i q;cases q<;>rfl)))
  have har:∀n e,oU P st n e x i=oU P st' n e x i:=fun n e=>by simp only [oU,hx 0,hy 0]
  simp only [cD,Ud,har]
 |index t x i=>have hx:=hop x (by simp [Op.operands]);have hy:=hop i (by simp [Op.operands]);simp [cD,hx,hy]
 |load t x=>
  have hx:=hop x (by simp [Op.operands]);have ho:=cz rfl x (by simp [Op.operands]) 0;simp only [cD];rw [←hx 0];cases hv:aM P 0 st x with
  |none=>rfl
  |some sv=>
   have Ue:=ho _ hv;clear hv;cases sv with
   |ptr id off=>simp only [Ue id (by simp [SV.ids])]
   |rp id sz i off=>simp only [Ue id (by simp [SV.ids])]
   |pv v=>cases v<;>rfl
   |_=>rfl
 |lookup t x k ok=>
  have hx:=hop x (by simp [Op.operands]);have hk:=hop k (by simp [Op.operands]);have ho:=cz rfl x (by simp [Op.operands]) t;have hm:(aM P t st x).bind (maps st)=(aM P t st' x).bind (maps st'):=by
   rw [←hx t];cases hv:aM P t st x with
   |none=>rfl
   |some sv=>exact zC (ho _ hv)
  have hkr:(aM P t st x).bind (xz st)=(aM P t st' x).bind (xz st'):=by
   rw [←hx t];cases hv:aM P t st x with
   |none=>rfl
   |some sv=>
    have:=ho _ hv;cases sv with
    |row id=>simp only [Option.bind_some,xz];rw [this id (by simp [SV.ids])]
    |_=>rfl
  simp only [cD,hm,hk,hkr]
 |extract x i=>have hx:=hop x (by simp [Op.operands]);simp [cD,hx]
 |slice t x lo hi mx=>
  cases mx with
  |some m=>simp [cD]
  |none=>
   have hx:=hop x (by simp [Op.operands]);have hl:=sO (P:=P) (st:=st) (st':=st') (x:=lo) (fun y e=>by subst e;exact hop y (by simp [Op.operands]));have hh:=sO (P:=P) (st:=st) (st':=st') (x:=hi) (fun y e=>by subst e;exact hop y (by cases lo<;>simp [Op.operands]));have ho:=cz rfl x (by simp [Op.operands]) t;simp only [cD];rw [←hx t,hl,hh];cases hv:aM P t st x with
   |none=>rcases P.underlying t with _|d<;>first|rfl|(cases d<;>rfl)
   |some sv=>
    have Ue:=ho _ hv;clear hv;rcases P.underlying t with _|d
    ·rfl
    ·cases d<;>first
      |rfl
      |(rcases fB P st' lo with _|l
        ·cases sv with
         |pv v=>cases v<;>rfl
         |_=>rfl
        ·rcases fB P st' hi with _|l2
         ·cases sv with
          |pv v=>cases v<;>rfl
          |_=>rfl
         ·cases sv with
          |row id=>simp only [Ue id (by simp [SV.ids])]
          |pv v=>cases v<;>rfl
          |_=>rfl)
 |build t parts=>
  have hp:=nG (P:=P) (st:=st) (st':=st') (ty:=yh P t) (l:=parts.toList) (fun x hx=>hop x (by simpa [Op.operands] using hx));simp [cD,oH,hp]
 |call c=>
  have hin:∀x∈c.args.toList,x∈(Op.call c).operands.toList:=fun x hx=>by
   simp only [Op.operands,Call.operands,Array.toList_append,List.mem_append];exact .inr hx
  have:=Ga (P:=P) (st:=st) (st':=st') (c:=c) (fun x hx=>cz rfl x (hin x hx)) (fun x hx=>hop x (hin x hx));simp [cD,this]
 |_=>simp [cD]
theorem r5 {st:St}:∀{l:List Operand} {x:Operand} {ty:TypeId} {sv:SV} {id:Nat},x∈l→aM P ty st x=some sv→id∈sv.ids→id∈zi st l:=by
 intro l
 induction l with
 |nil=>intro x ty sv id hx;simp at hx
 |cons y l ih=>
  intro x ty sv id hx ho hid;rcases List.mem_cons.1 hx with rfl|hx
  ·cases x with
   |tmp t=>
    simp only [aM] at ho;simp only [zi,ho,List.mem_append];exact .inl hid
   |const v=>
    simp only [aM] at ho;cases hc:ofConst P ty v with
    |none=>simp [hc] at ho
    |some y=>simp [hc] at ho;subst ho;simp [SV.ids] at hid
   |func f=>simp [aM] at ho;subst ho;simp [SV.ids] at hid
   |global g=>simp [aM] at ho
  ·have:=ih hx ho hid
   cases y with
   |tmp t=>simp only [zi,List.mem_append];exact .inr this
   |_=>simpa [zi] using this
theorem nk (st:St):∀(n:Nat) (todo done:List Nat),∀id∈done,id∈eM st n todo done
 |0,todo,done,id,h=>by simpa [eM] using h
 |n+1,[],done,id,h=>by simpa [eM] using h
 |n+1,x::todo,done,id,h=>by
  simp only [eM];cases done.contains x with
  |true=>exact nk st n todo done id h
  |false=>exact nk st n _ _ id (by simp [h])
theorem mo {st st':St}:∀(n:Nat) (todo done:List Nat),(∀id∈eM st n todo done,st.ob id=st'.ob id)→eM st n todo done=eM st' n todo done
 |0,todo,done,h=>by simp [eM]
 |n+1,[],done,h=>by simp [eM]
 |n+1,x::todo,done,h=>by
  simp only [eM] at h⊢;cases hc:done.contains x with
  |true=>rw [hc] at h;exact mo n todo done h
  |false=>
   rw [hc] at h;simp only [cond_false] at h⊢;have hx:st.ob x=st'.ob x:=h x (nk st n _ _ x (by simp));have hi:yq st x=yq st' x:=by simp only [yq,hx]
   rw [←hi];exact mo n _ _ h
theorem sL {st st':St} {ids:List Nat} {ρ:Nat→Nat}:∀{l:List (Nat×Nat)},(∀p∈l,st.ob p.1=st'.ob p.1)→fS st ids ρ l=fS st' ids ρ l
 |[],_=>rfl
 |p::l,h=>by
  obtain ⟨id,nm⟩:=p;simp only [fS];rw [h (id,nm) (by simp),sL (fun q hq=>h q (by simp [hq]))]
theorem ud {st st':St}:∀{xs:List Operand} {ts:List TypeId},(∀x∈xs,∀ty,aM P ty st x=aM P ty st' x)→ng P h st xs ts=ng P h st' xs ts
 |[],ts,_=>rfl
 |x::xs,ts,hx=>by
  simp only [ng,Mr];rw [hx x (by simp),ud (fun y hy=>hx y (by simp [hy]))]
theorem CJ {st st':St} {c:Call} {f:Operand} (hf:aM P 0 st f=aM P 0 st' f) (ha:∀x∈c.args.toList,∀ty,aM P ty st x=aM P ty st' x)
  (ya:∀g args,pZ P h st c f=some (g,args)→∀id∈fF st args,st.ob id=st'.ob id):kA P h aV st c f=kA P h aV st' c f:=by
 have e1:pZ P h st c f=pZ P h st' c f:=by
  unfold pZ;rw [hf,ud ha]
 unfold kA;rw [←e1];cases hr:pZ P h st c f with
 |none=>rfl
 |some p=>
  obtain ⟨g,args⟩:=p;simp only;have hi:=ya g args hr;have e2:fF st args=fF st' args:=mo 200 _ _ hi;rw [←e2];have e3:fS st (fF st args) (jI (er (fF st args))) (er (fF st args))=fS st' (fF st args) (jI (er (fF st args))) (er (fF st args)):=
   sL (fun p hp=>hi p.1 (by
    have:p.1∈(er (fF st args)).map (·.1):=List.mem_map.2 ⟨p,hp,rfl⟩
    rwa [show (er (fF st args)).map (·.1)=fF st args from mR _ _ _] at this))
  rw [e3]
theorem HQ {st st':St} {o:Oper} (ya:BT o.op=false→∀id∈zN st o,st.ob id=st'.ob id) (hro:∀id∈z8 P h o st,st.ob id=st'.ob id) (FB:∀t∈slotsOf o,st.env t=st'.env t):cr P h aV o st=cr P h aV o st':=by
 have cz:BT o.op=false→∀x∈o.op.operands.toList,CC P st st' x:=fun hn x hx ty sv ho id hid=>ya hn id (r5 hx ho hid)
 have hop:∀x∈o.op.operands.toList,∀ty,aM P ty st x=aM P ty st' x:=fun x hx ty=>jy (fun t e=>FB t (by
  subst e
  exact List.mem_filterMap.2 ⟨.tmp t,hx,rfl⟩)) ty
 have hpv:=Jn (P:=P) (o:=o) cz hop;obtain ⟨dst,op,type,pos,after,guard⟩:=o;simp only at hop;cases op with
 |buildSlice t len parts=>
  have hp:∀ty,partsOf P ty st parts.toList=partsOf P ty st' parts.toList:=fun ty=>nG (fun x hx=>hop x (by simpa [Op.operands] using hx))
  simp [cr,jS,hp]
 |call c=>
  obtain ⟨cal,⟨args⟩,⟨tys⟩⟩:=c;cases cal with
  |value f=>
   have hargs:∀x∈args,x∈(Op.call { callee:=Callee.value f,args:=⟨args⟩,argTypes:=⟨tys⟩ }).operands.toList:=fun x hx=>by
    simp only [Op.operands,Call.operands,Array.toList_append,List.mem_append];exact .inr hx
   have hf:=hop f (by simp [Op.operands,Call.operands]);have ha:=AZ (P:=P) (st:=st) (st':=st') (xs:=args) (ts:=tys) (fun x hx=>cz rfl x (hargs x hx)) (fun x hx=>hop x (hargs x hx));have hr:args.any (jJ st)=args.any (jJ st'):=by
    have key:∀x∈args,jJ st x=jJ st' x:=fun x hx=>by
     cases x with
     |tmp t=>
      have:=hop (.tmp t) (hargs _ hx) 0;simp only [aM] at this;simp [jJ,this]
     |_=>rfl
    clear ha hargs hop hpv FB cz ya hro
    induction args with
    |nil=>rfl
    |cons x xs ih=>simp only [List.any_cons];rw [key x (by simp),ih (fun y hy=>key y (by simp [hy]))]
   have gd:args.any (fun x=>(iQ h st x).isSome)=args.any (fun x=>(iQ h st' x).isSome):=by
    have key:∀x∈args,iQ h st x=iQ h st' x:=fun x hx=>by
     cases x with
     |tmp t=>
      have:=hop (.tmp t) (hargs _ hx) 0;simp only [aM] at this;simp [iQ,this]
     |_=>rfl
    clear ha hargs hop hpv FB hr cz ya hro
    induction args with
    |nil=>rfl
    |cons x xs ih=>simp only [List.any_cons];rw [key x (by simp),ih (fun y hy=>key y (by simp [hy]))]
   have hwide:wide st { callee:=Callee.value f,args:=⟨args⟩,argTypes:=⟨tys⟩ } f=wide st' { callee:=Callee.value f,args:=⟨args⟩,argTypes:=⟨tys⟩ } f:=by
    have kf:Qr st f=Qr st' f:=by
     cases f with
     |tmp t=>
      have:=hf 0;simp only [aM] at this;simp [Qr,this]
     |_=>rfl
    have key:∀x∈args,BK st x=BK st' x:=fun x hx=>by
     cases x with
     |tmp t=>
      have:=hop (.tmp t) (hargs _ hx) 0;simp only [aM] at this;simp [BK,this]
     |_=>rfl
    have kk:args.any (BK st)=args.any (BK st'):=by
     clear ha hargs hop hpv FB hr cz ya gd hro
     induction args with
     |nil=>rfl
     |cons x xs ih=>simp only [List.any_cons];rw [key x (by simp),ih (fun y hy=>key y (by simp [hy]))]
    simp only [wide,kf,kk]
   cases how:dst.any h.pQ.contains with
   |true=>simp [cr,how]
   |false=>
   cases hst:dst.any h.stay.contains with
   |false=>simp [cr,hf,ha,hr,gd,hwide,hst,how]
   |true=>
    have hc:=CJ (P:=P) (h:=h) (aV:=aV) (st:=st) (st':=st') (c:={ callee:=Callee.value f,args:=⟨args⟩,argTypes:=⟨tys⟩ }) (f:=f) (hf 0) (fun x hx=>hop x (hargs x hx)) (fun g as hg id hid=>hro id (by
     simp only [z8,hg,hst,cond_true];exact hid))
    simp [cr,hf,ha,hr,gd,hwide,hst,hc,how]
  |_=>simpa [cr,cD] using hpv
 |makeFunc f first caps=>
  cases f with
  |func g=>
   have hc:lD st caps.toList=lD st' caps.toList:=by
    have key:∀x∈caps.toList,∀ty,aM P ty st x=aM P ty st' x:=fun x hx=>hop x (by simp only [Op.operands,Array.toList_append,List.mem_append];exact .inr hx)
    clear hop hpv FB cz ya;generalize caps.toList=l at key
    induction l with
    |nil=>rfl
    |cons x xs ih=>
     cases x with
     |tmp t=>
      have:=key (.tmp t) (by simp) 0;simp only [aM] at this;simp only [lD];rw [this,ih (fun y hy=>key y (by simp [hy]))]
     |_=>rfl
   have AJ:ni st caps.toList=ni st' caps.toList:=by
    have key:∀x∈caps.toList,∀ty,aM P ty st x=aM P ty st' x:=fun x hx=>hop x (by simp only [Op.operands,Array.toList_append,List.mem_append];exact .inr hx)
    clear hop hpv FB cz ya hc;generalize caps.toList=l at key
    induction l with
    |nil=>rfl
    |cons x xs ih=>
     cases x with
     |tmp t=>
      have:=key (.tmp t) (by simp) 0;simp only [aM] at this;simp only [ni];rw [this,ih (fun y hy=>key y (by simp [hy]))]
     |_=>rfl
   simp [cr,hc,AJ]
  |_=>simpa [cr] using hpv
 |assign x=>simp only [cr,hpv]
 |lookup t x k ok=>simp only [cr,hpv]
 |build t ps=>
  have hp:=nG (P:=P) (st:=st) (st':=st') (ty:=yh P t) (l:=ps.toList) (fun x hx=>hop x (by simpa [Op.operands] using hx));simp only [cr,oH,hp]
 |_=>simpa [cr] using hpv
theorem qh {st st':St} {ops:Array Oper} {o:Oper} (FB:∀t∈fh ops o,st.env t=st'.env t):iM ops o st=iM ops o st':=by
 unfold iM;cases hg:o.guard with
 |none=>rfl
 |some p=>
  obtain ⟨j,want⟩:=p;simp only;cases hd:(ops[j]?).bind (·.dst) with
  |none=>rfl
  |some d=>simp only;rw [FB d (by simp [fh,hg,hd])]
theorem Lv {a b:List Nat} {x:Nat} (ha:x∈a) (hb:x∈b):meets a b=true:=by
 simp only [meets,List.any_eq_true];exact ⟨x,ha,x,hb,Nat.beq_refl x⟩
theorem Bb {t:TypeId} {s s':St} {sa sv:SV} {id:Nat} (hst:storeAt P t s sa sv=some s') (ht:targetId sa=some id):
  s'.env=s.env∧(∀j,j≠id→s'.ob j=s.ob j)∧∀x:St,x.ob id=s.ob id→(∀j∈sv.ids,x.ob j=s.ob j)→storeAt P t x sa sv=some { x with ob:=put x.ob id (s'.ob id) }:=by
 have hone:∀x:St,(∀j∈sv.ids,x.ob j=s.ob j)→ko x sv=ko s sv:=fun x hx=>by
  cases sv with
  |row j=>simp only [ko];rw [hx j (by simp [SV.ids])]
  |pv v=>cases v<;>rfl
  |_=>rfl
 cases sa with
 |ptr i off=>
  simp only [targetId,Option.some.injEq] at ht;subst ht;simp only [storeAt] at hst;split at hst
  ·rename_i bt cells n cz hsz
   split at hst
   ·rename_i cs
    split at hst
    ·rename_i hc
     injection hst with hst;subst hst
     refine ⟨rfl,fun j hj=>aN _ _ (fun e=>hj e.symm),fun x hx _=> ?_⟩;simp only [storeAt,hx,cz,hsz,hc,bD];simp
    ·cases hst
   ·rename_i cs
    split at hst
    ·rename_i hc
     injection hst with hst;subst hst
     refine ⟨rfl,fun j hj=>aN _ _ (fun e=>hj e.symm),fun x hx _=> ?_⟩;simp only [storeAt,hx,cz,hsz,hc,bD];simp
    ·cases hst
   ·rename_i hno1 hno
    split at hst
    ·rename_i hc
     injection hst with hst;subst hst
     refine ⟨rfl,fun j hj=>aN _ _ (fun e=>hj e.symm),fun x hx hxs=> ?_⟩;have h1:=hone x hxs;simp only [storeAt,hx,cz,hsz,bD];cases sv with
     |pv v=>
      cases v with
      |agg cs=>exact absurd rfl (hno cs)
      |_=>simp only [h1,hc,and_self,if_true]
     |ag cs=>exact absurd rfl (hno1 cs)
     |_=>simp only [h1,hc,and_self,if_true]
    ·cases hst
  ·cases hst
 |rp i sz k off=>
  simp only [targetId,Option.some.injEq] at ht;subst ht;simp only [storeAt] at hst;split at hst
  ·rename_i e sz' xs n v cz hsz
   split at hst
   ·rename_i c hc
    split at hst
    ·rename_i c9
     injection hst with hst;subst hst
     refine ⟨rfl,fun j hj=>aN _ _ (fun e=>hj e.symm),fun x hx _=> ?_⟩;simp only [storeAt,hx,cz,hsz,hc,bD];rw [if_pos c9]
    ·cases hst
   ·cases hst
  ·cases hst
 |_=>simp [targetId] at ht
theorem CF {l:List Nat} {p:Nat→Bool} {x:Nat} (hx:x∈l) (hp:p x=true):l.any p=true:=List.any_eq_true.2 ⟨x,hx,hp⟩
theorem pz {id:Nat} {v:SV} (h:v.mentions id=true):id∈v.ids:=by
 have caps:∀cs:List jl,cs.any (jl.mentions id)=true→id∈cs.filterMap (fun
  | .p j| .r j=>some j
  | .v _=>none):=fun cs hc=>by
  obtain ⟨c,hc1,AJ⟩:=List.any_eq_true.1 hc;refine List.mem_filterMap.2 ⟨c,hc1,?_⟩;cases c with
  |v a=>simp [jl.mentions] at AJ
  |p j=>rw [←beq_iff.1 AJ]
  |r j=>rw [←beq_iff.1 AJ]
 induction v with
 |two s b ih=>exact ih h
 |ptr j off=>simp only [SV.ids,List.mem_singleton];exact (beq_iff.1 h).symm
 |row j=>simp only [SV.ids,List.mem_singleton];exact (beq_iff.1 h).symm
 |rp j sz i off=>simp only [SV.ids,List.mem_singleton];exact (beq_iff.1 h).symm
 |sub j sz lo hi=>simp only [SV.ids,List.mem_singleton];exact (beq_iff.1 h).symm
 |cl f cs=>exact caps cs h
 |ag cs=>exact caps cs h
 |_=>simp [SV.mentions] at h
theorem St.same {x y:St} (h1:∀t,x.env t=y.env t) (h2:∀t,x.ob t=y.ob t):x=y:=by
 obtain ⟨xe,xo⟩:=x;obtain ⟨ye,yo⟩:=y;have e1:xe=ye:=funext h1;have e2:xo=yo:=funext h2;rw [e1,e2]
def Es (p:Nat×Option AV) (v:SV):SV:=match p.2 with
 |none=>v.cA p.1
 |some a=>SV.bZ p.1 a v
def eW (l:List (Nat×Option AV)) (v:SV):SV:=l.foldl (fun v p=>Es p v) v
def Ob.qT (g:SV→SV):Ob→Ob
 | .box t cells=> .box t (cells.map g)
 |o=>o
def cL (f:cT) (ev:Nat→Option SV) (ov:Nat→Option Ob) (l:List (Nat×Option AV)) (x:St):St:=
 {env:=fun t=>if t∈f.ws then ev t else (x.env t).map (eW l),ob:=fun j=>if j∈f.wo then ov j else (x.ob j).map (Ob.qT (eW l)) }
theorem Dl (p:Nat×Option AV) (v:SV):∃c:SV,(∀id,c.mentions id=false)∧Es p v=(bif v.mentions p.1 then c else v)∧((∀j,v≠ .row j)→c= .any):=by
 obtain ⟨id,x⟩:=p;cases x with
 |none=>exact ⟨.any,fun _=>rfl,rfl,fun _=>rfl⟩
 |some a=>
  cases v with
  |row j=>exact ⟨.pv a,fun _=>rfl,rfl,fun h=>absurd rfl (h j)⟩
  |_=>exact ⟨.any,fun _=>rfl,rfl,fun _=>rfl⟩
theorem qV {p:Nat×Option AV} {v:SV} (h:v.mentions p.1=false):Es p v=v:=by
 obtain ⟨c,_,e,_⟩:=Dl p v;rw [e,h];rfl
theorem Qy {p:Nat×Option AV} {v:SV} {j:Nat} (h:(Es p v).mentions j=true):v.mentions j=true:=by
 obtain ⟨c,hc,e,_⟩:=Dl p v;rw [e] at h;cases hm:v.mentions p.1 with
 |true=>rw [hm] at h;simp only [cond_true] at h;rw [hc] at h;cases h
 |false=>rw [hm] at h;exact h
theorem OK {p q:Nat×Option AV} (hne:p.1≠q.1) (v:SV):Es p (Es q v)=Es q (Es p v):=by
 obtain ⟨c,hc,e,k⟩:=Dl p v;obtain ⟨c',sJ,e',k'⟩:=Dl q v;cases hp:v.mentions p.1 with
 |false=>
  rw [qV hp];cases hq:v.mentions q.1 with
  |false=>rw [qV hq,qV hp]
  |true=>rw [e',hq,cond_true,qV (sJ _)]
 |true=>
  rw [e,hp,cond_true,qV (hc _)];cases hq:v.mentions q.1 with
  |false=>rw [qV hq,e,hp,cond_true]
  |true=>
   rw [e',hq,cond_true,qV (sJ _)];have hr:∀j,v≠ .row j:=fun j hj=>by
    subst hj;exact hne ((beq_iff.1 hp).symm.trans (beq_iff.1 hq))
   rw [k hr,k' hr]
theorem oa:∀{l:List (Nat×Option AV)} {v:SV},(∀p∈l,v.mentions p.1=false)→eW l v=v
 |[],v,_=>rfl
 |p::l,v,h=>by
  show eW l (Es p v)=v;rw [qV (h p (by simp))];exact oa fun q hq=>h q (by simp [hq])
theorem vR:∀{l:List (Nat×Option AV)} {v:SV} {j:Nat},(eW l v).mentions j=true→v.mentions j=true
 |[],v,j,h=>h
 |p::l,v,j,h=>Qy (vR (l:=l) h)
theorem Lx {l:List (Nat×Option AV)} {p:Nat×Option AV}:∀{v:SV},(∀q∈l,p.1≠q.1)→eW l (Es p v)=Es p (eW l v):=by
 induction l with
 |nil=>intro v _;rfl
 |cons q l ih=>
  intro v h;show eW l (Es q (Es p v))=Es p (eW l (Es q v));rw [←OK (h q (by simp)) v];exact ih fun r hr=>h r (by simp [hr])
theorem tG:∀{l m:List (Nat×Option AV)} (v:SV),(∀p∈l,∀q∈m,p.1≠q.1)→eW l (eW m v)=eW m (eW l v)
 |[],m,v,_=>rfl
 |p::l,m,v,h=>by
  show eW l (Es p (eW m v))=eW m (eW l (Es p v));rw [←Lx (h p (by simp)),tG (Es p v) fun r hr=>h r (by simp [hr])]
theorem Qx {g:SV→SV} {o:Ob} (h:∀v,(∀id,v.mentions id=true→o.mentions id=true)→g v=v):o.qT g=o:=by
 cases o with
 |box t cells=>
  simp only [Ob.qT]
  congr 1
  refine (List.map_congr_left fun c hc=>h c fun id hm=> ?_).trans (List.map_id _);simp only [Ob.mentions,List.any_eq_true];exact ⟨c,hc,hm⟩
 |_=>rfl
theorem mE {l:List (Nat×Option AV)} {o:Ob} (h:∀p∈l,o.mentions p.1=false):o.qT (eW l)=o:=
 Qx fun v hv=>oa fun p hp=>by
  cases hm:v.mentions p.1 with
  |false=>rfl
  |true=>rw [←h p hp,hv _ hm]
theorem OC {l:List (Nat×Option AV)} {o:Ob} {j:Nat} (h:(o.qT (eW l)).mentions j=true):o.mentions j=true:=by
 cases o with
 |box t cells=>
  simp only [Ob.qT,Ob.mentions,List.any_map,List.any_eq_true] at h⊢;obtain ⟨c,hc,hm⟩:=h;exact ⟨c,hc,vR hm⟩
 |_=>exact h
theorem Lu {l m:List (Nat×Option AV)} (o:Ob) (h:∀p∈l,∀q∈m,p.1≠q.1):(o.qT (eW m)).qT (eW l)=(o.qT (eW l)).qT (eW m):=by
 cases o with
 |box t cells=>
  simp only [Ob.qT,List.map_map]
  congr 1
  exact List.map_congr_left fun c _=>tG c h
 |_=>rfl
theorem zB (o:Ob):o.qT (eW [])=o:=mE fun p hp=>by cases hp
structure yE (sf:St→Option St) (s:St) (f:cT) (ev:Nat→Option SV) (ov:Nat→Option Ob) (l:List (Nat×Option AV)):Prop where
 keys:∀p∈l,p.1∈f.mv
 run:∀x:St,(∀t∈f.rs,x.env t=s.env t)→(∀j∈f.ro,x.ob j=s.ob j)→(∀j∈f.rl,(x.ob j).map Ob.jf=(s.ob j).map Ob.jf)→sf x=some (cL f ev ov l x)
 len:∀j∈f.wo,f.kp j=true→(ov j).map Ob.jf=(s.ob j).map Ob.jf
 OL:∀t∈f.ws,∀v id,ev t=some v→v.mentions id=true→id∈f.RY
 OM:∀j∈f.wo,∀o id,ov j=some o→o.mentions id=true→id∈f.RY
 mvm:∀id∈f.mv,id∈f.RY
structure EB (s:St) (f:cT):Prop where
 inE:∀t∈f.rs,∀v id,s.env t=some v→v.mentions id=true→id∈f.RY
 inO:∀j∈f.ro,∀o id,s.ob j=some o→o.mentions id=true→id∈f.RY
 we:∀t v id,s.env t=some v→id∈f.mv→v.mentions id=true→f.we t=true
 oe:∀j o id,s.ob j=some o→id∈f.mv→o.mentions id=true→f.oe j=true
theorem ez {a b:List Nat} {x y:Nat} (h:meets a b=false) (hx:x∈a) (hy:y∈b):x≠y:=fun e=>by
 subst e;rw [Lv hx hy] at h;cases h
theorem Cf (g:SV→SV) (o:Ob):(o.qT g).jf=o.jf:=by cases o<;>rfl
theorem TS {f:cT} {ev:Nat→Option SV} {ov:Nat→Option Ob} {l:List (Nat×Option AV)} {x:St} {j:Nat} (h:¬j∈f.wo):((cL f ev ov l x).ob j).map Ob.jf=(x.ob j).map Ob.jf:=by
 simp only [cL,if_neg h,Option.map_map];cases x.ob j with
 |none=>rfl
 |some o=>simp only [Option.map_some,Function.comp,Cf]
theorem Ul {f:cT} {ev:Nat→Option SV} {ov:Nat→Option Ob} {l:List (Nat×Option AV)} {x:St} {j:Nat} (h:j∈f.wo):(cL f ev ov l x).ob j=ov j:=by
 simp only [cL,if_pos h]
theorem R3 {r w:List Nat} {k:Nat→Bool} {j:Nat} (h:(r.any fun j=>w.contains j&& !(k j))=false) (hj:j∈r) (hw:j∈w):k j=true:=by
 cases hk:k j with
 |true=>rfl
 |false=>rw [CF hj (by simp [hw,hk])] at h;cases h
theorem TX {sp si:St→Option St} {s:St} {fp fi:cT} {ep ei:Nat→Option SV} {op oi:Nat→Option Ob} {lp li:List (Nat×Option AV)} (hp:yE sp s fp ep op lp) (hin:EB s fp) (hi:yE si (cL fp ep op lp s) fi ei oi li) (hc:fp.conflict fi=false):
  yE si s fi ei oi li∧yE sp (cL fi ei oi li s) fp ep op lp∧EB (cL fi ei oi li s) fp∧cL fp ep op lp (cL fi ei oi li s)=cL fi ei oi li (cL fp ep op lp s):=by
 unfold cT.conflict at hc;simp only [Bool.or_eq_false_iff] at hc;obtain ⟨⟨⟨⟨⟨⟨⟨⟨⟨⟨⟨⟨⟨_,_⟩,d1⟩,d2⟩,d3⟩,d4⟩,d5⟩,d6⟩,d7⟩,d8⟩,d9⟩,d10⟩,d11⟩,d12⟩:=hc;have w9:∀t∈fi.rs,fp.we t=false:=fun t ht=>by
  cases e:fp.we t with
  |false=>rfl
  |true=>rw [CF ht e] at d9;cases d9
 have w10:∀t∈fi.ro,fp.oe t=false:=fun t ht=>by
  cases e:fp.oe t with
  |false=>rfl
  |true=>rw [CF ht e] at d10;cases d10
 have aE:∀t∈fi.rs,(cL fp ep op lp s).env t=s.env t:=fun t ht=>by
  simp only [cL];rw [if_neg fun h=>ez d1 h ht rfl];cases e:s.env t with
  |none=>rfl
  |some v=>
   simp only [Option.map_some];rw [oa fun p vG=> ?_];cases hm:v.mentions p.1 with
   |false=>rfl
   |true=>have:=hin.we t v p.1 e (hp.keys p vG) hm;rw [w9 t ht] at this;cases this
 have aO:∀t∈fi.ro,(cL fp ep op lp s).ob t=s.ob t:=fun t ht=>by
  simp only [cL];rw [if_neg fun h=>ez d4 h ht rfl];cases e:s.ob t with
  |none=>rfl
  |some v=>
   simp only [Option.map_some];rw [mE fun p vG=> ?_];cases hm:v.mentions p.1 with
   |false=>rfl
   |true=>have:=hin.oe t v p.1 e (hp.keys p vG) hm;rw [w10 t ht] at this;cases this
 have bE:∀t∈fp.rs,(cL fi ei oi li s).env t=s.env t:=fun t ht=>by
  simp only [cL];rw [if_neg fun h=>ez d2 ht h rfl];cases e:s.env t with
  |none=>rfl
  |some v=>
   simp only [Option.map_some];rw [oa fun p vG=> ?_];cases hm:v.mentions p.1 with
   |false=>rfl
   |true=>exact absurd rfl (ez d8 (hi.keys p vG) (hin.inE t ht v p.1 e hm))
 have bO:∀t∈fp.ro,(cL fi ei oi li s).ob t=s.ob t:=fun t ht=>by
  simp only [cL];rw [if_neg fun h=>ez d5 ht h rfl];cases e:s.ob t with
  |none=>rfl
  |some v=>
   simp only [Option.map_some];rw [mE fun p vG=> ?_];cases hm:v.mentions p.1 with
   |false=>rfl
   |true=>exact absurd rfl (ez d8 (hi.keys p vG) (hin.inO t ht v p.1 e hm))
 have nO:∀t∈fp.wo,¬t∈fi.wo:=fun t h1 h2=>ez d6 h1 h2 rfl
 have aL:∀t∈fi.rl,((cL fp ep op lp s).ob t).map Ob.jf=(s.ob t).map Ob.jf:=fun t ht=>by
  by_cases h:t∈fp.wo
  ·rw [Ul h];exact hp.len t h (R3 d11 ht h)
  ·exact TS h
 have bK:∀t∈fi.wo,fi.kp t=true→(oi t).map Ob.jf=(s.ob t).map Ob.jf:=fun t ht hk=>(hi.len t ht hk).trans (TS fun h=>nO t h ht)
 have bL:∀t∈fp.rl,((cL fi ei oi li s).ob t).map Ob.jf=(s.ob t).map Ob.jf:=fun t ht=>by
  by_cases h:t∈fi.wo
  ·rw [Ul h];exact bK t h (R3 d12 ht h)
  ·exact TS h
 have hk:∀p∈lp,∀q∈li,p.1≠q.1:=fun p vG q hq=>ez d7 (hp.keys p vG) (hi.mvm _ (hi.keys q hq))
 refine ⟨⟨hi.keys,fun x h1 h2 h3=>hi.run x (fun t ht=>(h1 t ht).trans (aE t ht).symm) (fun t ht=>(h2 t ht).trans (aO t ht).symm) (fun t ht=>(h3 t ht).trans (aL t ht).symm),bK,hi.OL,hi.OM,hi.mvm⟩,
  ⟨hp.keys,fun x h1 h2 h3=>hp.run x (fun t ht=>(h1 t ht).trans (bE t ht)) (fun t ht=>(h2 t ht).trans (bO t ht)) (fun t ht=>(h3 t ht).trans (bL t ht)),fun t ht hk=>(hp.len t ht hk).trans (TS (nO t ht)).symm,hp.OL,hp.OM,hp.mvm⟩,
  ⟨fun t ht v id e hm=>hin.inE t ht v id ((bE t ht).symm.trans e) hm,fun t ht v id e hm=>hin.inO t ht v id ((bO t ht).symm.trans e) hm,fun t v id e hid hm=> ?_,fun t v id e hid hm=> ?_⟩,?_⟩
 ·simp only [cL] at e
  split at e
  ·rename_i ht;exact absurd rfl (ez d7 hid (hi.OL t ht v id e hm))
  ·cases e0:s.env t with
   |none=>rw [e0] at e;cases e
   |some v0=>
    rw [e0] at e;simp only [Option.map_some,Option.some.injEq] at e;subst e;exact hin.we t v0 id e0 hid (vR hm)
 ·simp only [cL] at e
  split at e
  ·rename_i ht;exact absurd rfl (ez d7 hid (hi.OM t ht v id e hm))
  ·cases e0:s.ob t with
   |none=>rw [e0] at e;cases e
   |some v0=>
    rw [e0] at e;simp only [Option.map_some,Option.some.injEq] at e;subst e;exact hin.oe t v0 id e0 hid (OC hm)
 ·simp only [cL,St.mk.injEq]
  constructor
  ·funext t
   by_cases h1:t∈fp.ws
   ·rw [if_pos h1,if_neg fun h2=>ez d3 h1 h2 rfl]
    rw [if_pos h1];cases e:ep t with
    |none=>rfl
    |some v=>
     simp only [Option.map_some];rw [oa fun q hq=> ?_];cases hm:v.mentions q.1 with
     |false=>rfl
     |true=>exact absurd rfl (ez d8 (hi.keys q hq) (hp.OL t h1 v _ e hm))
   ·rw [if_neg h1]
    by_cases h2:t∈fi.ws
    ·rw [if_pos h2,if_pos h2]
     cases e:ei t with
     |none=>rfl
     |some v=>
      simp only [Option.map_some];rw [oa fun q hq=> ?_];cases hm:v.mentions q.1 with
      |false=>rfl
      |true=>exact absurd rfl (ez d7 (hp.keys q hq) (hi.OL t h2 v _ e hm))
    ·rw [if_neg h2,if_neg h2,if_neg h1]
     cases s.env t with
     |none=>rfl
     |some v=>simp only [Option.map_some];rw [tG v hk]
  ·funext t
   by_cases h1:t∈fp.wo
   ·rw [if_pos h1,if_neg fun h2=>ez d6 h1 h2 rfl]
    rw [if_pos h1];cases e:op t with
    |none=>rfl
    |some v=>
     simp only [Option.map_some];rw [mE fun q hq=> ?_];cases hm:v.mentions q.1 with
     |false=>rfl
     |true=>exact absurd rfl (ez d8 (hi.keys q hq) (hp.OM t h1 v _ e hm))
   ·rw [if_neg h1]
    by_cases h2:t∈fi.wo
    ·rw [if_pos h2,if_pos h2]
     cases e:oi t with
     |none=>rfl
     |some v=>
      simp only [Option.map_some];rw [mE fun q hq=> ?_];cases hm:v.mentions q.1 with
      |false=>rfl
      |true=>exact absurd rfl (ez d7 (hp.keys q hq) (hi.OM t h2 v _ e hm))
    ·rw [if_neg h2,if_neg h2,if_neg h1]
     cases s.ob t with
     |none=>rfl
     |some v=>simp only [Option.map_some];rw [Lu v hk]
def CB (sf:Nat→St→Option St):List (Nat×cT)→St→St→Prop
 |[],s,sF=>s=sF
 |p::l,s,sF=>∃s',sf p.1 s=some s'∧(p.2.all=false→∃ev ov m,yE (sf p.1) s p.2 ev ov m∧EB s p.2)∧CB sf l s' sF
theorem ML {a b:cT} (h:a.conflict b=false):a.all=false∧b.all=false:=by
 unfold cT.conflict at h;simp only [Bool.or_eq_false_iff] at h;exact ⟨h.1.1.1.1.1.1.1.1.1.1.1.1.1,h.1.1.1.1.1.1.1.1.1.1.1.1.2⟩
theorem CB.front {sf:Nat→St→Option St} {i:Nat} {f:cT} {post:List (Nat×cT)} {sF:St}:∀(pre:List (Nat×cT)) (s:St),CB sf (pre++(i,f)::post) s sF→(∀p∈pre,p.2.conflict f=false)→
  ∃s1,sf i s=some s1∧CB sf (pre++post) s1 sF∧(f.all=false→∃ev ov m,yE (sf i) s f ev ov m)
 |[],s,⟨s',h1,h2,h3⟩,_=>⟨s',h1,h3,fun ha=>by obtain ⟨ev,ov,m,k,_⟩:=h2 ha;exact ⟨ev,ov,m,k⟩⟩
 |p::pre,s,⟨s',h1,h2,h3⟩,hc=>by
  have hcp:=hc p (by simp);obtain ⟨ha,hb⟩:=ML hcp;obtain ⟨ep,op,lp,hp,hin⟩:=h2 ha;obtain ⟨s1,k1,k2,k3⟩:=CB.front pre s' h3 fun q hq=>hc q (by simp [hq])
  obtain ⟨ei,oi,li,hi⟩:=k3 hb;have e1:s'=cL p.2 ep op lp s:=by
   have:=hp.run s (fun _ _=>rfl) (fun _ _=>rfl) (fun _ _=>rfl);rw [h1] at this;injection this
  subst e1;obtain ⟨r1,r2,r3,r4⟩:=TX hp hin hi hcp;have e2:s1=cL f ei oi li (cL p.2 ep op lp s):=by
   have:=hi.run _ (fun _ _=>rfl) (fun _ _=>rfl) (fun _ _=>rfl);rw [k1] at this;injection this
  refine ⟨_,r1.run s (fun _ _=>rfl) (fun _ _=>rfl) (fun _ _=>rfl),⟨s1,?_,fun _=>⟨ep,op,lp,r2,r3⟩,k2⟩,fun _=>⟨ei,oi,li,r1⟩⟩;rw [r2.run _ (fun _ _=>rfl) (fun _ _=>rfl) (fun _ _=>rfl),r4,e2]
def jx (P:Program) (h:Hint) (aV:cQ) (ops:Array Oper) (k:Nat) (st:St):Option St:=
 match ops[k]? with
 |some o=>match iM ops o st with
  |some true=>step P h aV o st
  |some false=>some (st.set o.dst .undef)
  |none=>none
 |none=>none
theorem PF {id:Nat} {cells:List SV} (h:cells.any (SV.mentions id)=true):id∈cells.flatMap SV.ids:=by
 obtain ⟨c,hc,hm⟩:=List.any_eq_true.1 h;exact List.mem_flatMap.2 ⟨c,hc,pz hm⟩
theorem OQ {id:Nat} {o:Ob} (h:o.mentions id=true):id∈o.ids:=by
 cases o with
 |box t cells=>exact PF h
 |_=>cases h
theorem CT {sf:St→Option St} {s s':St} {f:cT} {l:List (Nat×Option AV)} (hk:∀p∈l,p.1∈f.mv) (hrun:∀x:St,(∀t∈f.rs,x.env t=s.env t)→(∀j∈f.ro,x.ob j=s.ob j)→(∀j∈f.rl,(x.ob j).map Ob.jf=(s.ob j).map Ob.jf)→sf x=some (cL f s'.env s'.ob l x))
  (hlen:∀j∈f.wo,f.kp j=true→(s'.ob j).map Ob.jf=(s.ob j).map Ob.jf):
  ∃ev ov m,yE sf s (f.fill s s') ev ov m∧EB s (f.fill s s'):=by
 have mem:∀{id:Nat} {g:Nat→List Nat} {l:List Nat} {t:Nat},t∈l→id∈g t→id∈l.flatMap g:=fun ht h=>List.mem_flatMap.2 ⟨_,ht,h⟩
 refine ⟨s'.env,s'.ob,l,⟨hk,hrun,hlen,fun t ht v id e hm=> ?_,fun j hj o id e hm=> ?_,fun id hid=> ?_⟩,⟨fun t ht v id e hm=> ?_,fun j hj o id e hm=> ?_,fun t v id e hid hm=> ?_,fun j o id e hid hm=> ?_⟩⟩
 ·simp only [cT.fill,List.mem_append]
  exact .inr (.inr (.inr (.inr (.inl (mem ht (by simp only [CR,e];exact pz hm))))))
 ·simp only [cT.fill,List.mem_append]
  exact .inr (.inr (.inr (.inr (.inr (.inr (mem hj (by simp only [Kv,e];exact OQ hm)))))))
 ·simp only [cT.fill,List.mem_append];exact .inl hid
 ·simp only [cT.fill,List.mem_append]
  exact .inr (.inr (.inr (.inl (mem ht (by simp only [CR,e];exact pz hm)))))
 ·simp only [cT.fill,List.mem_append]
  exact .inr (.inr (.inr (.inr (.inr (.inl (mem hj (by simp only [Kv,e];exact OQ hm)))))))
 ·simp only [cT.fill,e,List.any_eq_true];exact ⟨id,hid,hm⟩
 ·simp only [cT.fill,e,List.any_eq_true];exact ⟨id,hid,hm⟩
theorem fK {α:Type} {x:Option α} {g:α→α} (h:∀v,g v=v):x.map g=x:=by cases x<;>simp [h]
theorem O6 {f:cT} {s x:St} {d:Option Nat} {v:SV} (h1:f.ws=d.toList) (h2:f.wo=[]):x.set d v=cL f (s.set d v).env (s.set d v).ob [] x:=by
 refine St.same (fun t=> ?_) (fun j=> ?_)
 ·simp only [cL,h1]
  cases d with
  |none=>simp only [Option.toList_none,List.not_mem_nil,if_false,St.set];exact (fK fun _=>rfl).symm
  |some d=>
   by_cases e:d=t
   ·subst e;simp [St.set,bD]
   ·have:¬t∈(some d).toList:=by simp;exact fun h=>e h.symm
    rw [if_neg this];simp only [St.set,aN _ _ e];exact (fK fun _=>rfl).symm
 ·simp only [cL,h2,List.not_mem_nil,if_false]
  rw [fK zB];cases d<;>rfl
theorem tF (id:Nat) (o:Ob):o.qT (eW [(id,none)])=o.cA id:=by cases o<;>rfl
theorem Ja {f:cT} {s x:St} {d id:Nat} {o:Ob} {v:SV} (h1:f.ws=[d]) (h2:f.wo=[id]):(x.new id o).set (some d) v=cL f ((s.new id o).set (some d) v).env ((s.new id o).set (some d) v).ob [(id,none)] x:=by
 refine St.same (fun t=> ?_) (fun j=> ?_)
 ·simp only [cL,h1,List.mem_singleton]
  by_cases e:t=d
  ·subst e;simp [St.set,bD]
  ·rw [if_neg e]
   simp only [St.set,St.new,aN _ _ (fun h=>e h.symm),St.cA];rfl
 ·simp only [cL,h2,List.mem_singleton]
  by_cases e:j=id
  ·subst e;simp [St.set,St.new,bD]
  ·rw [if_neg e]
   simp only [St.set,St.new,St.cA,aN _ _ (fun h=>e h.symm)];cases x.ob j with
   |none=>rfl
   |some o'=>simp only [Option.map_some];rw [tF]
theorem QM {ops:Array Oper} {k:Nat} {o:Oper} {s:St} (ho:ops[k]? =some o) (hw:iM ops o s=some false):
  ∃ev ov m,yE (jx P h aV ops k) s ((kZ ops o).fill s (s.set o.dst .undef)) ev ov m∧EB s ((kZ ops o).fill s (s.set o.dst .undef)):=
 CT (l:=[]) (by simp) (fun x h1 _ _=>by
  simp only [jx,ho];rw [qh (st':=s) h1,hw];simp only
  rw [O6 (f:=kZ ops o) (s:=s) rfl rfl]) fun j hj _=>by cases hj
def fk (sf:St→Option St) (s:St) (f:cT) (ev:Nat→Option SV) (ov:Nat→Option Ob) (l:List (Nat×Option AV)):Prop:=
 (∀p∈l,p.1∈f.mv)∧(∀j∈f.wo,f.kp j=true→(ov j).map Ob.jf=(s.ob j).map Ob.jf)∧
  ∀x:St,(∀t∈f.rs,x.env t=s.env t)→(∀j∈f.ro,x.ob j=s.ob j)→(∀j∈f.rl,(x.ob j).map Ob.jf=(s.ob j).map Ob.jf)→sf x=some (cL f ev ov l x)
theorem fk.imp {sf:St→Option St} {s:St} {f f':cT} {ev:Nat→Option SV} {ov:Nat→Option Ob} {l:List (Nat×Option AV)} (hr:fk sf s f ev ov l) (h1:∀t∈f.rs,t∈f'.rs) (h2:∀t∈f.ro,t∈f'.ro) (h3:∀t∈f.mv,t∈f'.mv) (h4:∀t,t∈f.ws↔t∈f'.ws) (h5:∀t,t∈f.wo↔t∈f'.wo) (h6:∀t∈f.rl,t∈f'.rl) (h7:∀t∈f.wo,f'.kp t=true→f.kp t=true):fk sf s f' ev ov l:=
 ⟨fun p hp=>h3 _ (hr.1 p hp),fun j hj hk=>hr.2.1 j ((h5 j).2 hj) (h7 j ((h5 j).2 hj) hk),fun x k1 k2 k3=>by
  rw [hr.2.2 x (fun t ht=>k1 t (h1 t ht)) (fun t ht=>k2 t (h2 t ht)) (fun t ht=>k3 t (h6 t ht))]
  simp only [cL,h4,h5]⟩
theorem fk.at {sf:St→Option St} {s s':St} {f:cT} {ev:Nat→Option SV} {ov:Nat→Option Ob} {l:List (Nat×Option AV)} (hr:fk sf s f ev ov l) (h:sf s=some s'):s'=cL f ev ov l s:=by
 have:=hr.2.2 s (fun _ _=>rfl) (fun _ _=>rfl) (fun _ _=>rfl);rw [h] at this;injection this
theorem KB {s1 s2:St→Option St} {s:St} {f1 f2:cT} {UN T9:Nat→Option SV} {Uj Uk:Nat→Option Ob} {l1 l2:List (Nat×Option AV)} (hr:fk s1 s f1 UN Uj l1) (hq:fk s2 (cL f1 UN Uj l1 s) f2 T9 Uk l2):
  ∃ev ov,fk (fun x=>(s1 x).bind s2) s (f1.then f2) ev ov (l1++l2):=by
 refine ⟨fun t=>if t∈f2.ws then T9 t else (UN t).map (eW l2),fun j=>if j∈f2.wo then Uk j else (Uj j).map (Ob.qT (eW l2)),fun p hp=> ?_,fun j hj hk=> ?_,fun x k1 k2 k3=> ?_⟩
 ·simp only [cT.then,List.mem_append]
  exact (List.mem_append.1 hp).imp (hr.1 p) (hq.1 p)
 ·simp only [cT.then,Bool.and_eq_true,Bool.or_eq_true,Bool.not_eq_true',List.contains_eq_mem,decide_eq_false_iff_not] at hk
  simp only [cT.then,List.mem_append] at hj;have base:((cL f1 UN Uj l1 s).ob j).map Ob.jf=(s.ob j).map Ob.jf:=by
   by_cases a:j∈f1.wo
   ·rw [Ul a];exact hr.2.1 j a (hk.1.resolve_right fun h=>h a)
   ·exact TS a
  by_cases a:j∈f2.wo
  ·simp only [if_pos a]
   exact (hq.2.1 j a (hk.2.resolve_right fun h=>h a)).trans base
  ·simp only [if_neg a,Option.map_map]
   have b:j∈f1.wo:=hj.resolve_left a;rw [←hr.2.1 j b (hk.1.resolve_right fun h=>h b)];cases Uj j with
   |none=>rfl
   |some o=>simp only [Option.map_some,Function.comp,Cf]
 ·have e1:=hr.2.2 x (fun t ht=>k1 t (by simp [cT.then,ht])) (fun t ht=>k2 t (by simp [cT.then,ht])) (fun t ht=>k3 t (by simp [cT.then,ht]))
  have e2:=hq.2.2 (cL f1 UN Uj l1 x) (fun t ht=>by simp only [cL];rw [k1 t (by simp [cT.then,ht])]) (fun t ht=>by simp only [cL];rw [k2 t (by simp [cT.then,ht])]) (fun t ht=>by
   by_cases a:t∈f1.wo
   ·rw [Ul a,Ul a]
   ·rw [TS a,TS a];exact k3 t (by simp [cT.then,ht]))
  simp only [e1,Option.bind_some,e2,Option.some.injEq];have mm:∀v,eW l2 (eW l1 v)=eW (l1++l2) v:=fun v=>by simp only [eW,List.foldl_append]
  refine St.same (fun t=> ?_) (fun j=> ?_)
  ·simp only [cL,cT.then,List.mem_append]
   by_cases a:t∈f2.ws
   ·simp only [a,if_true,true_or]
   ·by_cases b:t∈f1.ws
    ·simp only [a,b,if_true,if_false,false_or]
    ·simp only [a,b,if_false,or_self]
     cases x.env t with
     |none=>rfl
     |some v=>simp only [Option.map_some,mm]
  ·simp only [cL,cT.then,List.mem_append]
   by_cases a:j∈f2.wo
   ·simp only [a,if_true,true_or]
   ·by_cases b:j∈f1.wo
    ·simp only [a,b,if_true,if_false,false_or]
    ·simp only [a,b,if_false,or_self]
     cases x.ob j with
     |none=>rfl
     |some o=>
      simp only [Option.map_some,Option.some.injEq];cases o with
      |box t cells=>simp only [Ob.qT,List.map_map,Ob.box.injEq,true_and];exact List.map_congr_left fun c _=>mm c
      |_=>rfl
theorem fk.nil (s:St) (f:cT) (h1:f.ws=[]) (h2:f.wo=[]):fk some s f (fun _=>none) (fun _=>none) []:=
 ⟨by simp,fun j hj=>(by rw [h2] at hj;cases hj),fun x _ _ _=>by
  congr 1
  refine St.same (fun t=> ?_) (fun j=> ?_)
  ·simp only [cL,h1,List.not_mem_nil,if_false];exact (fK fun _=>rfl).symm
  ·simp only [cL,h2,List.not_mem_nil,if_false];exact (fK zB).symm⟩
theorem Dh (id:Nat) (v:AV) (o:Ob):o.qT (eW [(id,some v)])=o.bZ id v:=by cases o<;>rfl
theorem zQ {s s':St} {id:Nat} (hp:s.bZ id=some s'):∃ev ov l,fk (fun x=>x.bZ id) s { ro:=[id],wo:=[id],mv:=[id] } ev ov l:=by
 unfold St.bZ at hp;split at hp
 ·rename_i v ho hv
  refine ⟨fun _=>none,fun _=>none,[(id,some v)],by simp,fun j _ hk=>(by cases hk),fun x _ h2 _=> ?_⟩;have e:x.ob id=s.ob id:=h2 id (by simp);unfold St.bZ;simp only [e,ho,hv,Option.some.injEq];refine St.same (fun t=> ?_) (fun j=> ?_)
  ·simp only [cL,List.not_mem_nil,if_false];rfl
  ·simp only [cL,List.mem_singleton]
   by_cases a:j=id
   ·subst a;simp [bD]
   ·rw [if_neg a,aN _ _ (fun h=>a h.symm)]
    cases x.ob j with
    |none=>rfl
    |some o=>simp only [Option.map_some];rw [Dh]
 ·cases hp
theorem qZ:∀{cells:List SV} {s s':St},gK cells s=some s'→∃ev ov l,fk (gK cells) s { ro:=kJ cells,wo:=kJ cells,mv:=kJ cells } ev ov l
 |[],s,s',_=>⟨_,_,_,fk.nil s _ rfl rfl⟩
 |c::cells,s,s',hv=>by
  have other:(∀id,c≠ .row id)→(∀x,gK (c::cells) x=gK cells x)∧kJ (c::cells)=kJ cells:=fun hne=>by
   cases c<;>first|exact absurd rfl (hne _)|exact ⟨fun _=>rfl,rfl⟩
  by_cases hr:∃id,c= .row id
  ·obtain ⟨id,rfl⟩:=hr
   simp only [gK] at hv;obtain ⟨s1,h1,h2⟩:=Option.bind_eq_some_iff.1 hv;obtain ⟨ev,ov,l,r1⟩:=zQ h1;obtain ⟨ev',ov',l',r2⟩:=qZ h2;rw [r1.at h1] at r2;obtain ⟨T9,Uk,r3⟩:=KB r1 r2;exact ⟨T9,Uk,_,r3.imp (fun t ht=>by simp [cT.then] at ht) (fun t ht=>by simpa [cT.then,kJ] using ht) (fun t ht=>by simpa [cT.then,kJ] using ht) (fun t=>by simp [cT.then]) (fun t=>by simp [cT.then,kJ,or_comm]) (fun t ht=>by simp [cT.then] at ht) (fun t _ hk=>by cases hk)⟩
  ·obtain ⟨e1,e2⟩:=other fun id h=>hr ⟨id,h⟩
   rw [e1] at hv;obtain ⟨ev,ov,l,r⟩:=qZ hv;refine ⟨ev,ov,l,?_⟩;rw [e2];exact ⟨r.1,r.2.1,fun x h1 h2 h3=>by rw [e1];exact r.2.2 x h1 h2 h3⟩
theorem LQ {s s':St} {t:Nat} (hp:kG s t=some s'):∃ev ov l,fk (fun x=>kG x t) s (DR s t) ev ov l:=by
 have hp0:=hp;unfold kG at hp;unfold DR;split at hp
 ·rename_i id he
  obtain ⟨ev,ov,l,r⟩:=zQ hp;refine ⟨ev,ov,l,r.1,r.2.1,fun x h1 h2 h3=> ?_⟩;have e:x.env t=s.env t:=h1 t (by simp);simp only [kG,e,he];exact r.2.2 x (by simp) h2 (by simp)
 ·rename_i id off he
  split at hp
  ·rename_i bt cells cz
   obtain ⟨ev,ov,l,r⟩:=qZ hp;refine ⟨ev,ov,l,r.1,r.2.1,fun x h1 h2 h3=> ?_⟩;have e:x.env t=s.env t:=h1 t (by simp);have e2:x.ob id=s.ob id:=h2 id (by simp);simp only [kG,e,he,e2,cz];exact r.2.2 x (by simp) (fun j hj=>h2 j (by simp [hj])) (by simp)
  ·cases hp
 ·rename_i S0 hn2
  refine ⟨fun _=>none,fun _=>none,[],?_⟩;have k2:∀x:St,x.env t=s.env t→kG x t=some x:=fun x e=>by
   unfold kG;rw [e];split
   ·rename_i id he;exact absurd he (S0 id)
   ·rename_i id off he;exact absurd he (hn2 id off)
   ·rfl
  refine ⟨by simp,fun j hj=>(by simp at hj),fun x h1 h2 h3=> ?_⟩;simp only;rw [k2 x (h1 t (by simp))];exact (fk.nil s { rs:=[t] } rfl rfl).2.2 x h1 h2 h3
theorem FF {st st':St} {t:TypeId} {x ix:Operand} (hx:∀ty,aM P ty st x=aM P ty st' x) (hi:∀ty,aM P ty st ix=aM P ty st' ix) (cz:∀ty sv,aM P ty st x=some sv→∀id∈sv.ids,(st.ob id).map Ob.jf=(st'.ob id).map Ob.jf):nU P st t x ix=nU P st' t x ix:=by
 unfold nU;rw [←hx,←hi];split
 ·rfl
 ·rename_i e s id q i hs ho hq
  have k:=cz t _ ho id (by simp [SV.ids]);cases e1:st.ob id with
  |none=>
   rw [e1] at k;cases e2:st'.ob id with
   |none=>rfl
   |some o=>rw [e2] at k;cases k
  |some o1=>
   rw [e1] at k;cases e2:st'.ob id with
   |none=>rw [e2] at k;cases k
   |some o2=>
    rw [e2] at k;simp only [Option.map_some,Option.some.injEq] at k;cases o1 with
    |row e3 sz xs=>
     cases o2 with
     |row e4 Um ys=>
      simp only [Ob.jf,Ob.row.injEq] at k;obtain ⟨_,rfl,k3⟩:=k;have:xs.length=ys.length:=by simpa using congrArg List.length k3
      simp only [this]
     |_=>cases k
    |rn e3 sz q1 q2 q3 xs zs=>
     cases o2 with
     |rn e4 Um q4 q5 q6 ys zs2=>
      simp only [Ob.jf,Ob.rn.injEq] at k;obtain ⟨_,rfl,_,_,_,k3,_⟩:=k;have:xs.length=ys.length:=by simpa using congrArg List.length k3
      simp only [this]
     |_=>cases k
    |_=>cases o2<;>first|rfl|cases k
 ·rfl
 ·rfl
theorem CZ {st st':St} {n:Nat} {e:TypeId} {x ix:Operand} (hx:∀ty,aM P ty st x=aM P ty st' x) (hi:∀ty,aM P ty st ix=aM P ty st' ix):oU P st n e x ix=oU P st' n e x ix:=by
 unfold oU;rw [hx,hi]
theorem GV {ops:Array Oper} {o:Oper} {s:St} {v:SV} (hv:cr P h aV o s=some v):fk (step0 P h aV o) s (mw P h ops o s) (s.set o.dst v).env (s.set o.dst v).ob []:=
 ⟨by simp,fun j hj=>(by cases hj),fun x h1 h2 h3=>by
  have fin:cr P h aV o s=cr P h aV o x→step0 P h aV o x=some (cL (mw P h ops o s) (s.set o.dst v).env (s.set o.dst v).ob [] x):=fun this=>by
   rw [hv] at this;simp only [step0,←this];rw [O6 (f:=mw P h ops o s) (s:=s) rfl rfl]
  cases hx:NM o.op with
  |true=>
   cases ho:o.op with
   |indexAddr t a ix=>
    have hop:∀y∈o.op.operands.toList,∀ty,aM P ty s y=aM P ty x y:=fun y hy ty=>jy (fun u e=>(h1 u (by
     subst e
     exact List.mem_append_left _ (List.mem_filterMap.2 ⟨.tmp u,hy,rfl⟩))).symm) ty
    have ha:=hop a (by rw [ho];simp [Op.operands]);have hi:=hop ix (by rw [ho];simp [Op.operands])
    have hl:∀ty sv,aM P ty s a=some sv→∀id∈sv.ids,(s.ob id).map Ob.jf=(x.ob id).map Ob.jf:=fun ty sv e id hid=>(h3 id (by
     simp only [mw,hx,cond_true]
     exact r5 (by rw [ho];simp [Op.operands]) e hid)).symm
    refine fin ?_;simp only [cr,ho,cD];rw [FF ha hi hl];split
    ·rw [CZ ha hi]
    ·rfl
   |_=>rw [ho] at hx;cases hx
  |false=>
   have hro:∀id∈z8 P h o s,s.ob id=x.ob id:=fun id hid=>by
    cases hn:BT o.op with
    |false=>exact (h2 id (by simp [mw,hn,hx,hid])).symm
    |true=>cases ho:o.op<;>simp [z8,ho,BT] at hid hn
   exact fin (HQ (P:=P) (h:=h) (aV:=aV) (st:=s) (st':=x) (o:=o) (fun hn id hid=>(h2 id (by simp [mw,hn,hx,hid])).symm) hro (fun t ht=>(h1 t (by simp [mw,fh,ht])).symm))⟩
theorem Pe {ops:Array Oper} {k:Nat} {o:Oper} {s:St} {v:SV} (ho:ops[k]? =some o) (hw:iM ops o s=some true) (hpe:qq h o=[]) (hv:cr P h aV o s=some v):
  ∃ev ov m,yE (jx P h aV ops k) s ((mw P h ops o s).fill s (s.set o.dst v)) ev ov m∧EB s ((mw P h ops o s).fill s (s.set o.dst v)):=
 CT (l:=[]) (by simp) (fun x h1 h2 h3=>by
  simp only [jx,ho];rw [qh (st':=s) h1,hw];simp only [step,hpe,fC,Option.bind_some]
  exact (GV (ops:=ops) hv).2.2 x h1 h2 h3) fun j hj _=>by cases hj
theorem Mq {o:Oper} {s s':St} {c:Call} {d id:Nat} {x y:Operand} {t t':TypeId} (ho:o.op= .call c) (hc:c.callee= .builtin .append) (hargs:c.args.toList=[x,y]) (sj:c.argTypes.toList=[t,t']) (hd:o.dst=some d) (hx:aM P t s x=some (.row id)) (hst:step0 P h aV o s=some s'):
  ∃ob:Ob,s'=(s.new id ob).set (some d) (.row id)∧
   ∀x:St,(∀t∈slotsOf o,x.env t=s.env t)→(∀j∈id::zN s o,x.ob j=s.ob j)→step0 P h aV o x=some ((x.new id ob).set (some d) (.row id)):=by
 have hf:∀x:St,cr P h aV o x=none:=fun x=>by simp only [cr,ho,hc,qp]
 have he:∀x':St,step0 P h aV o x'=(match isSlice P t,aM P t x' x,aM P t' x' y with
  |some (e,s),some (.row id),some y=>match x'.ob id,elems x' y,P.info? e with
   |some (.row e' sz xs),some (sz',ys),some i=>
    if t=t'∧e=e'∧s=sz∧sz=sz'∧0<sz∧(xs.length+ys.length) *i.bytes≤140737488355328∧xs.length+ys.length≤4611686018427387904∧i.zero.map (fun z=>z.cells.size)=some sz∧kP id=true then
     some ((x'.new id (.row e sz (xs++ys))).set (some d) (.row id)) else none
   |_,_,_=>none
  |_,_,_=>none):=fun x'=>by
  simp only [step0,hf,jG,ho,hc,hd,hargs,sj];rfl
 rw [he] at hst;split at hst
 ·rename_i e sz0 id2 sy hs hx2 hy
  rw [hx] at hx2;simp only [Option.some.injEq,SV.row.injEq] at hx2;subst hx2;split at hst
  ·rename_i e' sz xs sz' ys i cz hel hi
   split at hst
   ·rename_i hcnd
    injection hst with hst
    refine ⟨.row e sz (xs++ys),hst.symm,fun x' hx' NC=> ?_⟩
    have Vu:∀z∈[x,y],∀ty,aM P ty x' z=aM P ty s z:=fun z hz ty=>jy (fun u e=>hx' u (by
     subst e;refine List.mem_filterMap.2 ⟨.tmp u,?_,rfl⟩;rw [ho];simp only [Op.operands,Call.operands,hc,Array.toList_append,List.mem_append]
     right
     rw [hargs];exact hz)) ty
    rw [he,Vu x (by simp) t,Vu y (by simp) t',hx,hy,hs];have e1:x'.ob id=s.ob id:=NC id (by simp)
    have e2:elems x' sy=elems s sy:=qJ (fun j hj=>NC j (List.mem_cons_of_mem _ (r5 (P:=P) (x:=y) (ty:=t') (by
     rw [ho];simp only [Op.operands,Call.operands,hc,Array.toList_append,List.mem_append]
     right
     rw [hargs];simp) hy hj)))
    simp only [e1,cz,e2,hel,hi];rw [if_pos hcnd]
   ·cases hst
  ·cases hst
 ·cases hst
theorem VV {ops:Array Oper} {o:Oper} {s:St} (Vr:¬∃t x,o.op= .load t x) (hpt:¬∃t a x id sz i off j,o.op= .store t a x∧aM P 0 s a=some (.rp id sz i off)∧aM P t s x=some (.row j)) (j:Nat):(fJ P h ops o s).kp j=false:=by
 unfold fJ yj rV CV;split
 ·rename_i hop _
  split
  ·rename_i h1 h2;exact absurd ⟨_,_,_,_,_,_,_,_,hop,h1,h2⟩ hpt
  ·split<;>rfl
 ·cases h.rows.contains _<;>rfl
 ·split
  ·split
   ·split<;>rfl
   ·rfl
  ·cases (o.dst.any h.pQ.contains&& !(o.dst.any (fun d=>(mS h d).isSome)))<;>rfl
  ·rfl
 ·rename_i hq _;exact absurd ⟨_,_,hq⟩ Vr
 ·rfl
theorem QX {ops:Array Oper} {o:Oper} {s s':St} {t:TypeId} {a:Operand} (ho:o.op= .load t a) (hst:step0 P h aV o s=some s') (hall:(fJ P h ops o s).all=false):
  ∃ev ov m,fk (step0 P h aV o) s (fJ P h ops o s) ev ov m:=by
 obtain ⟨F,hF⟩:∃F,fJ P h ops o s=F:=⟨_,rfl⟩
 rw [hF] at hall⊢;unfold fJ at hF;rw [ho] at hF;cases vw:o.dst with
 |none=>rw [vw] at hF;subst hF;cases hall
 |some d=>
  rw [vw] at hF;simp only at hF;cases Me:h.take.contains d with
  |false=>rw [Me] at hF;subst hF;cases hall
  |true=>
   rw [Me] at hF;simp only [cond_true,Fp] at hF;split at hF
   ·rename_i id sz i off hx
    split at hF
    ·rename_i e sz' k e' s2 xs ys cz
     subst hF;have he:∀x:St,aM P 0 x a=some (.rp id sz i off)→x.ob id=some (.rn e sz' k e' s2 xs ys)→step0 P h aV o x=lV P x t a d:=fun x h1 h2=>by
      have hfn:cr P h aV o x=none:=by simp only [cr,ho,cD,h1,h2]
      unfold step0;rw [hfn];simp only [jG,ho,vw,Me,cond_true]
     rw [he s hx cz] at hst;unfold lV at hst;rw [hx] at hst;split at hst
     ·rename_i id2 Um i2 off2 e1 hagg
      simp only [Option.some.injEq,SV.rp.injEq] at e1;obtain ⟨rfl,rfl,rfl,rfl⟩:=e1;rw [cz] at hst;simp only at hst;split at hst
      ·rename_i zs hy
       cases hb:(Nat.beq sz sz'&&Nat.beq off k&& !(Nat.beq id d)&&Nat.blt id 10000) with
       |false=>rw [hb] at hst;cases hst
       |true=>
       rw [hb] at hst;simp only [cond_true,Option.some.injEq] at hst;have hne:id≠d:=fun e=>by subst e;simp [Nat.beq_refl] at hb
       refine ⟨s'.env,s'.ob,[(d,none)],by simp,fun j hj hk=> ?_,fun x h1 h2 _=> ?_⟩<;>subst hst
       rotate_left
       ·have VJ:aM P 0 x a=some (.rp id sz i off):=by
         rw [←hx]
         exact jy (fun u e=>h1 u (by
          subst e
          exact List.mem_append_left _ (List.mem_filterMap.2 ⟨.tmp u,by rw [ho];simp [Op.operands],rfl⟩))) 0
        have hxb:x.ob id=some (.rn e sz' k e' s2 xs ys):=(h2 id (by simp)).trans cz;rw [he x VJ hxb];unfold lV;rw [VJ,hagg];simp only [hxb,hy,hb,cond_true];refine congrArg some (St.same (fun u=> ?_) (fun u=> ?_))
        ·simp only [cL,List.mem_singleton]
         by_cases e:u=d
         ·subst e;simp only [if_true,St.set,bD]
         ·rw [if_neg e]
          simp only [St.set,St.new,aN _ _ (fun h=>e h.symm),St.cA];rfl
        ·simp only [cL,List.mem_cons,List.not_mem_nil,or_false]
         by_cases e:u=d
         ·subst e;simp only [or_true,if_true,St.set,St.new,bD]
         ·by_cases e2:u=id
          ·subst e2
           simp only [true_or,if_true,St.set,St.new,St.cA,aN _ _ (fun h=>e h.symm),bD]
          ·rw [if_neg (by simp [e,e2])]
           simp only [St.set,St.new,St.cA,aN _ _ (fun h=>e h.symm),aN _ _ (fun h=>e2 h.symm)];cases x.ob u with
           |none=>rfl
           |some o'=>simp only [Option.map_some];rw [tF]
       ·have hk':j=id:=by
         simp only [Bool.and_eq_true] at hk;exact beq_iff.1 hk.1
        subst hk';rw [cz];simp only [St.set,St.new,St.cA,aN _ _ (fun h=>hne h.symm),bD,Option.map_some,Ob.cA,Ob.jf]
      ·cases hst
     ·cases hst
    ·subst hF;cases hall
   ·subst hF;cases hall
theorem TM {ops:Array Oper} {o:Oper} {s s':St} {t:TypeId} {a y:Operand} {id sz i off j:Nat} (ho:o.op= .store t a y) (ha:aM P 0 s a=some (.rp id sz i off)) (hy:aM P t s y=some (.row j)) (hst:step0 P h aV o s=some s') (hall:(fJ P h ops o s).all=false):
  ∃ev ov m,fk (step0 P h aV o) s (fJ P h ops o s) ev ov m:=by
 obtain ⟨F,hF⟩:∃F,fJ P h ops o s=F:=⟨_,rfl⟩
 rw [hF] at hall⊢;unfold fJ at hF;rw [ho] at hF;cases vw:o.dst with
 |some d=>rw [vw] at hF;subst hF;cases hall
 |none=>
  rw [vw] at hF;simp only [yj,ha,hy] at hF;subst hF;have he:∀x:St,aM P 0 x a=some (.rp id sz i off)→aM P t x y=some (.row j)→step0 P h aV o x=xK P x t id sz i off j:=fun x h1 h2=>by
   have hfn:cr P h aV o x=none:=by simp [cr,ho,cD]
   unfold step0;rw [hfn];simp only [jG,ho,vw,h1,h2]
  rw [he s ha hy] at hst;unfold xK at hst;split at hst
  ·rename_i e sz' k e' s2 xs ys e2 s3 zs hagg hsz cz uB
   cases hb:(Nat.beq sz sz'&&Nat.beq off k&&Nat.blt id 10000&&Nat.blt j 10000&&Nat.beq e' e2&&Nat.beq s2 s3&&Nat.blt i ys.length&& !(Nat.beq id j)) with
   |false=>rw [hb] at hst;cases hst
   |true=>
   rw [hb] at hst;simp only [cond_true,Option.some.injEq] at hst;have hne:id≠j:=fun e=>by subst e;simp [Nat.beq_refl] at hb
   refine ⟨s'.env,s'.ob,[(j,none)],by simp,fun q hq hk=> ?_,fun x h1 h2 _=> ?_⟩<;>subst hst
   ·have hk':q=id:=by
     simp only [Bool.and_eq_true] at hk;exact beq_iff.1 hk.1
    subst hk';rw [cz];simp only [bD,Option.map_some,Ob.jf]
   ·have NC:∀z∈o.op.operands.toList,∀ty,aM P ty x z=aM P ty s z:=fun z hz ty=>jy (fun u e=>h1 u (by
     subst e
     exact List.mem_append_left _ (List.mem_filterMap.2 ⟨.tmp u,hz,rfl⟩))) ty
    have k1:=NC a (by rw [ho];simp [Op.operands]) 0;have k2:=NC y (by rw [ho];simp [Op.operands]) t;have x1:x.ob id=some (.rn e sz' k e' s2 xs ys):=(h2 id (by simp)).trans cz;have x2:x.ob j=some (.row e2 s3 zs):=(h2 j (by simp)).trans uB;rw [he x (k1.trans ha) (k2.trans hy)];unfold xK;simp only [hagg,hsz,x1,x2,hb,cond_true];refine congrArg some (St.same (fun u=> ?_) (fun u=> ?_))
    ·simp only [cL,List.not_mem_nil,if_false,St.cA]
     rfl
    ·simp only [cL,List.mem_cons,List.not_mem_nil,or_false]
     by_cases e:u=id
     ·subst e;simp only [true_or,if_true,bD]
     ·by_cases e2:u=j
      ·subst e2
       simp only [or_true,if_true,aN _ _ (fun h=>e h.symm),St.cA,bD]
      ·rw [if_neg (by simp [e,e2])]
       simp only [St.cA,aN _ _ (fun h=>e h.symm),aN _ _ (fun h=>e2 h.symm)];cases x.ob u with
       |none=>rfl
       |some o'=>simp only [Option.map_some];rw [tF]
  ·cases hst
theorem HE {ops:Array Oper} {o:Oper} {s s':St} (hst:step0 P h aV o s=some s') (hall:(fJ P h ops o s).all=false):
  ∃ev ov m,fk (step0 P h aV o) s (fJ P h ops o s) ev ov m:=by
 by_cases Vr:∃t x,o.op= .load t x
 ·obtain ⟨t,a,ho⟩:=Vr;exact QX ho hst hall
 by_cases hpt:∃t a x id sz i off j,o.op= .store t a x∧aM P 0 s a=some (.rp id sz i off)∧aM P t s x=some (.row j)
 ·obtain ⟨t,a,x,id,sz,i,off,j,ho,ha,hx⟩:=hpt;exact TM ho ha hx hst hall
 have go:∀{l:List (Nat×Option AV)},(∀p∈l,p.1∈(fJ P h ops o s).mv)→(∀t∈fh ops o,t∈(fJ P h ops o s).rs)→(∀x:St,(∀t∈(fJ P h ops o s).rs,x.env t=s.env t)→(∀j∈(fJ P h ops o s).ro,x.ob j=s.ob j)→step0 P h aV o x=some (cL (fJ P h ops o s) s'.env s'.ob l x))→
   ∃ev ov m,fk (step0 P h aV o) s (fJ P h ops o s) ev ov m:=fun hk _ hrun=>⟨_,_,_,hk,fun j _ hj=>(by rw [VV Vr hpt] at hj;cases hj),fun x h1 h2 _=>hrun x h1 h2⟩
 obtain ⟨F,hF⟩:∃F,fJ P h ops o s=F:=⟨_,rfl⟩
 rw [hF] at hall go⊢;unfold fJ at hF;split at hF
 ·
  rename_i t ax ay qQ hdn
  replace hF:rV P ops o s ax=F:=by
   rw [←hF];unfold yj;split
   ·rename_i h1 h2;exact absurd ⟨_,_,_,_,_,_,_,_,qQ,h1,h2⟩ hpt
   ·rfl
  unfold rV at hF;split at hF
  ·rename_i id hx
   subst hF;obtain ⟨sa,hsa,htg⟩:=Option.bind_eq_some_iff.1 hx;have hfn:∀x,cr P h aV o x=none:=fun x=>by simp [cr,qQ,cD]
   have Lj:=hst;unfold step0 at Lj;rw [hfn] at Lj;simp only [jG,hdn,qQ,hsa] at Lj;split at Lj
   ·rename_i h1 h2
    injection h1 with h1;subst h1
    exact absurd ⟨_,_,_,_,_,_,_,_,qQ,hsa,h2⟩ hpt
   ·rename_i sa' sv hnr e1 hy
    injection e1 with e1;subst e1
    obtain ⟨l1,l2,l3⟩:=Bb Lj htg;refine go (l:=[]) (by simp) (fun t ht=>ht) fun x h1 h2=> ?_
    have NC:∀y∈o.op.operands.toList,∀ty,aM P ty x y=aM P ty s y:=fun y hy' ty=>jy (fun u e=>h1 u (by
     subst e
     exact List.mem_append_left _ (List.mem_filterMap.2 ⟨.tmp u,hy',rfl⟩))) ty
    have k1:=NC ax (by rw [qQ];simp [Op.operands]) 0;have k2:=NC ay (by rw [qQ];simp [Op.operands]) t;unfold step0;rw [hfn];have hsel:jG P h aV o x=storeAt P t x sa sv:=by
     simp only [jG,hdn,qQ,k1,k2,hsa,hy]
    simp only;rw [hsel,l3 x (h2 id (by simp)) fun j hj=>h2 j (List.mem_cons_of_mem _ (r5 (P:=P) (x:=ay) (ty:=t) (by rw [qQ];simp [Op.operands]) hy hj))]
    congr 1
    refine St.same (fun u=> ?_) (fun u=> ?_)
    ·simp only [cL,List.not_mem_nil,if_false]
     exact (fK fun _=>rfl).symm
    ·simp only [cL,List.mem_singleton]
     by_cases e:u=id
     ·subst e;simp [bD]
     ·rw [if_neg e,aN _ _ (fun h=>e h.symm)]
      exact (fK zB).symm
   ·cases Lj
  ·subst hF;cases hall
 ·
  rename_i t d qQ vw;cases hrw:h.rows.contains d with
  |true=>rw [hrw] at hF;subst hF;cases hall
  |false=>
   rw [hrw] at hF;simp only [cond_false] at hF;subst hF;have he:∀x,step0 P h aV o x=match Cx P h (some d) t with
    |some z=>some ((x.new d (.box t (z.map .pv))).set (some d) (.ptr d 0))
    |none=>none:=fun x=>by
    have hfn:cr P h aV o x=none:=by simp [cr,qQ,cD]
    unfold step0;rw [hfn];simp only [jG,vw,qQ,hrw,cond_false];rfl
   rw [he] at hst;split at hst
   ·rename_i z hz
    injection hst with hst;subst hst
    refine go (l:=[(d,none)]) (by simp) (fun t ht=>ht) fun x h1 h2=> ?_
    rw [he,hz];simp only;rw [Ja (f:={ rs:=fh ops o,ws:=[d],wo:=[d],mv:=[d] }) (s:=s) rfl rfl]
   ·cases hst
 ·rename_i c qQ
  split at hF
  ·
   rename_i hc;unfold CV at hF;split at hF
   ·rename_i x y t t' d hargs sj vw
    split at hF
    ·rename_i id hx
     subst hF;obtain ⟨ob,hs',hrun⟩:=Mq qQ hc hargs sj vw hx hst;subst hs';refine go (l:=[(id,none)]) (by simp) (fun t ht=>ht) fun x h1 h2=> ?_
     rw [hrun x (fun t ht=>h1 t (by simp [fh,ht])) h2,Ja (f:={ rs:=fh ops o,ws:=[d],ro:=id::zN s o,wo:=[id],mv:=[id] }) (s:=s) rfl rfl]
    ·subst hF;cases hall
   ·subst hF;cases hall
  ·
   rename_i f hc;cases S9:(o.dst.any h.pQ.contains&& !(o.dst.any (fun d=>(mS h d).isSome))) with
   |false=>rw [S9] at hF;subst hF;cases hall
   |true=>
    rw [S9] at hF;simp only [cond_true] at hF;subst hF;obtain ⟨how,HX⟩:=Bool.and_eq_true_iff.1 S9;have he:∀x,step0 P h aV o x=fu P h aV x c f o.dst:=fun x=>by
     have hfn:cr P h aV o x=none:=by simp only [cr,qQ,hc,how,cond_true]
     unfold step0;rw [hfn];cases vw:o.dst with
     |none=>rw [vw] at how;cases how
     |some d=>
      rw [vw] at how;simp only [jG,qQ,hc,vw,how,cond_true]
    have NC:∀x:St,(∀t∈fh ops o,x.env t=s.env t)→∀y∈o.op.operands.toList,∀ty,aM P ty x y=aM P ty s y:=fun x h1 y hy' ty=>jy (fun u e=>h1 u (by
     subst e
     exact List.mem_append_left _ (List.mem_filterMap.2 ⟨.tmp u,hy',rfl⟩))) ty
    rw [he] at hst;unfold fu at hst;split at hst
    ·rename_i d vw
     have hn:(mS h d).isSome=false:=by simpa [vw] using HX
     rw [hn] at hst;split at hst
     ·rename_i g caps vs hf hvs
      split at hst
      rotate_left
      ·rename_i cs' hr
       have:mS h d=none:=by simpa using hn
       rw [this] at hst;cases hst
      ·cases hst
      rename_i e sz xs hr;injection hst with hst;subst hst
      refine go (l:=[(d,none)]) (by simp [vw]) (fun t ht=>ht) fun x h1 h2=> ?_
      have k1:=NC x h1 f (by rw [qQ];simp [Op.operands,Call.operands,hc]) 0;have k2:=q7 (P:=P) (b:=false) (st:=x) (st':=s) (xs:=c.args.toList) (ts:=c.argTypes.toList) (fun y hy=>NC x h1 y (by rw [qQ];simp only [Op.operands,Call.operands,Array.toList_append,List.mem_append];exact .inr hy));rw [he];unfold fu;rw [vw];simp only [hn,k1,k2,hf,hvs,hr,cond_false];exact congrArg some (Ja (f:={ rs:=fh ops o,ws:=(some d).toList,wo:=(some d).toList,mv:=(some d).toList }) (s:=s) rfl rfl)
     ·cases hst
    ·cases hst
  ·subst hF;cases hall
 ·rename_i hq _;exact absurd ⟨_,_,hq⟩ Vr
 ·subst hF;cases hall
theorem Fo {ops:Array Oper} {o:Oper}:∀{l:List Nat} {s s':St},(fC l s).bind (step0 P h aV o)=some s'→(xb P h ops o l s).all=false→∃ev ov m,fk (fun x=>(fC l x).bind (step0 P h aV o)) s (xb P h ops o l s) ev ov m
 |[],s,s',hst,hall=>by
  simp only [fC,Option.bind_some] at hst⊢;simp only [xb] at hall⊢;cases hF:Pv h s o with
  |false=>rw [hF] at hall;simp only [cond_false] at hall⊢;exact HE hst hall
  |true=>
   rw [hF] at hall;simp only [cond_true] at hall⊢;cases hW:isW o.op with
   |false=>rw [hW] at hall;cases hall
   |true=>
    simp only [cond_true];cases hv:cr P h aV o s with
    |some v=>exact ⟨_,_,_,GV hv⟩
    |none=>
     exfalso;unfold step0 at hst;rw [hv] at hst;simp only at hst;cases ho:o.op with
     |buildSlice t len parts=>
      simp only [Pv,ho] at hF;have hF:o.dst.any h.rows.contains=false:=by simpa using hF
      simp only [cr,ho,hF,cond_false,Option.map_eq_none_iff] at hv;cases hd:o.dst<;>simp [jG,ho,hd,hv] at hst
     |build t parts=>
      simp only [Pv,ho] at hF;have hF:o.dst.any h.rows.contains=false:=by simpa using hF
      cases hd:o.dst with
      |none=>simp [jG,ho,hd] at hst
      |some d=>
       rw [hd] at hF;have Vc:h.rows.contains d=false:=hF;simp only [jG,ho,hd,Vc,cond_false] at hst;cases hst
     |load t x=>
      simp only [Pv,ho] at hF;have hF:o.dst.any h.take.contains=false:=by simpa using hF
      cases hd:o.dst with
      |none=>simp [jG,ho,hd] at hst
      |some d=>
       rw [hd] at hF;have Vc:h.take.contains d=false:=hF;simp only [jG,ho,hd,Vc,cond_false] at hst;cases hst
     |_=>simp [isW,ho] at hW
 |t::l,s,s',hst,hall=>by
  simp only [fC] at hst;have hst:((kG s t).bind (fC l)).bind (step0 P h aV o)=some s':=hst;cases h1:kG s t with
  |none=>rw [h1] at hst;cases hst
  |some s1=>
   rw [h1] at hst;simp only [Option.bind_some] at hst;simp only [xb,h1] at hall⊢;have Vh:(xb P h ops o l s1).all=false:=by
    simp only [cT.then,Bool.or_eq_false_iff] at hall;exact hall.2
   obtain ⟨ev,ov,m,r1⟩:=LQ h1;obtain ⟨ev',ov',m',r2⟩:=Fo hst Vh;have e1:=r1.at h1;rw [e1] at r2;obtain ⟨T9,Uk,r3⟩:=KB r1 r2;rw [←e1] at r3;refine ⟨T9,Uk,_,r3.1,r3.2.1,fun x k1 k2 k3=> ?_⟩;rw [←r3.2.2 x k1 k2 k3];simp only [fC];cases kG x t<;>rfl
theorem K2 {ops:Array Oper} {k:Nat} {o:Oper} {s s':St} (ho:ops[k]? =some o) (hw:iM ops o s=some true) (hst:step P h aV o s=some s') (hall:((iY P h ops o s).fill s s').all=false):
  ∃ev ov m,yE (jx P h aV ops k) s ((iY P h ops o s).fill s s') ev ov m∧EB s ((iY P h ops o s).fill s s'):=by
 have hall:(iY P h ops o s).all=false:=hall;have Vg:(xb P h ops o (qq h o) s).all=false:=by
  simp only [iY,cT.then,Bool.or_false] at hall;exact hall
 obtain ⟨ev,ov,m,r⟩:=Fo (l:=qq h o) hst Vg;have r':fk (step P h aV o) s (iY P h ops o s) ev ov m:=r.imp (fun t ht=>by simp [iY,cT.then,ht]) (fun t ht=>by simp [iY,cT.then,ht]) (fun t ht=>by simp [iY,cT.then,ht]) (fun t=>by simp [iY,cT.then]) (fun t=>by simp [iY,cT.then]) (fun t ht=>by simp [iY,cT.then,ht]) (fun t ht hk=>by simpa [iY,cT.then,ht] using hk);have e:=r'.at hst;refine CT r'.1 (fun x h1 h2 h3=> ?_) fun j hj hk=> ?_
 rotate_left
 ·rw [e,Ul hj];exact r'.2.1 j hj hk
 simp only [jx,ho];rw [qh (st':=s) fun t ht=>h1 t (by simp [iY,cT.then,ht]),hw];simp only;rw [r'.2.2 x h1 h2 h3,e]
 congr 1
 refine St.same (fun t=> ?_) (fun j=> ?_)
 ·simp only [cL]
  by_cases a:t∈(iY P h ops o s).ws
  ·simp only [a,if_true]
  ·simp only [a,if_false]
 ·simp only [cL]
  by_cases a:j∈(iY P h ops o s).wo
  ·simp only [a,if_true]
  ·simp only [a,if_false]
theorem TR {ops:Array Oper}:∀(l:List Oper) (i:Nat) (prev:List (Nat×cT)) (st s:St),(∀k o,l[k]? =some o→ops[i+k]? =some o)→eV P h aV ops i l prev st=some s→
  ∃fs:List (Nat×cT),fs.length=l.length∧(∀j,j∈fs.map (·.1)↔i≤j∧j<i+l.length)∧fs.Pairwise (fun p q=>p.1<q.1)∧CB (jx P h aV ops) fs st s∧
   (∀p∈prev,∀q∈fs,p.2.conflict q.2=true→reach ops 12 q.1 p.1=true)∧fs.Pairwise (fun p q=>p.2.conflict q.2=true→reach ops 12 q.1 p.1=true):=by
 intro l
 induction l with
 |nil=>
  intro i prev st s _ hr;simp only [eV,Option.some.injEq] at hr;exact ⟨[],rfl,by simp, .nil,hr,by simp, .nil⟩
 |cons o l ih=>
  intro i prev st s hal hr;have ho:ops[i]? =some o:=by simpa using hal 0 o (by simp)
  have cont:∀(f:cT) (st1:St),jx P h aV ops i st=some st1→(f.all=false→∃ev ov m,yE (jx P h aV ops i) st f ev ov m∧EB st f)→nt ops prev i f=true→eV P h aV ops (i+1) l ((i,f)::prev) st1=some s→
    ∃fs:List (Nat×cT),fs.length=(o::l).length∧(∀j,j∈fs.map (·.1)↔i≤j∧j<i+(o::l).length)∧fs.Pairwise (fun p q=>p.1<q.1)∧CB (jx P h aV ops) fs st s∧
     (∀p∈prev,∀q∈fs,p.2.conflict q.2=true→reach ops 12 q.1 p.1=true)∧fs.Pairwise (fun p q=>p.2.conflict q.2=true→reach ops 12 q.1 p.1=true):=fun f st1 h1 h2 h3 h4=>by
   obtain ⟨fs,k0,k1,k2,k3,k4,k5⟩:=ih (i+1) ((i,f)::prev) st1 s (fun k o' hk=>by
    have:=hal (k+1) o' (by simpa using hk)
    rwa [show i+(k+1)=i+1+k from by omega] at this) h4
   refine ⟨(i,f)::fs,by simp [k0],fun j=> ?_, .cons (fun q hq=> ?_) k2,⟨st1,h1,h2,k3⟩,fun p hp q hq hc=> ?_, .cons (fun q hq=>k4 (i,f) (by simp) q hq) k5⟩
   ·simp only [List.map_cons,List.mem_cons,k1,List.length_cons];omega
   ·have:=(k1 q.1).1 (List.mem_map.2 ⟨q,hq,rfl⟩)
    show i<q.1;omega
   ·rcases List.mem_cons.1 hq with rfl|hq
    ·have:=List.all_eq_true.1 h3 p hp
     simpa [hc] using this
    ·exact k4 p (by simp [hp]) q hq hc
  simp only [eV] at hr;split at hr
  ·cases hr
  ·rename_i b hw
   cases b with
   |false=>
    simp only [cond_false] at hr;cases hfo:nt ops prev i ((kZ ops o).fill st (st.set o.dst .undef)) with
    |false=>simp [hfo] at hr
    |true=>simp only [hfo,cond_true] at hr;exact cont _ _ (by simp only [jx,ho,hw]) (fun _=>QM ho hw) hfo hr
   |true=>
    simp only [cond_true] at hr;cases hF:(Pv h st o&&(qq h o).isEmpty) with
    |true=>
     have hpe:qq h o=[]:=by simp only [Bool.and_eq_true] at hF;exact List.isEmpty_iff.1 hF.2
     simp only [hF,cond_true] at hr;cases hf:cr P h aV o st with
     |none=>simp [hf] at hr
     |some v=>
      simp only [hf] at hr;cases hc:nt ops prev i ((mw P h ops o st).fill st (st.set o.dst v)) with
      |false=>simp [hc] at hr
      |true=>simp only [hc,cond_true] at hr;exact cont _ _ (by simp only [jx,ho,hw,step,hpe,fC,Option.bind_some,step0,hf]) (fun _=>Pe ho hw hpe hf) hc hr
    |false=>
     simp only [hF,cond_false] at hr;cases hs:step P h aV o st with
     |none=>simp [hs] at hr
     |some st1=>
      simp only [hs] at hr;cases hc:nt ops prev i ((iY P h ops o st).fill st st1) with
      |false=>simp [hc] at hr
      |true=>simp only [hc,cond_true] at hr;exact cont _ _ (by simp only [jx,ho,hw,hs]) (fun ha=>K2 ho hw hs ha) hc hr
theorem KV:∀{l:List Oper} {i:Nat},kC i l=true→∀(p:Nat) (o:Oper),l[p]? =some o→∀e∈o.after.toList,Region.binds .any e=true→e.on<i+p:=by
 intro l
 induction l with
 |nil=>intro i _ p o ho;simp at ho
 |cons x l ih=>
  intro i hs p o ho e he hb;simp only [kC,Bool.and_eq_true] at hs;cases p with
  |zero=>
   simp at ho;subst ho;have:=List.all_eq_true.1 hs.1 e he;simp only [hb,Bool.not_true,Bool.false_or,Nat.blt_eq] at this;omega
  |succ p=>
   simp at ho;have:=ih hs.2 p o ho e he hb;omega
theorem DX {ops:Array Oper} {D:Nat→Prop} (CY:∀j o,D j→ops[j]? =some o→∀e∈o.after.toList,Region.binds .any e=true→D e.on):
  ∀(n i j:Nat),(∀o,ops[i]? =some o→∀e∈o.after.toList,Region.binds .any e=true→D e.on)→reach ops n i j=true→D j:=by
 intro n
 induction n with
 |zero=>intro i j _ h;simp [reach] at h
 |succ n ih=>
  intro i j xm h;simp only [reach] at h;cases ho:ops[i]? with
  |none=>simp [ho] at h
  |some o=>
   simp only [ho,Bool.or_eq_true] at h;rcases h with h|h
   ·simp only [MV,List.any_eq_true,Bool.and_eq_true] at h
    obtain ⟨e,he,hb,hon⟩:=h;have:=xm o ho e he hb
    rwa [beq_iff.1 hon] at this
   ·simp only [List.any_eq_true,Bool.and_eq_true] at h
    obtain ⟨e,he,hb,hr⟩:=h;exact ih e.on j (fun o' ho' e' he' hb'=>CY e.on o' (xm o ho e he hb) ho' e' he' hb') hr
theorem Rel.cA {N:Nat} {w0:World} {μ0:Mu} {L:ku} {μ:Mu} {loc:Nat→Value} {st:St} {a:Act} {w:World} (hR:Rel N w0 μ0 L μ loc st a w) (id:Nat):Rel N w0 μ0 L μ loc (st.cA id) a w:=by
 have qP:∀j o,(st.cA id).ob j=some o→∃o',st.ob j=some o'∧o=o'.cA id:=fun j o ho=>by
  simp only [St.cA] at ho;by_cases e:id=j
  ·subst e;simp [bD] at ho
  ·simp only [aN _ _ e] at ho
   cases h1:st.ob j with
   |none=>simp [h1] at ho
   |some o'=>simp [h1] at ho;exact ⟨o',rfl,ho.symm⟩
 refine { hR with env:=fun i sv he=> ?_,obs:=fun j o ho=> ?_,apart:=fun i j oi oj hi hj=> ?_ }
 ·simp only [St.cA] at he
  cases h1:st.env i with
  |none=>simp [h1] at he
  |some s=>
   simp [h1] at he;subst he;obtain ⟨v,hv,hs⟩:=hR.env i s h1;exact ⟨v,hv,dH hs⟩
 ·obtain ⟨o',ho',rfl⟩:=qP j o ho
  have:=hR.obs j o' ho';cases o' with
  |row e sz xs=>exact this
  |mp k e ks vs=>exact this
  |mr k e s ks vs=>exact this
  |rn e s k e' s' xs ys=>exact this
  |it s n=>exact this
  |box t cells=>
   obtain ⟨b,vs,h1,h2,h3,h4,h5,h6⟩:=this;refine ⟨b,vs,h1,h2,h3,h4,?_,h6⟩;clear h3 h6 ho' ho
   induction cells generalizing vs with
   |nil=>exact h5
   |cons c cs ih=>
    obtain ⟨u,us,rfl,k1,k2⟩:=h5;exact ⟨u,us,rfl,dH k1,ih us k2⟩
 ·obtain ⟨Mf,hi',_⟩:=qP i oi hi
  obtain ⟨Jh,hj',_⟩:=qP j oj hj;exact hR.apart i j Mf Jh hi' hj'
theorem Rel.jX {N:Nat} {w0:World} {μ0:Mu} {L:ku} {μ:Mu} {loc:Nat→Value} {a:Act} {w:World}:∀(l:List Nat) (st:St),Rel N w0 μ0 L μ loc st a w→Rel N w0 μ0 L μ loc (AM.jX l st) a w
 |[],_,hR=>hR
 |p::l,st,hR=>Rel.jX l (st.cA p) (hR.cA p)
end
section
variable {P:Program} {N:Nat} {w0:World} {μ0:Mu} {L:ku} {h:Hint} {aV:cQ} {Q:Exit→Act→World→Prop}
theorem HA (eB:dD L.q μ0 P aV) {ops:Array Oper} {st Wc:St} (SQ:kC 0 ops.toList=true)
  (hrun:eV P h aV ops 0 ops.toList [] (jX (nI ops.toList) st)=some Wc) (hd:∀o∈ops.toList,∀i,o.dst=some i→i<N)
  (hQ:∀a' w' μ' loc',Rel N w0 μ0 L μ' loc' Wc a' w'→Q .normal a' w') {μ:Mu} {loc:Nat→Value} {a:Act} {w:World} (hR:Rel N w0 μ0 L μ loc st a w) {F:Fence} (hF:Wd F):
  wpAnyIn F 0 P .any ops Q ops.size (Array.replicate ops.size false) a w:=by
 obtain ⟨fs0,hl0,hm0,hs0,Uc,_,hp0⟩:=TR ops.toList 0 [] _ _ (fun k o hk=>by simpa using hk) hrun
 let D:Array Bool→Nat→Prop:=fun listed j=>listed.getD j false=true
 have main:∀(fuel:Nat) (listed:Array Bool) (a:Act) (w:World) (μ:Mu) (loc:Nat→Value) (fs:List (Nat×cT)) (x:St),listed.size=ops.size→fs.length≤fuel→
   (∀j o,D listed j→ops[j]? =some o→∀e∈o.after.toList,Region.binds .any e=true→D listed e.on)→
   (∀j,j∈fs.map (·.1)↔j<ops.size∧¬D listed j)→fs.Pairwise (fun p q=>p.1<q.1)→CB (jx P h aV ops) fs x Wc→fs.Pairwise (fun p q=>p.2.conflict q.2=true→reach ops 12 q.1 p.1=true)→Rel N w0 μ0 L μ loc x a w→
   wpAnyIn F 0 P .any ops Q fuel listed a w:=by
  intro fuel
  induction fuel with
  |zero=>
   intro listed a w μ loc fs x hsz hle CY hmem _ Ka _ SK;have HX:fs=[]:=List.eq_nil_of_length_eq_zero (by omega);subst HX;have hx:x=Wc:=Ka;subst hx;refine ⟨?_,hQ _ _ _ _ SK⟩;unfold Region.ready;apply List.filter_eq_nil_iff.2;intro j hj;have hj':j<ops.size:=by simpa using hj
   have hD:D listed j:=Classical.byContradiction fun hn=>by have:=(hmem j).2 ⟨hj',hn⟩;simp at this
   have hlt:j<listed.size:=by omega
   have ht:listed.getD j true=true:=by simpa [D,Array.getD,hlt] using hD
   simp [ht]
  |succ fuel ih=>
   intro listed a w μ loc fs x hsz hle CY hmem hsort Ka Rz SK;have Td:∀i,i∈Region.ready .any ops listed→∃o,ops[i]? =some o∧i<ops.size∧¬D listed i∧∀e∈o.after.toList,Region.binds .any e=true→D listed e.on:=by
    intro i hi;unfold Region.ready at hi;simp only [List.mem_filter,List.mem_range,Bool.and_eq_true,Bool.not_eq_true'] at hi;obtain ⟨hlt,hnl,xm⟩:=hi;have ho:ops[i]? =some (ops[i]'hlt):=Array.getElem?_eq_getElem hlt;refine ⟨_,ho,hlt,?_,?_⟩
    ·have hl':i<listed.size:=by omega
     have:listed[i]=false:=by simpa [Array.getD,hl'] using hnl
     simp [D,Array.getD,hl',this]
    ·intro e he hb
     simp only [ho,Option.map_some,Option.getD_some] at xm;have:=Array.all_eq_true'.1 xm e (by simpa using he);simpa [hb,D] using this
   have Qn:∀i,i<ops.size→∀j,D (listed.setIfInBounds i true) j↔(D listed j∨j=i):=by
    intro i hi j;have hl':i<listed.size:=by omega
    by_cases hj:j<listed.size
    ·by_cases e:i=j
     ·subst e;simp [D,Array.getD,hj]
     ·have e':j≠i:=fun h=>e h.symm
      simp [D,Array.getD,hj,e,e',Array.getElem_setIfInBounds]
    ·have e':j≠i:=fun h=>by subst h;exact hj hl'
     have h1:(listed.setIfInBounds i true).getD j false=false:=by simp [Array.getD,hj]
     have h2:listed.getD j false=false:=by simp [Array.getD,hj]
     simp only [D,h1,h2,e',or_false]
   refine ⟨fun HX=> ?_,fun i hi=> ?_⟩
   ·
    cases fs with
    |nil=>have hx:x=Wc:=Ka;subst hx;exact hQ _ _ _ _ SK
    |cons p fs=>
     exfalso;have hp:=(hmem p.1).1 (by simp);have hlow:∀k,k<p.1→D listed k:=fun k hk=>Classical.byContradiction fun hn=>by
      have:=(hmem k).2 ⟨by omega,hn⟩;simp only [List.map_cons,List.mem_cons] at this;rcases this with e|hk'
      ·omega
      ·obtain ⟨q,hq,rfl⟩:=List.mem_map.1 hk'
       have:=(List.pairwise_cons.1 hsort).1 q hq;omega
     have ho:ops[p.1]? =some (ops[p.1]'hp.1):=Array.getElem?_eq_getElem hp.1;have hs2:=KV SQ p.1 (ops[p.1]'hp.1) (by rw [Array.getElem?_toList];exact ho);have hl':p.1<listed.size:=by omega
     have Rv:p.1∈Region.ready .any ops listed:=by
      unfold Region.ready;simp only [List.mem_filter,List.mem_range,Bool.and_eq_true,Bool.not_eq_true'];refine ⟨hp.1,?_,?_⟩
      ·have:¬(listed[p.1]=true):=by simpa [D,Array.getD,hl'] using hp.2
       simpa [Array.getD,hl'] using this
      ·simp only [ho,Option.map_some,Option.getD_some]
       apply Array.all_eq_true'.2;intro e he;cases hb:Region.binds .any e with
       |false=>rfl
       |true=>
        have:=hlow e.on (by simpa using hs2 e (by simpa using he) hb);simpa [D] using this
     rw [HX] at Rv;cases Rv
   ·obtain ⟨o,ho,hlt,hnD,xm⟩:=Td i hi
    obtain ⟨p,hpm,hpe⟩:=List.mem_map.1 ((hmem i).2 ⟨hlt,hnD⟩);obtain ⟨pre,post,rfl⟩:=List.append_of_mem hpm;subst hpe;have hpre:∀q∈pre,q.2.conflict p.2=false:=fun q hq=>by
     cases hc:q.2.conflict p.2 with
     |false=>rfl
     |true=>
      have hr:=(List.pairwise_append.1 Rz).2.2 q hq p (by simp) hc;have:=DX CY 12 p.1 q.1 (fun o' ho'=>by rw [ho] at ho';injection ho' with ho';subst ho';exact xm) hr;exact absurd this ((hmem q.1).1 (by simp only [List.map_append,List.mem_append];exact .inl (List.mem_map.2 ⟨q,hq,rfl⟩))).2
    obtain ⟨s1,hs1,Te,_⟩:=CB.front (i:=p.1) (f:=p.2) pre x Ka hpre;have hnext:∀a' w' μ' loc',Rel N w0 μ0 L μ' loc' s1 a' w'→wpAnyIn F 0 P .any ops Q fuel (listed.setIfInBounds p.1 true) a' w':=fun a' w' μ' loc' qN=>by
     have hnp:∀q∈pre++post,q.1≠p.1:=fun q hq e=>by
      rcases List.mem_append.1 hq with h1|h1
      ·have:=(List.pairwise_append.1 hsort).2.2 q h1 p (by simp);omega
      ·have:=(List.pairwise_cons.1 (List.pairwise_append.1 hsort).2.1).1 q h1;omega
     refine ih _ a' w' μ' loc' (pre++post) s1 (by simp [hsz]) (by simp at hle⊢;omega) (fun j oj hj Nz e he hb=> ?_) (fun j=> ?_) (hsort.sublist (by simp)) Te (Rz.sublist (by simp)) qN
     ·rw [Qn _ hlt] at hj⊢
      rcases hj with hj|rfl
      ·exact .inl (CY j oj hj Nz e he hb)
      ·rw [ho] at Nz;injection Nz with Nz;subst Nz
       exact .inl (xm e he hb)
     ·rw [Qn _ hlt]
      have:=hmem j;simp only [List.map_append,List.map_cons,List.mem_append,List.mem_cons] at this⊢;constructor
      ·intro hj
       obtain ⟨k1,k2⟩:=this.1 (hj.elim .inl fun h=> .inr (.inr h));refine ⟨k1,fun h=>h.elim k2 fun e=> ?_⟩;subst e;rcases hj with hj|hj<;>obtain ⟨q,hq,e⟩:=List.mem_map.1 hj
       ·exact hnp q (by simp [hq]) e
       ·exact hnp q (by simp [hq]) e
      ·rintro ⟨k1,k2⟩
       rcases this.2 ⟨k1,fun h=>k2 (.inl h)⟩ with h1|h1|h1
       ·exact .inl h1
       ·exact absurd (.inr h1) k2
       ·exact .inr h1
    have hdo:∀t,o.dst=some t→t<N:=hd o (by
     have:=List.mem_of_getElem? (show ops.toList[p.1]? =some o by simpa using ho);exact this)
    unfold wpOpIn;simp only [ho];simp only [jx,ho] at hs1;split at hs1
    ·rename_i hw
     rw [qi SK hw];simp only [if_true];exact Aj SK eB hdo hs1 hnext F hF
    ·rename_i hw
     injection hs1 with hs1;subst hs1
     rw [qi SK hw];simp only [Bool.false_eq_true,if_false];exact ⟨fun f _=>hF.fn f,hnext _ _ _ _ (SK.set hdo (show cH μ loc .undef undef from rfl))⟩
    ·cases hs1
 have hnone:∀j,¬D (Array.replicate ops.size false) j:=fun j=>by
  by_cases hj:j<ops.size<;>simp [D,Array.getD,hj]
 refine main ops.size _ a w μ loc fs0 _ (by simp) (by simp [hl0]) (fun j o hj=>absurd hj (hnone j)) (fun j=> ?_) hs0 Uc hp0 (Rel.jX _ _ hR)
 ·rw [hm0]
  simp only [Array.length_toList];exact ⟨fun hj=>⟨by omega,hnone j⟩,fun hj=>⟨by omega,by omega⟩⟩
end
end Go.AM
