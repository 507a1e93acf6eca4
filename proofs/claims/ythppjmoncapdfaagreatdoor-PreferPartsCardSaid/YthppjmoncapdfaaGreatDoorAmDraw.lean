/- THE ABSTRACT MACHINE. -/
import Derived.Test.YthppjmoncapdfaaGreatDoorAmRun
set_option linter.unusedVariables false
set_option linter.unusedSimpArgs false
namespace Go.AM
open Go.RowKit
section
variable {P:Program} {h:Hint} {aZ:cL}
theorem gv {st st':St} {x:Operand} (hx:∀t,x= .tmp t→st.env t=st'.env t) (ty:TypeId):aR P ty st x=aR P ty st' x:=by
 cases x with
 |tmp t=>exact hx t rfl
 |_=>rfl
def FE (P:Program) (st st':St) (x:Operand):Prop:=∀ty sv,aR P ty st x=some sv→∀id∈sv.ids,st.ob id=st'.ob id
theorem qL {st st':St} {v:SV} (hv:∀id∈v.ids,st.ob id=st'.ob id):elems st v=elems st' v:=by
 cases v with
 |sub id s lo hi=>simp only [elems,hv id (by simp [SV.ids])]
 |row id=>simp only [elems,hv id (by simp [SV.ids])]
 |pv x=>cases x<;>rfl
 |_=>rfl
theorem J6 {st st':St} {v:SV} (hv:∀id∈v.ids,st.ob id=st'.ob id):lenOf st v=lenOf st' v:=by
 cases v with
 |row id=>simp only [lenOf,hv id (by simp [SV.ids])]
 |pv x=>cases x<;>rfl
 |_=>rfl
theorem Dd {st st':St} {v:SV} (hv:∀id∈v.ids,st.ob id=st'.ob id):maps st v=maps st' v:=by
 cases v with
 |row id=>simp only [maps,hv id (by simp [SV.ids])]
 |pv x=>cases x<;>rfl
 |_=>rfl
theorem MQ {st st':St} {v:SV} (hv:∀id∈v.ids,st.ob id=st'.ob id):ic st v=ic st' v:=by
 cases v with
 |row id=>simp only [ic,hv id (by simp [SV.ids])]
 |ag cs=>
  have key:∀cs:List jJ,(∀id∈(SV.ag cs).ids,st.ob id=st'.ob id)→fJ st cs=fJ st' cs:=by
   intro cs
   induction cs with
   |nil=>intro _;rfl
   |cons c cs ih=>
    intro h
    have WQ:=ih fun id hi=>h id (by
     cases c<;>simp only [SV.ids,List.filterMap_cons] at hi⊢<;>simp [hi])
    cases c with
    |v a=>simp only [fJ,WQ]
    |r j=>simp only [fJ,WQ,h j (by simp [SV.ids])]
    |p j=>rfl
  simp only [ic,key cs hv]
 | «at» id q=>cases q with
  |full=>rfl
  |nr i=>simp only [ic,hv id (by simp [SV.ids])]
 |_=>rfl
theorem Eu {st st':St} {xs:List Operand} {ts:List TypeId} (cu:∀x∈xs,FE P st st' x) (hx:∀x∈xs,∀ty,aR P ty st x=aR P ty st' x):fq P st xs ts=fq P st' xs ts:=by
 induction xs generalizing ts with
 |nil=>rfl
 |cons x xs ih=>
  have hl:(aR P (ts.headD 0) st x).bind (ic st)=(aR P (ts.headD 0) st' x).bind (ic st'):=by
   rw [←hx x (by simp)];cases ho:aR P (ts.headD 0) st x with
   |none=>rfl
   |some sv=>exact MQ (cu x (by simp) _ sv ho)
  simp only [fq];rw [hl,ih (fun y hy=>cu y (by simp [hy])) (fun y hy=>hx y (by simp [hy]))]
theorem uJ {st st':St} {b:Bool}:∀{xs:List Operand} {ts:List TypeId},(∀x∈xs,∀ty,aR P ty st x=aR P ty st' x)→mh P b st xs ts=mh P b st' xs ts
 |[],_,_=>rfl
 |x::xs,ts,hx=>by
  simp only [mh,Hl];rw [hx x (by simp),uJ (fun y hy=>hx y (by simp [hy]))]
theorem nD {st st':St} {ty:Nat→TypeId} {l:List (Nat×Operand)} (hx:∀x∈l.map (·.2),∀t,aR P t st x=aR P t st' x):partsOf P ty st l=partsOf P ty st' l:=by
 induction l with
 |nil=>rfl
 |cons p l ih=>
  obtain ⟨i,x⟩:=p;simp only [partsOf];rw [hx x (by simp),ih (fun y hy=>hx y (by simp only [List.map_cons,List.mem_cons];exact .inr hy))]
theorem tO {st st':St} {b:Bool} {acc:AV} {l:List Operand} (hx:∀x∈l,∀t,aR P t st x=aR P t st' x):fh P st b acc l=fh P st' b acc l:=by
 induction l generalizing acc with
 |nil=>rfl
 |cons x l ih=>
  simp only [fh];rw [hx x (by simp)];cases (aR P 0 st' x).bind eR with
  |none=>rfl
  |some v=>
   simp only;cases MV b acc v with
   |none=>rfl
   |some r=>exact ih (fun y hy=>hx y (by simp [hy]))
theorem Km {st st':St} {c:Call} (cu:∀x∈c.args.toList,FE P st st' x) (hx:∀x∈c.args.toList,∀ty,aR P ty st x=aR P ty st' x):sd P c st=sd P c st':=by
 obtain ⟨ZR,⟨args⟩,tys⟩:=c;unfold sd;simp only at hx cu⊢;split
 ·rename_i x
  have hxx:=hx x (by simp);have AB:=cu x (by simp);split
  ·rename_i t _
   rw [←hxx t];cases ho:aR P t st x with
   |none=>
    rcases P.underlying t with _|d
    ·rfl
    ·cases d<;>rfl
   |some sv=>
    have:=J6 (AB t sv ho);have this2:=Dd (AB t sv ho);rcases P.underlying t with _|d
    ·rfl
    ·cases d<;>first
      |rfl
      |(show Option.map _ (maps st sv)=Option.map _ (maps st' sv);rw [this2])
      |(cases sv with
        |pv v=>cases v<;>rfl
        |_=>rfl)
      |(cases sv with
        |sub id sz lo hi=>rfl
        |undef=>show Option.map _ (lenOf st _)=Option.map _ (lenOf st' _);rw [this]
        |any=>show Option.map _ (lenOf st _)=Option.map _ (lenOf st' _);rw [this]
        |pv v=>cases v with
         |lE=>rfl
         |_=>show Option.map _ (lenOf st _)=Option.map _ (lenOf st' _);rw [this]
        |ptr id off=>show Option.map _ (lenOf st _)=Option.map _ (lenOf st' _);rw [this]
        |row id=>show Option.map _ (lenOf st _)=Option.map _ (lenOf st' _);rw [this]
        |rp id sz i off=>show Option.map _ (lenOf st _)=Option.map _ (lenOf st' _);rw [this]
        |cp cs=>show Option.map _ (lenOf st _)=Option.map _ (lenOf st' _);rw [this]
        |cl f caps=>show Option.map _ (lenOf st _)=Option.map _ (lenOf st' _);rw [this]
        |ag caps=>show Option.map _ (lenOf st _)=Option.map _ (lenOf st' _);rw [this]
        | «at» id q=>show Option.map _ (lenOf st _)=Option.map _ (lenOf st' _);rw [this]
        |two s b=>show Option.map _ (lenOf st _)=Option.map _ (lenOf st' _);rw [this])
  ·rfl
 ·rename_i x l
  have hm:∀b acc,fh P st b acc l=fh P st' b acc l:=fun b acc=>tO (fun y hy=>hx y (by simp [hy]))
  rw [hx x (by simp)];simp only [hm]
 ·rename_i x l
  have hm:∀b acc,fh P st b acc l=fh P st' b acc l:=fun b acc=>tO (fun y hy=>hx y (by simp [hy]))
  rw [hx x (by simp)];simp only [hm]
 ·rfl
theorem vR {st st':St} {x:Option Operand} (hx:∀y,x=some y→∀ty,aR P ty st y=aR P ty st' y):gK P st x=gK P st' x:=by
 cases x with
 |none=>rfl
 |some y=>simp [gK,hx y rfl]
theorem M8 {st st':St} {o:Oper} (cu:Fc o.op=false→∀x∈o.op.operands.toList,FE P st st' x) (hop:∀x∈o.op.operands.toList,∀ty,aR P ty st x=aR P ty st' x):c7 P o st=c7 P o st':=by
 obtain ⟨dst,op,type,pos,after,guard⟩:=o;simp only at hop;cases op with
 |move x=>have hx:=hop x (by simp [Op.operands]);simp [c7,hx]
 |assign x=>have hx:=hop x (by simp [Op.operands]);simp [c7,hx]
 |pick c a b=>have hx:=hop c (by simp [Op.operands]);have hy:=hop a (by simp [Op.operands]);have hz:=hop b (by simp [Op.operands]);simp [c7,hx,hy,hz]
 |binOp op t x y t'=>have hx:=hop x (by simp [Op.operands]);have hy:=hop y (by simp [Op.operands]);simp [c7,hx,hy]
 |unOp op t x=>have hx:=hop x (by simp [Op.operands]);simp [c7,hx]
 |convert s d x=>
  have hx:=hop x (by simp [Op.operands]);have ho:=cu rfl x (by simp [Op.operands]) s;have he:(aR P s st x).bind (elems st)=(aR P s st' x).bind (elems st'):=by
   rw [←hx s];cases hv:aR P s st x with
   |none=>rfl
   |some sv=>exact qL (ho _ hv)
  simp only [c7,hx 0,he]
 |nilCheck x=>have hx:=hop x (by simp [Op.operands]);simp only [c7,hx]
 |fieldAddr t x f=>have hx:=hop x (by simp [Op.operands]);simp [c7,hx]
 |field t x f=>have hx:=hop x (by simp [Op.operands]);simp [c7,hx]
 |indexAddr t x i=>
  have hx:=hop x (by simp [Op.operands]);have hy:=hop i (by simp [Op.operands]);have ho:=cu rfl x (by simp [Op.operands]) t;have xx:rP P st t x i=rP P st' t x i:=by
   unfold rP;rw [←hx t,←hy 0];cases hv:aR P t st x with
   |none=>rcases isSlice P t with _|⟨e,s⟩<;>simp only []
   |some sv=>
    have WM:=ho _ hv;clear hv;rcases isSlice P t with _|⟨e,s⟩
    ·simp only []
    ·cases sv with
     |row id=>
      rcases aR P 0 st i with _|b
      ·rfl
      ·cases b with
       |pv v=>cases v<;>first|rfl|(simp only [WM id (by simp [SV.ids])])
       |_=>rfl
     |pv v=>cases v<;>first|rfl|(rcases aR P 0 st i with _|b<;>first|rfl|(cases b<;>first|rfl|(rename_i q;cases q<;>rfl)))
     |_=>first|rfl|(rcases aR P 0 st i with _|b<;>first|rfl|(cases b<;>first|rfl|(rename_i q;cases q<;>rfl)))
  have har:∀n e,sM P st n e x i=sM P st' n e x i:=fun n e=>by simp only [sM,hx 0,hy 0]
  simp only [c7,xx,har]
 |index t x i=>have hx:=hop x (by simp [Op.operands]);have hy:=hop i (by simp [Op.operands]);simp [c7,hx,hy]
 |load t x=>
  have hx:=hop x (by simp [Op.operands]);have ho:=cu rfl x (by simp [Op.operands]) 0;simp only [c7];rw [←hx 0];cases hv:aR P 0 st x with
  |none=>rfl
  |some sv=>
   have WM:=ho _ hv;clear hv;cases sv with
   |ptr id off=>simp only [WM id (by simp [SV.ids])]
   |rp id sz i off=>simp only [WM id (by simp [SV.ids])]
   |pv v=>cases v<;>rfl
   |_=>rfl
 |lookup t x k ok=>
  have hx:=hop x (by simp [Op.operands]);have hk:=hop k (by simp [Op.operands]);have ho:=cu rfl x (by simp [Op.operands]) t;have hm:(aR P t st x).bind (maps st)=(aR P t st' x).bind (maps st'):=by
   rw [←hx t];cases hv:aR P t st x with
   |none=>rfl
   |some sv=>exact Dd (ho _ hv)
  have hkr:(aR P t st x).bind (AF st)=(aR P t st' x).bind (AF st'):=by
   rw [←hx t];cases hv:aR P t st x with
   |none=>rfl
   |some sv=>
    have:=ho _ hv;cases sv with
    |row id=>simp only [Option.bind_some,AF];rw [this id (by simp [SV.ids])]
    |_=>rfl
  simp only [c7,hm,hk,hkr]
 |extract x i=>have hx:=hop x (by simp [Op.operands]);simp [c7,hx]
 |slice t x lo hi mx=>
  cases mx with
  |some m=>
   simp only [c7,N6];cases lo with
   |some l=>rfl
   |none=>
    cases hi with
    |none=>rfl
    |some y=>
     have hx:=hop x (by simp [Op.operands]);have hy:=hop y (by simp [Op.operands]);have hm:=hop m (by simp [Op.operands]);have ho:=cu rfl x (by simp [Op.operands]) t;simp only;rw [←hy 0,←hm 0,←hx t];cases hv:aR P t st x with
     |none=>rfl
     |some sv=>
      have WM:=ho _ hv;cases sv with
      |row id=>simp only [WM id (by simp [SV.ids])]
      |_=>rfl
  |none=>
   have hx:=hop x (by simp [Op.operands]);have hl:=vR (P:=P) (st:=st) (st':=st') (x:=lo) (fun y e=>by subst e;exact hop y (by simp [Op.operands]));have hh:=vR (P:=P) (st:=st) (st':=st') (x:=hi) (fun y e=>by subst e;exact hop y (by cases lo<;>simp [Op.operands]));have ho:=cu rfl x (by simp [Op.operands]) t;simp only [c7];rw [←hx t,hl,hh];cases hv:aR P t st x with
   |none=>rcases P.underlying t with _|d<;>first|rfl|(cases d<;>rfl)
   |some sv=>
    have WM:=ho _ hv;clear hv;rcases P.underlying t with _|d
    ·rfl
    ·cases d<;>first
      |rfl
      |(rcases gK P st' lo with _|l
        ·cases sv with
         |pv v=>cases v<;>rfl
         |_=>rfl
        ·rcases gK P st' hi with _|l2
         ·cases sv with
          |pv v=>cases v<;>rfl
          |_=>rfl
         ·cases sv with
          |row id=>simp only [WM id (by simp [SV.ids])]
          |pv v=>cases v<;>rfl
          |_=>rfl)
 |build t parts=>
  have hp:∀ty,partsOf P ty st parts.toList=partsOf P ty st' parts.toList:=fun ty=>nD (fun x hx=>hop x (by simpa [Op.operands] using hx))
  simp [c7,sD,hp]
 |call c=>
  have hin:∀x∈c.args.toList,x∈(Op.call c).operands.toList:=fun x hx=>by
   simp only [Op.operands,Call.operands,Array.toList_append,List.mem_append];exact .inr hx
  have:=Km (P:=P) (st:=st) (st':=st') (c:=c) (fun x hx=>cu rfl x (hin x hx)) (fun x hx=>hop x (hin x hx));simp [c7,this]
 |_=>simp [c7]
theorem pJ {st:St}:∀{l:List Operand} {x:Operand} {ty:TypeId} {sv:SV} {id:Nat},x∈l→aR P ty st x=some sv→id∈sv.ids→id∈CL st l:=by
 intro l
 induction l with
 |nil=>intro x ty sv id hx;simp at hx
 |cons y l ih=>
  intro x ty sv id hx ho hid;rcases List.mem_cons.1 hx with rfl|hx
  ·cases x with
   |tmp t=>
    simp only [aR] at ho;simp only [CL,ho,List.mem_append];exact .inl hid
   |const v=>
    simp only [aR] at ho;cases hc:ofConst P ty v with
    |none=>simp [hc] at ho
    |some y=>simp [hc] at ho;subst ho;simp [SV.ids] at hid
   |func f=>simp [aR] at ho;subst ho;simp [SV.ids] at hid
   |global g=>simp [aR] at ho
  ·have:=ih hx ho hid
   cases y with
   |tmp t=>simp only [CL,List.mem_append];exact .inr this
   |_=>simpa [CL] using this
theorem q9 (st:St):∀(n:Nat) (todo done:List Nat),∀id∈done,id∈eW st n todo done
 |0,todo,done,id,h=>by simpa [eW] using h
 |n+1,[],done,id,h=>by simpa [eW] using h
 |n+1,x::todo,done,id,h=>by
  simp only [eW];cases done.contains x with
  |true=>exact q9 st n todo done id h
  |false=>exact q9 st n _ _ id (by simp [h])
theorem lK {st st':St}:∀(n:Nat) (todo done:List Nat),(∀id∈eW st n todo done,st.ob id=st'.ob id)→eW st n todo done=eW st' n todo done
 |0,todo,done,h=>by simp [eW]
 |n+1,[],done,h=>by simp [eW]
 |n+1,x::todo,done,h=>by
  simp only [eW] at h⊢;cases hc:done.contains x with
  |true=>rw [hc] at h;exact lK n todo done h
  |false=>
   rw [hc] at h;simp only [cond_false] at h⊢;have hx:st.ob x=st'.ob x:=h x (q9 st n _ _ x (by simp));have hi:Bt st x=Bt st' x:=by simp only [Bt,hx]
   rw [←hi];exact lK n _ _ h
theorem ri {st st':St} {ids:List Nat} {ρ:Nat→Nat}:∀{l:List (Nat×Nat)},(∀p∈l,st.ob p.1=st'.ob p.1)→gJ st ids ρ l=gJ st' ids ρ l
 |[],_=>rfl
 |p::l,h=>by
  obtain ⟨id,nm⟩:=p;simp only [gJ];rw [h (id,nm) (by simp),ri (fun q hq=>h q (by simp [hq]))]
theorem sC {st st':St}:∀{xs:List Operand} {ts:List TypeId},(∀x∈xs,∀ty,aR P ty st x=aR P ty st' x)→og P h st xs ts=og P h st' xs ts
 |[],ts,_=>rfl
 |x::xs,ts,hx=>by
  simp only [og,Rt];rw [hx x (by simp),sC (fun y hy=>hx y (by simp [hy]))]
theorem FP {st st':St} {c:Call} {f:Operand} (hf:aR P 0 st f=aR P 0 st' f) (ha:∀x∈c.args.toList,∀ty,aR P ty st x=aR P ty st' x)
  (uq:∀g args,ox P h st c f=some (g,args)→∀id∈fo st args,st.ob id=st'.ob id):mJ P h aZ st c f=mJ P h aZ st' c f:=by
 have e1:ox P h st c f=ox P h st' c f:=by
  unfold ox;rw [hf,sC ha]
 unfold mJ;rw [←e1];cases hr:ox P h st c f with
 |none=>rfl
 |some p=>
  obtain ⟨g,args⟩:=p;simp only;have hi:=uq g args hr;have e2:fo st args=fo st' args:=lK 200 _ _ hi;rw [←e2];have e3:gJ st (fo st args) (kJ (eY (fo st args))) (eY (fo st args))=gJ st' (fo st args) (kJ (eY (fo st args))) (eY (fo st args)):=
   ri (fun p hp=>hi p.1 (by
    have:p.1∈(eY (fo st args)).map (·.1):=List.mem_map.2 ⟨p,hp,rfl⟩
    rwa [show (eY (fo st args)).map (·.1)=fo st args from nU _ _ _] at this))
  rw [e3]
theorem LR {st st':St} {o:Oper} (uq:Fc o.op=false→∀id∈vQ st o,st.ob id=st'.ob id) (hro:∀id∈Dx P h o st,st.ob id=st'.ob id) (Bh:∀t∈slotsOf o,st.env t=st'.env t):cI P h aZ o st=cI P h aZ o st':=by
 have cu:Fc o.op=false→∀x∈o.op.operands.toList,FE P st st' x:=fun hn x hx ty sv ho id hid=>uq hn id (pJ hx ho hid)
 have hop:∀x∈o.op.operands.toList,∀ty,aR P ty st x=aR P ty st' x:=fun x hx ty=>gv (fun t e=>Bh t (by
  subst e
  exact List.mem_filterMap.2 ⟨.tmp t,hx,rfl⟩)) ty
 have hpv:=M8 (P:=P) (o:=o) cu hop;obtain ⟨dst,op,type,pos,after,guard⟩:=o;simp only at hop;cases op with
 |buildSlice t len parts=>
  have hp:∀ty,partsOf P ty st parts.toList=partsOf P ty st' parts.toList:=fun ty=>nD (fun x hx=>hop x (by simpa [Op.operands] using hx))
  simp [cI,gr,hp]
 |call c=>
  obtain ⟨ZR,⟨args⟩,⟨tys⟩⟩:=c;cases ZR with
  |value f=>
   have hargs:∀x∈args,x∈(Op.call { callee:=Callee.value f,args:=⟨args⟩,argTypes:=⟨tys⟩ }).operands.toList:=fun x hx=>by
    simp only [Op.operands,Call.operands,Array.toList_append,List.mem_append];exact .inr hx
   have hf:=hop f (by simp [Op.operands,Call.operands]);have ha:=Eu (P:=P) (st:=st) (st':=st') (xs:=args) (ts:=tys) (fun x hx=>cu rfl x (hargs x hx)) (fun x hx=>hop x (hargs x hx));have hr:args.any (gx st)=args.any (gx st'):=by
    have key:∀x∈args,gx st x=gx st' x:=fun x hx=>by
     cases x with
     |tmp t=>
      have:=hop (.tmp t) (hargs _ hx) 0;simp only [aR] at this;simp [gx,this]
     |_=>rfl
    clear ha hargs hop hpv Bh cu uq hro
    induction args with
    |nil=>rfl
    |cons x xs ih=>simp only [List.any_cons];rw [key x (by simp),ih (fun y hy=>key y (by simp [hy]))]
   have ia:args.any (fun x=>(jD h st x).isSome)=args.any (fun x=>(jD h st' x).isSome):=by
    have key:∀x∈args,jD h st x=jD h st' x:=fun x hx=>by
     cases x with
     |tmp t=>
      have:=hop (.tmp t) (hargs _ hx) 0;simp only [aR] at this;simp [jD,this]
     |_=>rfl
    clear ha hargs hop hpv Bh hr cu uq hro
    induction args with
    |nil=>rfl
    |cons x xs ih=>simp only [List.any_cons];rw [key x (by simp),ih (fun y hy=>key y (by simp [hy]))]
   have hwide:wide st { callee:=Callee.value f,args:=⟨args⟩,argTypes:=⟨tys⟩ } f=wide st' { callee:=Callee.value f,args:=⟨args⟩,argTypes:=⟨tys⟩ } f:=by
    have kf:L7 st f=L7 st' f:=by
     cases f with
     |tmp t=>
      have:=hf 0;simp only [aR] at this;simp [L7,this]
     |_=>rfl
    have key:∀x∈args,x6 st x=x6 st' x:=fun x hx=>by
     cases x with
     |tmp t=>
      have:=hop (.tmp t) (hargs _ hx) 0;simp only [aR] at this;simp [x6,this]
     |_=>rfl
    have kk:args.any (x6 st)=args.any (x6 st'):=by
     clear ha hargs hop hpv Bh hr cu uq ia hro
     induction args with
     |nil=>rfl
     |cons x xs ih=>simp only [List.any_cons];rw [key x (by simp),ih (fun y hy=>key y (by simp [hy]))]
    simp only [wide,kf,kk]
   cases how:dst.any h.owns.contains with
   |true=>simp [cI,how]
   |false=>
   cases hst:dst.any h.stay.contains with
   |false=>simp [cI,hf,ha,hr,ia,hwide,hst,how]
   |true=>
    have hc:=FP (P:=P) (h:=h) (aZ:=aZ) (st:=st) (st':=st') (c:={ callee:=Callee.value f,args:=⟨args⟩,argTypes:=⟨tys⟩ }) (f:=f) (hf 0) (fun x hx=>hop x (hargs x hx)) (fun g as hg id hid=>hro id (by
     simp only [Dx,hg,hst,cond_true];exact hid))
    simp [cI,hf,ha,hr,ia,hwide,hst,hc,how]
  |_=>simpa [cI,c7] using hpv
 |makeFunc f first caps=>
  cases f with
  |func g=>
   have hc:oh st caps.toList=oh st' caps.toList:=by
    have key:∀x∈caps.toList,∀ty,aR P ty st x=aR P ty st' x:=fun x hx=>hop x (by simp only [Op.operands,Array.toList_append,List.mem_append];exact .inr hx)
    clear hop hpv Bh cu uq;generalize caps.toList=l at key
    induction l with
    |nil=>rfl
    |cons x xs ih=>
     cases x with
     |tmp t=>
      have:=key (.tmp t) (by simp) 0;simp only [aR] at this;simp only [oh];rw [this,ih (fun y hy=>key y (by simp [hy]))]
     |_=>rfl
   have CD:kU st caps.toList=kU st' caps.toList:=by
    have key:∀x∈caps.toList,∀ty,aR P ty st x=aR P ty st' x:=fun x hx=>hop x (by simp only [Op.operands,Array.toList_append,List.mem_append];exact .inr hx)
    clear hop hpv Bh cu uq hc;generalize caps.toList=l at key
    induction l with
    |nil=>rfl
    |cons x xs ih=>
     cases x with
     |tmp t=>
      have:=key (.tmp t) (by simp) 0;simp only [aR] at this;simp only [kU];rw [this,ih (fun y hy=>key y (by simp [hy]))]
     |_=>rfl
   have hc3:kU st first.toList=kU st' first.toList:=by
    have key:∀x∈first.toList,∀ty,aR P ty st x=aR P ty st' x:=fun x hx=>hop x (by simp only [Op.operands,Array.toList_append,List.mem_append];exact .inl hx)
    clear hop hpv Bh cu uq hc CD;generalize first.toList=l at key
    induction l with
    |nil=>rfl
    |cons x xs ih=>
     cases x with
     |tmp t=>
      have:=key (.tmp t) (by simp) 0;simp only [aR] at this;simp only [kU];rw [this,ih (fun y hy=>key y (by simp [hy]))]
     |_=>rfl
   simp [cI,hc,CD,hc3]
  |_=>simpa [cI] using hpv
 |assign x=>simp only [cI,hpv]
 |lookup t x k ok=>simp only [cI,hpv]
 |build t ps=>
  have hp:∀ty,partsOf P ty st ps.toList=partsOf P ty st' ps.toList:=fun ty=>nD (fun x hx=>hop x (by simpa [Op.operands] using hx))
  simp only [cI,sD,hp]
 |load t x=>simp only [cI,hpv]
 |_=>simpa [cI] using hpv
theorem tI {st st':St} {ops:Array Oper} {o:Oper} (Bh:∀t∈dX ops o,st.env t=st'.env t):j6 ops o st=j6 ops o st':=by
 unfold j6;cases hg:o.guard with
 |none=>rfl
 |some p=>
  obtain ⟨j,want⟩:=p;simp only;cases hd:(ops[j]?).bind (·.dst) with
  |none=>rfl
  |some d=>simp only;rw [Bh d (by simp [dX,hg,hd])]
theorem PY {a b:List Nat} {x:Nat} (ha:x∈a) (hb:x∈b):meets a b=true:=by
 simp only [meets,List.any_eq_true];exact ⟨x,ha,x,hb,Nat.beq_refl x⟩
theorem EE {t:TypeId} {s s':St} {sa sv:SV} {id:Nat} (hst:storeAt P t s sa sv=some s') (ht:targetId sa=some id):
  s'.env=s.env∧(∀j,j≠id→s'.ob j=s.ob j)∧∀x:St,x.ob id=s.ob id→(∀j∈sv.ids,x.ob j=s.ob j)→storeAt P t x sa sv=some { x with ob:=put x.ob id (s'.ob id) }:=by
 have hone:∀x:St,(∀j∈sv.ids,x.ob j=s.ob j)→mc x sv=mc s sv:=fun x hx=>by
  cases sv with
  |row j=>simp only [mc];rw [hx j (by simp [SV.ids])]
  |pv v=>cases v<;>rfl
  |_=>rfl
 cases sa with
 |ptr i off=>
  simp only [targetId,Option.some.injEq] at ht;subst ht;simp only [storeAt] at hst;split at hst
  ·rename_i bt cells n cu hsz
   split at hst
   ·rename_i cs
    split at hst
    ·rename_i hc
     injection hst with hst;subst hst
     refine ⟨rfl,fun j hj=>aQ _ _ (fun e=>hj e.symm),fun x hx _=> ?_⟩;simp only [storeAt,hx,cu,hsz,hc,bH];simp
    ·cases hst
   ·rename_i cs
    split at hst
    ·rename_i hc
     injection hst with hst;subst hst
     refine ⟨rfl,fun j hj=>aQ _ _ (fun e=>hj e.symm),fun x hx _=> ?_⟩;simp only [storeAt,hx,cu,hsz,hc,bH];simp
    ·cases hst
   ·rename_i hno1 hno
    split at hst
    ·rename_i hc
     injection hst with hst;subst hst
     refine ⟨rfl,fun j hj=>aQ _ _ (fun e=>hj e.symm),fun x hx hxs=> ?_⟩;have h1:=hone x hxs;simp only [storeAt,hx,cu,hsz,bH];cases sv with
     |pv v=>
      cases v with
      |agg cs=>exact absurd rfl (hno cs)
      |_=>simp only [h1,hc,and_self,if_true]
     |ag cs=>exact absurd rfl (hno1 cs)
     |_=>simp only [h1,hc,and_self,if_true]
    ·cases hst
  ·cases hst
 |rp i sz k off=>
  simp only [targetId,Option.some.injEq] at ht;subst ht;simp only [storeAt] at hst;split at hst
  ·rename_i e sz' xs n v cu hsz
   split at hst
   ·rename_i c hc
    split at hst
    ·rename_i dc
     injection hst with hst;subst hst
     refine ⟨rfl,fun j hj=>aQ _ _ (fun e=>hj e.symm),fun x hx _=> ?_⟩;simp only [storeAt,hx,cu,hsz,hc,bH];rw [if_pos dc]
    ·cases hst
   ·cases hst
  ·cases hst
 |_=>simp [targetId] at ht
theorem FK {l:List Nat} {p:Nat→Bool} {x:Nat} (hx:x∈l) (hp:p x=true):l.any p=true:=List.any_eq_true.2 ⟨x,hx,hp⟩
theorem s6 {id:Nat} {v:SV} (h:v.mentions id=true):id∈v.ids:=by
 have caps:∀cs:List jJ,cs.any (jJ.mentions id)=true→id∈cs.filterMap (fun
  | .p j| .r j=>some j
  | .v _=>none):=fun cs hc=>by
  obtain ⟨c,hc1,CD⟩:=List.any_eq_true.1 hc;refine List.mem_filterMap.2 ⟨c,hc1,?_⟩;cases c with
  |v a=>simp [jJ.mentions] at CD
  |p j=>rw [←beq_iff.1 CD]
  |r j=>rw [←beq_iff.1 CD]
 induction v with
 |two s b ih=>exact ih h
 |ptr j off=>simp only [SV.ids,List.mem_singleton];exact (beq_iff.1 h).symm
 |row j=>simp only [SV.ids,List.mem_singleton];exact (beq_iff.1 h).symm
 |rp j sz i off=>simp only [SV.ids,List.mem_singleton];exact (beq_iff.1 h).symm
 |sub j sz lo hi=>simp only [SV.ids,List.mem_singleton];exact (beq_iff.1 h).symm
 |cl f cs=>exact caps cs h
 |ag cs=>exact caps cs h
 | «at» j q=>
  simp only [SV.mentions,Bool.or_eq_true] at h;simp only [SV.ids,List.mem_cons,List.not_mem_nil,or_false];rcases h with h|h
  ·exact .inl (beq_iff.1 h).symm
  ·exact .inr (beq_iff.1 h).symm
 |_=>simp [SV.mentions] at h
theorem St.same {x y:St} (h1:∀t,x.env t=y.env t) (h2:∀t,x.ob t=y.ob t):x=y:=by
 obtain ⟨xe,xo⟩:=x;obtain ⟨ye,yo⟩:=y;have e1:xe=ye:=funext h1;have e2:xo=yo:=funext h2;rw [e1,e2]
def IN (p:Nat×Option AV) (v:SV):SV:=match p.2 with
 |none=>v.cn p.1
 |some a=>SV.cw p.1 a v
def fN (l:List (Nat×Option AV)) (v:SV):SV:=l.foldl (fun v p=>IN p v) v
def Ob.s5 (g:SV→SV):Ob→Ob
 | .box t cells=> .box t (cells.map g)
 |o=>o
def di (f:dF) (ev:Nat→Option SV) (ov:Nat→Option Ob) (l:List (Nat×Option AV)) (x:St):St:=
 {env:=fun t=>if t∈f.ws then ev t else (x.env t).map (fN l),ob:=fun j=>if j∈f.wo then ov j else (x.ob j).map (Ob.s5 (fN l)) }
theorem Gw (p:Nat×Option AV) (v:SV):∃c:SV,(∀id,c.mentions id=false)∧IN p v=(bif v.mentions p.1 then c else v)∧((∀j,v≠ .row j)→c= .any):=by
 obtain ⟨id,x⟩:=p;cases x with
 |none=>exact ⟨.any,fun _=>rfl,rfl,fun _=>rfl⟩
 |some a=>
  cases v with
  |row j=>exact ⟨.pv a,fun _=>rfl,rfl,fun h=>absurd rfl (h j)⟩
  |_=>exact ⟨.any,fun _=>rfl,rfl,fun _=>rfl⟩
theorem uA {p:Nat×Option AV} {v:SV} (h:v.mentions p.1=false):IN p v=v:=by
 obtain ⟨c,_,e,_⟩:=Gw p v;rw [e,h];rfl
theorem VM {p:Nat×Option AV} {v:SV} {j:Nat} (h:(IN p v).mentions j=true):v.mentions j=true:=by
 obtain ⟨c,hc,e,_⟩:=Gw p v;rw [e] at h;cases hm:v.mentions p.1 with
 |true=>rw [hm] at h;simp only [cond_true] at h;rw [hc] at h;cases h
 |false=>rw [hm] at h;exact h
theorem TM {p q:Nat×Option AV} (hne:p.1≠q.1) (v:SV):IN p (IN q v)=IN q (IN p v):=by
 obtain ⟨c,hc,e,k⟩:=Gw p v;obtain ⟨c',Bq,e',k'⟩:=Gw q v;cases hp:v.mentions p.1 with
 |false=>
  rw [uA hp];cases hq:v.mentions q.1 with
  |false=>rw [uA hq,uA hp]
  |true=>rw [e',hq,cond_true,uA (Bq _)]
 |true=>
  rw [e,hp,cond_true,uA (hc _)];cases hq:v.mentions q.1 with
  |false=>rw [uA hq,e,hp,cond_true]
  |true=>
   rw [e',hq,cond_true,uA (Bq _)];have hr:∀j,v≠ .row j:=fun j hj=>by
    subst hj;exact hne ((beq_iff.1 hp).symm.trans (beq_iff.1 hq))
   rw [k hr,k' hr]
theorem rV:∀{l:List (Nat×Option AV)} {v:SV},(∀p∈l,v.mentions p.1=false)→fN l v=v
 |[],v,_=>rfl
 |p::l,v,h=>by
  show fN l (IN p v)=v;rw [uA (h p (by simp))];exact rV fun q hq=>h q (by simp [hq])
theorem zk:∀{l:List (Nat×Option AV)} {v:SV} {j:Nat},(fN l v).mentions j=true→v.mentions j=true
 |[],v,j,h=>h
 |p::l,v,j,h=>VM (zk (l:=l) h)
theorem PZ {l:List (Nat×Option AV)} {p:Nat×Option AV}:∀{v:SV},(∀q∈l,p.1≠q.1)→fN l (IN p v)=IN p (fN l v):=by
 induction l with
 |nil=>intro v _;rfl
 |cons q l ih=>
  intro v h;show fN l (IN q (IN p v))=IN p (fN l (IN q v));rw [←TM (h q (by simp)) v];exact ih fun r hr=>h r (by simp [hr])
theorem wN:∀{l m:List (Nat×Option AV)} (v:SV),(∀p∈l,∀q∈m,p.1≠q.1)→fN l (fN m v)=fN m (fN l v)
 |[],m,v,_=>rfl
 |p::l,m,v,h=>by
  show fN l (IN p (fN m v))=fN m (fN l (IN p v));rw [←PZ (h p (by simp)),wN (IN p v) fun r hr=>h r (by simp [hr])]
theorem VL {g:SV→SV} {o:Ob} (h:∀v,(∀id,v.mentions id=true→o.mentions id=true)→g v=v):o.s5 g=o:=by
 cases o with
 |box t cells=>
  simp only [Ob.s5]
  congr 1
  refine (List.map_congr_left fun c hc=>h c fun id hm=> ?_).trans (List.map_id _);simp only [Ob.mentions,List.any_eq_true];exact ⟨c,hc,hm⟩
 |_=>rfl
theorem qm {l:List (Nat×Option AV)} {o:Ob} (h:∀p∈l,o.mentions p.1=false):o.s5 (fN l)=o:=
 VL fun v hv=>rV fun p hp=>by
  cases hm:v.mentions p.1 with
  |false=>rfl
  |true=>rw [←h p hp,hv _ hm]
theorem TA {l:List (Nat×Option AV)} {o:Ob} {j:Nat} (h:(o.s5 (fN l)).mentions j=true):o.mentions j=true:=by
 cases o with
 |box t cells=>
  simp only [Ob.s5,Ob.mentions,List.any_map,List.any_eq_true] at h⊢;obtain ⟨c,hc,hm⟩:=h;exact ⟨c,hc,zk hm⟩
 |_=>exact h
theorem PX {l m:List (Nat×Option AV)} (o:Ob) (h:∀p∈l,∀q∈m,p.1≠q.1):(o.s5 (fN m)).s5 (fN l)=(o.s5 (fN l)).s5 (fN m):=by
 cases o with
 |box t cells=>
  simp only [Ob.s5,List.map_map]
  congr 1
  exact List.map_congr_left fun c _=>wN c h
 |_=>rfl
theorem yb (o:Ob):o.s5 (fN [])=o:=qm fun p hp=>by cases hp
structure BS (sf:St→Option St) (s:St) (f:dF) (ev:Nat→Option SV) (ov:Nat→Option Ob) (l:List (Nat×Option AV)):Prop where
 keys:∀p∈l,p.1∈f.mv
 run:∀x:St,(∀t∈f.rs,x.env t=s.env t)→(∀j∈f.ro,x.ob j=s.ob j)→(∀j∈f.rl,(x.ob j).map Ob.kL=(s.ob j).map Ob.kL)→sf x=some (di f ev ov l x)
 len:∀j∈f.wo,f.kp j=true→(ov j).map Ob.kL=(s.ob j).map Ob.kL
 TN:∀t∈f.ws,∀v id,ev t=some v→v.mentions id=true→id∈f.WU
 TP:∀j∈f.wo,∀o id,ov j=some o→o.mentions id=true→id∈f.WU
 mvm:∀id∈f.mv,id∈f.WU
structure IU (s:St) (f:dF):Prop where
 inE:∀t∈f.rs,∀v id,s.env t=some v→v.mentions id=true→id∈f.WU
 inO:∀j∈f.ro,∀o id,s.ob j=some o→o.mentions id=true→id∈f.WU
 we:∀t v id,s.env t=some v→id∈f.mv→v.mentions id=true→f.we t=true
 oe:∀j o id,s.ob j=some o→id∈f.mv→o.mentions id=true→f.oe j=true
theorem e7 {a b:List Nat} {x y:Nat} (h:meets a b=false) (hx:x∈a) (hy:y∈b):x≠y:=fun e=>by
 subst e;rw [PY hx hy] at h;cases h
theorem Fq (g:SV→SV) (o:Ob):(o.s5 g).kL=o.kL:=by cases o<;>rfl
theorem Y5 {f:dF} {ev:Nat→Option SV} {ov:Nat→Option Ob} {l:List (Nat×Option AV)} {x:St} {j:Nat} (h:¬j∈f.wo):((di f ev ov l x).ob j).map Ob.kL=(x.ob j).map Ob.kL:=by
 simp only [di,if_neg h,Option.map_map];cases x.ob j with
 |none=>rfl
 |some o=>simp only [Option.map_some,Function.comp,Fq]
theorem ZA {f:dF} {ev:Nat→Option SV} {ov:Nat→Option Ob} {l:List (Nat×Option AV)} {x:St} {j:Nat} (h:j∈f.wo):(di f ev ov l x).ob j=ov j:=by
 simp only [di,if_pos h]
theorem WY {r w:List Nat} {k:Nat→Bool} {j:Nat} (h:(r.any fun j=>w.contains j&& !(k j))=false) (hj:j∈r) (hw:j∈w):k j=true:=by
 cases hk:k j with
 |true=>rfl
 |false=>rw [FK hj (by simp [hw,hk])] at h;cases h
theorem Za {sp si:St→Option St} {s:St} {fp fi:dF} {ep ei:Nat→Option SV} {op oi:Nat→Option Ob} {lp li:List (Nat×Option AV)} (hp:BS sp s fp ep op lp) (hin:IU s fp) (hi:BS si (di fp ep op lp s) fi ei oi li) (hc:fp.conflict fi=false):
  BS si s fi ei oi li∧BS sp (di fi ei oi li s) fp ep op lp∧IU (di fi ei oi li s) fp∧di fp ep op lp (di fi ei oi li s)=di fi ei oi li (di fp ep op lp s):=by
 unfold dF.conflict at hc;simp only [Bool.or_eq_false_iff] at hc;obtain ⟨⟨⟨⟨⟨⟨⟨⟨⟨⟨⟨⟨⟨_,_⟩,d1⟩,d2⟩,d3⟩,d4⟩,d5⟩,d6⟩,d7⟩,d8⟩,d9⟩,d10⟩,d11⟩,d12⟩:=hc;have w9:∀t∈fi.rs,fp.we t=false:=fun t ht=>by
  cases e:fp.we t with
  |false=>rfl
  |true=>rw [FK ht e] at d9;cases d9
 have w10:∀t∈fi.ro,fp.oe t=false:=fun t ht=>by
  cases e:fp.oe t with
  |false=>rfl
  |true=>rw [FK ht e] at d10;cases d10
 have aE:∀t∈fi.rs,(di fp ep op lp s).env t=s.env t:=fun t ht=>by
  simp only [di];rw [if_neg fun h=>e7 d1 h ht rfl];cases e:s.env t with
  |none=>rfl
  |some v=>
   simp only [Option.map_some];rw [rV fun p vh=> ?_];cases hm:v.mentions p.1 with
   |false=>rfl
   |true=>have:=hin.we t v p.1 e (hp.keys p vh) hm;rw [w9 t ht] at this;cases this
 have aO:∀t∈fi.ro,(di fp ep op lp s).ob t=s.ob t:=fun t ht=>by
  simp only [di];rw [if_neg fun h=>e7 d4 h ht rfl];cases e:s.ob t with
  |none=>rfl
  |some v=>
   simp only [Option.map_some];rw [qm fun p vh=> ?_];cases hm:v.mentions p.1 with
   |false=>rfl
   |true=>have:=hin.oe t v p.1 e (hp.keys p vh) hm;rw [w10 t ht] at this;cases this
 have bE:∀t∈fp.rs,(di fi ei oi li s).env t=s.env t:=fun t ht=>by
  simp only [di];rw [if_neg fun h=>e7 d2 ht h rfl];cases e:s.env t with
  |none=>rfl
  |some v=>
   simp only [Option.map_some];rw [rV fun p vh=> ?_];cases hm:v.mentions p.1 with
   |false=>rfl
   |true=>exact absurd rfl (e7 d8 (hi.keys p vh) (hin.inE t ht v p.1 e hm))
 have bO:∀t∈fp.ro,(di fi ei oi li s).ob t=s.ob t:=fun t ht=>by
  simp only [di];rw [if_neg fun h=>e7 d5 ht h rfl];cases e:s.ob t with
  |none=>rfl
  |some v=>
   simp only [Option.map_some];rw [qm fun p vh=> ?_];cases hm:v.mentions p.1 with
   |false=>rfl
   |true=>exact absurd rfl (e7 d8 (hi.keys p vh) (hin.inO t ht v p.1 e hm))
 have nO:∀t∈fp.wo,¬t∈fi.wo:=fun t h1 h2=>e7 d6 h1 h2 rfl
 have aL:∀t∈fi.rl,((di fp ep op lp s).ob t).map Ob.kL=(s.ob t).map Ob.kL:=fun t ht=>by
  by_cases h:t∈fp.wo
  ·rw [ZA h];exact hp.len t h (WY d11 ht h)
  ·exact Y5 h
 have bK:∀t∈fi.wo,fi.kp t=true→(oi t).map Ob.kL=(s.ob t).map Ob.kL:=fun t ht hk=>(hi.len t ht hk).trans (Y5 fun h=>nO t h ht)
 have bL:∀t∈fp.rl,((di fi ei oi li s).ob t).map Ob.kL=(s.ob t).map Ob.kL:=fun t ht=>by
  by_cases h:t∈fi.wo
  ·rw [ZA h];exact bK t h (WY d12 ht h)
  ·exact Y5 h
 have hk:∀p∈lp,∀q∈li,p.1≠q.1:=fun p vh q hq=>e7 d7 (hp.keys p vh) (hi.mvm _ (hi.keys q hq))
 refine ⟨⟨hi.keys,fun x h1 h2 h3=>hi.run x (fun t ht=>(h1 t ht).trans (aE t ht).symm) (fun t ht=>(h2 t ht).trans (aO t ht).symm) (fun t ht=>(h3 t ht).trans (aL t ht).symm),bK,hi.TN,hi.TP,hi.mvm⟩,
  ⟨hp.keys,fun x h1 h2 h3=>hp.run x (fun t ht=>(h1 t ht).trans (bE t ht)) (fun t ht=>(h2 t ht).trans (bO t ht)) (fun t ht=>(h3 t ht).trans (bL t ht)),fun t ht hk=>(hp.len t ht hk).trans (Y5 (nO t ht)).symm,hp.TN,hp.TP,hp.mvm⟩,
  ⟨fun t ht v id e hm=>hin.inE t ht v id ((bE t ht).symm.trans e) hm,fun t ht v id e hm=>hin.inO t ht v id ((bO t ht).symm.trans e) hm,fun t v id e hid hm=> ?_,fun t v id e hid hm=> ?_⟩,?_⟩
 ·simp only [di] at e
  split at e
  ·rename_i ht;exact absurd rfl (e7 d7 hid (hi.TN t ht v id e hm))
  ·cases e0:s.env t with
   |none=>rw [e0] at e;cases e
   |some v0=>
    rw [e0] at e;simp only [Option.map_some,Option.some.injEq] at e;subst e;exact hin.we t v0 id e0 hid (zk hm)
 ·simp only [di] at e
  split at e
  ·rename_i ht;exact absurd rfl (e7 d7 hid (hi.TP t ht v id e hm))
  ·cases e0:s.ob t with
   |none=>rw [e0] at e;cases e
   |some v0=>
    rw [e0] at e;simp only [Option.map_some,Option.some.injEq] at e;subst e;exact hin.oe t v0 id e0 hid (TA hm)
 ·simp only [di,St.mk.injEq]
  constructor
  ·funext t
   by_cases h1:t∈fp.ws
   ·rw [if_pos h1,if_neg fun h2=>e7 d3 h1 h2 rfl]
    rw [if_pos h1];cases e:ep t with
    |none=>rfl
    |some v=>
     simp only [Option.map_some];rw [rV fun q hq=> ?_];cases hm:v.mentions q.1 with
     |false=>rfl
     |true=>exact absurd rfl (e7 d8 (hi.keys q hq) (hp.TN t h1 v _ e hm))
   ·rw [if_neg h1]
    by_cases h2:t∈fi.ws
    ·rw [if_pos h2,if_pos h2]
     cases e:ei t with
     |none=>rfl
     |some v=>
      simp only [Option.map_some];rw [rV fun q hq=> ?_];cases hm:v.mentions q.1 with
      |false=>rfl
      |true=>exact absurd rfl (e7 d7 (hp.keys q hq) (hi.TN t h2 v _ e hm))
    ·rw [if_neg h2,if_neg h2,if_neg h1]
     cases s.env t with
     |none=>rfl
     |some v=>simp only [Option.map_some];rw [wN v hk]
  ·funext t
   by_cases h1:t∈fp.wo
   ·rw [if_pos h1,if_neg fun h2=>e7 d6 h1 h2 rfl]
    rw [if_pos h1];cases e:op t with
    |none=>rfl
    |some v=>
     simp only [Option.map_some];rw [qm fun q hq=> ?_];cases hm:v.mentions q.1 with
     |false=>rfl
     |true=>exact absurd rfl (e7 d8 (hi.keys q hq) (hp.TP t h1 v _ e hm))
   ·rw [if_neg h1]
    by_cases h2:t∈fi.wo
    ·rw [if_pos h2,if_pos h2]
     cases e:oi t with
     |none=>rfl
     |some v=>
      simp only [Option.map_some];rw [qm fun q hq=> ?_];cases hm:v.mentions q.1 with
      |false=>rfl
      |true=>exact absurd rfl (e7 d7 (hp.keys q hq) (hi.TP t h2 v _ e hm))
    ·rw [if_neg h2,if_neg h2,if_neg h1]
     cases s.ob t with
     |none=>rfl
     |some v=>simp only [Option.map_some];rw [PX v hk]
def FD (sf:Nat→St→Option St):List (Nat×dF)→St→St→Prop
 |[],s,sF=>s=sF
 |p::l,s,sF=>∃s',sf p.1 s=some s'∧(p.2.all=false→∃ev ov m,BS (sf p.1) s p.2 ev ov m∧IU s p.2)∧FD sf l s' sF
theorem RL {a b:dF} (h:a.conflict b=false):a.all=false∧b.all=false:=by
 unfold dF.conflict at h;simp only [Bool.or_eq_false_iff] at h;exact ⟨h.1.1.1.1.1.1.1.1.1.1.1.1.1,h.1.1.1.1.1.1.1.1.1.1.1.1.2⟩
theorem FD.front {sf:Nat→St→Option St} {i:Nat} {f:dF} {post:List (Nat×dF)} {sF:St}:∀(pre:List (Nat×dF)) (s:St),FD sf (pre++(i,f)::post) s sF→(∀p∈pre,p.2.conflict f=false)→
  ∃s1,sf i s=some s1∧FD sf (pre++post) s1 sF∧(f.all=false→∃ev ov m,BS (sf i) s f ev ov m)
 |[],s,⟨s',h1,h2,h3⟩,_=>⟨s',h1,h3,fun ha=>by obtain ⟨ev,ov,m,k,_⟩:=h2 ha;exact ⟨ev,ov,m,k⟩⟩
 |p::pre,s,⟨s',h1,h2,h3⟩,hc=>by
  have hcp:=hc p (by simp);obtain ⟨ha,hb⟩:=RL hcp;obtain ⟨ep,op,lp,hp,hin⟩:=h2 ha;obtain ⟨s1,k1,k2,k3⟩:=FD.front pre s' h3 fun q hq=>hc q (by simp [hq])
  obtain ⟨ei,oi,li,hi⟩:=k3 hb;have e1:s'=di p.2 ep op lp s:=by
   have:=hp.run s (fun _ _=>rfl) (fun _ _=>rfl) (fun _ _=>rfl);rw [h1] at this;injection this
  subst e1;obtain ⟨r1,r2,r3,r4⟩:=Za hp hin hi hcp;have e2:s1=di f ei oi li (di p.2 ep op lp s):=by
   have:=hi.run _ (fun _ _=>rfl) (fun _ _=>rfl) (fun _ _=>rfl);rw [k1] at this;injection this
  refine ⟨_,r1.run s (fun _ _=>rfl) (fun _ _=>rfl) (fun _ _=>rfl),⟨s1,?_,fun _=>⟨ep,op,lp,r2,r3⟩,k2⟩,fun _=>⟨ei,oi,li,r1⟩⟩;rw [r2.run _ (fun _ _=>rfl) (fun _ _=>rfl) (fun _ _=>rfl),r4,e2]
def kY (P:Program) (h:Hint) (aZ:cL) (ops:Array Oper) (k:Nat) (st:St):Option St:=
 match ops[k]? with
 |some o=>match j6 ops o st with
  |some true=>step P h aZ o st
  |some false=>some (st.set o.dst .undef)
  |none=>none
 |none=>none
theorem UL {id:Nat} {cells:List SV} (h:cells.any (SV.mentions id)=true):id∈cells.flatMap SV.ids:=by
 obtain ⟨c,hc,hm⟩:=List.any_eq_true.1 h;exact List.mem_flatMap.2 ⟨c,hc,s6 hm⟩
theorem TV {id:Nat} {o:Ob} (h:o.mentions id=true):id∈o.ids:=by
 cases o with
 |box t cells=>exact UL h
 |_=>cases h
theorem F9 {sf:St→Option St} {s s':St} {f:dF} {l:List (Nat×Option AV)} (hk:∀p∈l,p.1∈f.mv) (hrun:∀x:St,(∀t∈f.rs,x.env t=s.env t)→(∀j∈f.ro,x.ob j=s.ob j)→(∀j∈f.rl,(x.ob j).map Ob.kL=(s.ob j).map Ob.kL)→sf x=some (di f s'.env s'.ob l x))
  (hlen:∀j∈f.wo,f.kp j=true→(s'.ob j).map Ob.kL=(s.ob j).map Ob.kL):
  ∃ev ov m,BS sf s (f.fill s s') ev ov m∧IU s (f.fill s s'):=by
 have mem:∀{id:Nat} {g:Nat→List Nat} {l:List Nat} {t:Nat},t∈l→id∈g t→id∈l.flatMap g:=fun ht h=>List.mem_flatMap.2 ⟨_,ht,h⟩
 refine ⟨s'.env,s'.ob,l,⟨hk,hrun,hlen,fun t ht v id e hm=> ?_,fun j hj o id e hm=> ?_,fun id hid=> ?_⟩,⟨fun t ht v id e hm=> ?_,fun j hj o id e hm=> ?_,fun t v id e hid hm=> ?_,fun j o id e hid hm=> ?_⟩⟩
 ·simp only [dF.fill,List.mem_append]
  exact .inr (.inr (.inr (.inr (.inl (mem ht (by simp only [F5,e];exact s6 hm))))))
 ·simp only [dF.fill,List.mem_append]
  exact .inr (.inr (.inr (.inr (.inr (.inr (mem hj (by simp only [OH,e];exact TV hm)))))))
 ·simp only [dF.fill,List.mem_append];exact .inl hid
 ·simp only [dF.fill,List.mem_append]
  exact .inr (.inr (.inr (.inl (mem ht (by simp only [F5,e];exact s6 hm)))))
 ·simp only [dF.fill,List.mem_append]
  exact .inr (.inr (.inr (.inr (.inr (.inl (mem hj (by simp only [OH,e];exact TV hm)))))))
 ·simp only [dF.fill,e,List.any_eq_true];exact ⟨id,hid,hm⟩
 ·simp only [dF.fill,e,List.any_eq_true];exact ⟨id,hid,hm⟩
theorem fu {α:Type} {x:Option α} {g:α→α} (h:∀v,g v=v):x.map g=x:=by cases x<;>simp [h]
theorem Ui {f:dF} {s x:St} {d:Option Nat} {v:SV} (h1:f.ws=d.toList) (h2:f.wo=[]):x.set d v=di f (s.set d v).env (s.set d v).ob [] x:=by
 refine St.same (fun t=> ?_) (fun j=> ?_)
 ·simp only [di,h1]
  cases d with
  |none=>simp only [Option.toList_none,List.not_mem_nil,if_false,St.set];exact (fu fun _=>rfl).symm
  |some d=>
   by_cases e:d=t
   ·subst e;simp [St.set,bH]
   ·have:¬t∈(some d).toList:=by simp;exact fun h=>e h.symm
    rw [if_neg this];simp only [St.set,aQ _ _ e];exact (fu fun _=>rfl).symm
 ·simp only [di,h2,List.not_mem_nil,if_false]
  rw [fu yb];cases d<;>rfl
theorem Dc (id:Nat) (o:Ob):o.s5 (fN [(id,none)])=o.cn id:=by cases o<;>rfl
theorem Dh {f:dF} {s x:St} {d id:Nat} {o:Ob} {v:SV} (h1:f.ws=[d]) (h2:f.wo=[id]):(x.new id o).set (some d) v=di f ((s.new id o).set (some d) v).env ((s.new id o).set (some d) v).ob [(id,none)] x:=by
 refine St.same (fun t=> ?_) (fun j=> ?_)
 ·simp only [di,h1,List.mem_singleton]
  by_cases e:t=d
  ·subst e;simp [St.set,bH]
  ·rw [if_neg e]
   simp only [St.set,St.new,aQ _ _ (fun h=>e h.symm),St.cn];rfl
 ·simp only [di,h2,List.mem_singleton]
  by_cases e:j=id
  ·subst e;simp [St.set,St.new,bH]
  ·rw [if_neg e]
   simp only [St.set,St.new,St.cn,aQ _ _ (fun h=>e h.symm)];cases x.ob j with
   |none=>rfl
   |some o'=>simp only [Option.map_some];rw [Dc]
theorem Wb {ops:Array Oper} {k:Nat} {o:Oper} {s:St} (ho:ops[k]? =some o) (hw:j6 ops o s=some false):
  ∃ev ov m,BS (kY P h aZ ops k) s ((nQ ops o).fill s (s.set o.dst .undef)) ev ov m∧IU s ((nQ ops o).fill s (s.set o.dst .undef)):=
 F9 (l:=[]) (by simp) (fun x h1 _ _=>by
  simp only [kY,ho];rw [tI (st':=s) h1,hw];simp only
  rw [Ui (f:=nQ ops o) (s:=s) rfl rfl]) fun j hj _=>by cases hj
def gm (sf:St→Option St) (s:St) (f:dF) (ev:Nat→Option SV) (ov:Nat→Option Ob) (l:List (Nat×Option AV)):Prop:=
 (∀p∈l,p.1∈f.mv)∧(∀j∈f.wo,f.kp j=true→(ov j).map Ob.kL=(s.ob j).map Ob.kL)∧
  ∀x:St,(∀t∈f.rs,x.env t=s.env t)→(∀j∈f.ro,x.ob j=s.ob j)→(∀j∈f.rl,(x.ob j).map Ob.kL=(s.ob j).map Ob.kL)→sf x=some (di f ev ov l x)
theorem gm.imp {sf:St→Option St} {s:St} {f f':dF} {ev:Nat→Option SV} {ov:Nat→Option Ob} {l:List (Nat×Option AV)} (hr:gm sf s f ev ov l) (h1:∀t∈f.rs,t∈f'.rs) (h2:∀t∈f.ro,t∈f'.ro) (h3:∀t∈f.mv,t∈f'.mv) (h4:∀t,t∈f.ws↔t∈f'.ws) (h5:∀t,t∈f.wo↔t∈f'.wo) (h6:∀t∈f.rl,t∈f'.rl) (h7:∀t∈f.wo,f'.kp t=true→f.kp t=true):gm sf s f' ev ov l:=
 ⟨fun p hp=>h3 _ (hr.1 p hp),fun j hj hk=>hr.2.1 j ((h5 j).2 hj) (h7 j ((h5 j).2 hj) hk),fun x k1 k2 k3=>by
  rw [hr.2.2 x (fun t ht=>k1 t (h1 t ht)) (fun t ht=>k2 t (h2 t ht)) (fun t ht=>k3 t (h6 t ht))]
  simp only [di,h4,h5]⟩
theorem gm.at {sf:St→Option St} {s s':St} {f:dF} {ev:Nat→Option SV} {ov:Nat→Option Ob} {l:List (Nat×Option AV)} (hr:gm sf s f ev ov l) (h:sf s=some s'):s'=di f ev ov l s:=by
 have:=hr.2.2 s (fun _ _=>rfl) (fun _ _=>rfl) (fun _ _=>rfl);rw [h] at this;injection this
theorem OU {s1 s2:St→Option St} {s:St} {f1 f2:dF} {ZZ Zi:Nat→Option SV} {Zx Zy:Nat→Option Ob} {l1 l2:List (Nat×Option AV)} (hr:gm s1 s f1 ZZ Zx l1) (hq:gm s2 (di f1 ZZ Zx l1 s) f2 Zi Zy l2):
  ∃ev ov,gm (fun x=>(s1 x).bind s2) s (f1.then f2) ev ov (l1++l2):=by
 refine ⟨fun t=>if t∈f2.ws then Zi t else (ZZ t).map (fN l2),fun j=>if j∈f2.wo then Zy j else (Zx j).map (Ob.s5 (fN l2)),fun p hp=> ?_,fun j hj hk=> ?_,fun x k1 k2 k3=> ?_⟩
 ·simp only [dF.then,List.mem_append]
  exact (List.mem_append.1 hp).imp (hr.1 p) (hq.1 p)
 ·simp only [dF.then,Bool.and_eq_true,Bool.or_eq_true,Bool.not_eq_true',List.contains_eq_mem,decide_eq_false_iff_not] at hk
  simp only [dF.then,List.mem_append] at hj;have base:((di f1 ZZ Zx l1 s).ob j).map Ob.kL=(s.ob j).map Ob.kL:=by
   by_cases a:j∈f1.wo
   ·rw [ZA a];exact hr.2.1 j a (hk.1.resolve_right fun h=>h a)
   ·exact Y5 a
  by_cases a:j∈f2.wo
  ·simp only [if_pos a]
   exact (hq.2.1 j a (hk.2.resolve_right fun h=>h a)).trans base
  ·simp only [if_neg a,Option.map_map]
   have b:j∈f1.wo:=hj.resolve_left a;rw [←hr.2.1 j b (hk.1.resolve_right fun h=>h b)];cases Zx j with
   |none=>rfl
   |some o=>simp only [Option.map_some,Function.comp,Fq]
 ·have e1:=hr.2.2 x (fun t ht=>k1 t (by simp [dF.then,ht])) (fun t ht=>k2 t (by simp [dF.then,ht])) (fun t ht=>k3 t (by simp [dF.then,ht]))
  have e2:=hq.2.2 (di f1 ZZ Zx l1 x) (fun t ht=>by simp only [di];rw [k1 t (by simp [dF.then,ht])]) (fun t ht=>by simp only [di];rw [k2 t (by simp [dF.then,ht])]) (fun t ht=>by
   by_cases a:t∈f1.wo
   ·rw [ZA a,ZA a]
   ·rw [Y5 a,Y5 a];exact k3 t (by simp [dF.then,ht]))
  simp only [e1,Option.bind_some,e2,Option.some.injEq];have mm:∀v,fN l2 (fN l1 v)=fN (l1++l2) v:=fun v=>by simp only [fN,List.foldl_append]
  refine St.same (fun t=> ?_) (fun j=> ?_)
  ·simp only [di,dF.then,List.mem_append]
   by_cases a:t∈f2.ws
   ·simp only [a,if_true,true_or]
   ·by_cases b:t∈f1.ws
    ·simp only [a,b,if_true,if_false,false_or]
    ·simp only [a,b,if_false,or_self]
     cases x.env t with
     |none=>rfl
     |some v=>simp only [Option.map_some,mm]
  ·simp only [di,dF.then,List.mem_append]
   by_cases a:j∈f2.wo
   ·simp only [a,if_true,true_or]
   ·by_cases b:j∈f1.wo
    ·simp only [a,b,if_true,if_false,false_or]
    ·simp only [a,b,if_false,or_self]
     cases x.ob j with
     |none=>rfl
     |some o=>
      simp only [Option.map_some,Option.some.injEq];cases o with
      |box t cells=>simp only [Ob.s5,List.map_map,Ob.box.injEq,true_and];exact List.map_congr_left fun c _=>mm c
      |_=>rfl
theorem gm.nil (s:St) (f:dF) (h1:f.ws=[]) (h2:f.wo=[]):gm some s f (fun _=>none) (fun _=>none) []:=
 ⟨by simp,fun j hj=>(by rw [h2] at hj;cases hj),fun x _ _ _=>by
  congr 1
  refine St.same (fun t=> ?_) (fun j=> ?_)
  ·simp only [di,h1,List.not_mem_nil,if_false];exact (fu fun _=>rfl).symm
  ·simp only [di,h2,List.not_mem_nil,if_false];exact (fu yb).symm⟩
theorem Gs (id:Nat) (v:AV) (o:Ob):o.s5 (fN [(id,some v)])=o.cw id v:=by cases o<;>rfl
theorem Dp {s s':St} {id:Nat} (hp:s.cw id=some s'):∃ev ov l,gm (fun x=>x.cw id) s { ro:=[id],wo:=[id],mv:=[id] } ev ov l:=by
 unfold St.cw at hp;split at hp
 ·rename_i v ho hv
  refine ⟨fun _=>none,fun _=>none,[(id,some v)],by simp,fun j _ hk=>(by cases hk),fun x _ h2 _=> ?_⟩;have e:x.ob id=s.ob id:=h2 id (by simp);unfold St.cw;simp only [e,ho,hv,Option.some.injEq];refine St.same (fun t=> ?_) (fun j=> ?_)
  ·simp only [di,List.not_mem_nil,if_false];rfl
  ·simp only [di,List.mem_singleton]
   by_cases a:j=id
   ·subst a;simp [bH]
   ·rw [if_neg a,aQ _ _ (fun h=>a h.symm)]
    cases x.ob j with
    |none=>rfl
    |some o=>simp only [Option.map_some];rw [Gs]
 ·cases hp
theorem uI:∀{cells:List SV} {s s':St},jc cells s=some s'→∃ev ov l,gm (jc cells) s { ro:=nt cells,wo:=nt cells,mv:=nt cells } ev ov l
 |[],s,s',_=>⟨_,_,_,gm.nil s _ rfl rfl⟩
 |c::cells,s,s',hv=>by
  have other:(∀id,c≠ .row id)→(∀x,jc (c::cells) x=jc cells x)∧nt (c::cells)=nt cells:=fun hne=>by
   cases c<;>first|exact absurd rfl (hne _)|exact ⟨fun _=>rfl,rfl⟩
  by_cases hr:∃id,c= .row id
  ·obtain ⟨id,rfl⟩:=hr
   simp only [jc] at hv;obtain ⟨s1,h1,h2⟩:=Option.bind_eq_some_iff.1 hv;obtain ⟨ev,ov,l,r1⟩:=Dp h1;obtain ⟨ev',ov',l',r2⟩:=uI h2;rw [r1.at h1] at r2;obtain ⟨Zi,Zy,r3⟩:=OU r1 r2;exact ⟨Zi,Zy,_,r3.imp (fun t ht=>by simp [dF.then] at ht) (fun t ht=>by simpa [dF.then,nt] using ht) (fun t ht=>by simpa [dF.then,nt] using ht) (fun t=>by simp [dF.then]) (fun t=>by simp [dF.then,nt,or_comm]) (fun t ht=>by simp [dF.then] at ht) (fun t _ hk=>by cases hk)⟩
  ·obtain ⟨e1,e2⟩:=other fun id h=>hr ⟨id,h⟩
   rw [e1] at hv;obtain ⟨ev,ov,l,r⟩:=uI hv;refine ⟨ev,ov,l,?_⟩;rw [e2];exact ⟨r.1,r.2.1,fun x h1 h2 h3=>by rw [e1];exact r.2.2 x h1 h2 h3⟩
theorem Qc {s s':St} {t:Nat} (hp:nh s t=some s'):∃ev ov l,gm (fun x=>nh x t) s (He s t) ev ov l:=by
 have hp0:=hp;unfold nh at hp;unfold He;split at hp
 ·rename_i id he
  obtain ⟨ev,ov,l,r⟩:=Dp hp;refine ⟨ev,ov,l,r.1,r.2.1,fun x h1 h2 h3=> ?_⟩;have e:x.env t=s.env t:=h1 t (by simp);simp only [nh,e,he];exact r.2.2 x (by simp) h2 (by simp)
 ·rename_i id off he
  split at hp
  ·rename_i bt cells cu
   obtain ⟨ev,ov,l,r⟩:=uI hp;refine ⟨ev,ov,l,r.1,r.2.1,fun x h1 h2 h3=> ?_⟩;have e:x.env t=s.env t:=h1 t (by simp);have e2:x.ob id=s.ob id:=h2 id (by simp);simp only [nh,e,he,e2,cu];exact r.2.2 x (by simp) (fun j hj=>h2 j (by simp [hj])) (by simp)
  ·cases hp
 ·rename_i hn1 hn2
  refine ⟨fun _=>none,fun _=>none,[],?_⟩;have k2:∀x:St,x.env t=s.env t→nh x t=some x:=fun x e=>by
   unfold nh;rw [e];split
   ·rename_i id he;exact absurd he (hn1 id)
   ·rename_i id off he;exact absurd he (hn2 id off)
   ·rfl
  refine ⟨by simp,fun j hj=>(by simp at hj),fun x h1 h2 h3=> ?_⟩;simp only;rw [k2 x (h1 t (by simp))];exact (gm.nil s { rs:=[t] } rfl rfl).2.2 x h1 h2 h3
theorem JT {st st':St} {t:TypeId} {x ix:Operand} (hx:∀ty,aR P ty st x=aR P ty st' x) (hi:∀ty,aR P ty st ix=aR P ty st' ix) (cu:∀ty sv,aR P ty st x=some sv→∀id∈sv.ids,(st.ob id).map Ob.kL=(st'.ob id).map Ob.kL):rP P st t x ix=rP P st' t x ix:=by
 unfold rP;rw [←hx,←hi];split
 ·rfl
 ·rename_i e s id q i hs ho hq
  have k:=cu t _ ho id (by simp [SV.ids]);cases e1:st.ob id with
  |none=>
   rw [e1] at k;cases e2:st'.ob id with
   |none=>rfl
   |some o=>rw [e2] at k;cases k
  |some o1=>
   rw [e1] at k;cases e2:st'.ob id with
   |none=>rw [e2] at k;cases k
   |some o2=>
    rw [e2] at k;simp only [Option.map_some,Option.some.injEq] at k;cases o1 with
    |row e3 sz xs=>
     cases o2 with
     |row e4 ZB ys=>
      simp only [Ob.kL,Ob.row.injEq] at k;obtain ⟨_,rfl,k3⟩:=k;have:xs.length=ys.length:=by simpa using congrArg List.length k3
      simp only [this]
     |_=>cases k
    |rn e3 sz q1 q2 q3 xs zs=>
     cases o2 with
     |rn e4 ZB q4 q5 q6 ys zs2=>
      simp only [Ob.kL,Ob.rn.injEq] at k;obtain ⟨_,rfl,_,_,_,k3,_⟩:=k;have:xs.length=ys.length:=by simpa using congrArg List.length k3
      simp only [this]
     |_=>cases k
    |_=>cases o2<;>first|rfl|cases k
 ·rfl
 ·rfl
theorem Gh {st st':St} {n:Nat} {e:TypeId} {x ix:Operand} (hx:∀ty,aR P ty st x=aR P ty st' x) (hi:∀ty,aR P ty st ix=aR P ty st' ix):sM P st n e x ix=sM P st' n e x ix:=by
 unfold sM;rw [hx,hi]
theorem KT {ops:Array Oper} {o:Oper} {s:St} {v:SV} (hv:cI P h aZ o s=some v):gm (step0 P h aZ o) s (pZ P h ops o s) (s.set o.dst v).env (s.set o.dst v).ob []:=
 ⟨by simp,fun j hj=>(by cases hj),fun x h1 h2 h3=>by
  have fin:cI P h aZ o s=cI P h aZ o x→step0 P h aZ o x=some (di (pZ P h ops o s) (s.set o.dst v).env (s.set o.dst v).ob [] x):=fun this=>by
   rw [hv] at this;simp only [step0,←this];rw [Ui (f:=pZ P h ops o s) (s:=s) rfl rfl]
  cases hx:SF o.op with
  |true=>
   cases ho:o.op with
   |indexAddr t a ix=>
    have hop:∀y∈o.op.operands.toList,∀ty,aR P ty s y=aR P ty x y:=fun y hy ty=>gv (fun u e=>(h1 u (by
     subst e
     exact List.mem_append_left _ (List.mem_filterMap.2 ⟨.tmp u,hy,rfl⟩))).symm) ty
    have ha:=hop a (by rw [ho];simp [Op.operands]);have hi:=hop ix (by rw [ho];simp [Op.operands])
    have hl:∀ty sv,aR P ty s a=some sv→∀id∈sv.ids,(s.ob id).map Ob.kL=(x.ob id).map Ob.kL:=fun ty sv e id hid=>(h3 id (by
     simp only [pZ,hx,cond_true]
     exact pJ (by rw [ho];simp [Op.operands]) e hid)).symm
    refine fin ?_;simp only [cI,ho,c7];rw [JT ha hi hl];split
    ·rw [Gh ha hi]
    ·rfl
   |_=>rw [ho] at hx;cases hx
  |false=>
   have hro:∀id∈Dx P h o s,s.ob id=x.ob id:=fun id hid=>by
    cases hn:Fc o.op with
    |false=>exact (h2 id (by simp [pZ,hn,hx,hid])).symm
    |true=>cases ho:o.op<;>simp [Dx,ho,Fc] at hid hn
   exact fin (LR (P:=P) (h:=h) (aZ:=aZ) (st:=s) (st':=x) (o:=o) (fun hn id hid=>(h2 id (by simp [pZ,hn,hx,hid])).symm) hro (fun t ht=>(h1 t (by simp [pZ,dX,ht])).symm))⟩
theorem Up {ops:Array Oper} {k:Nat} {o:Oper} {s:St} {v:SV} (ho:ops[k]? =some o) (hw:j6 ops o s=some true) (hpe:tR h o=[]) (hv:cI P h aZ o s=some v):
  ∃ev ov m,BS (kY P h aZ ops k) s ((pZ P h ops o s).fill s (s.set o.dst v)) ev ov m∧IU s ((pZ P h ops o s).fill s (s.set o.dst v)):=
 F9 (l:=[]) (by simp) (fun x h1 h2 h3=>by
  simp only [kY,ho];rw [tI (st':=s) h1,hw];simp only [step,hpe,gM,Option.bind_some]
  exact (KT (ops:=ops) hv).2.2 x h1 h2 h3) fun j hj _=>by cases hj
theorem Rs {o:Oper} {s s':St} {c:Call} {d id:Nat} {x y:Operand} {t t':TypeId} (ho:o.op= .call c) (hc:c.callee= .builtin .append) (hargs:c.args.toList=[x,y]) (ou:c.argTypes.toList=[t,t']) (hd:o.dst=some d) (hx:aR P t s x=some (.row id)) (hst:step0 P h aZ o s=some s'):
  ∃ob:Ob,s'=(s.new id ob).set (some d) (.row id)∧
   ∀x:St,(∀t∈slotsOf o,x.env t=s.env t)→(∀j∈id::vQ s o,x.ob j=s.ob j)→step0 P h aZ o x=some ((x.new id ob).set (some d) (.row id)):=by
 have hf:∀x:St,cI P h aZ o x=none:=fun x=>by simp only [cI,ho,hc,sd]
 have he:∀x':St,step0 P h aZ o x'=(match isSlice P t,aR P t x' x,aR P t' x' y with
  |some (e,s),some (.row id),some y=>match x'.ob id,elems x' y,P.info? e with
   |some (.row e' sz xs),some (sz',ys),some i=>
    if t=t'∧e=e'∧s=sz∧sz=sz'∧0<sz∧(xs.length+ys.length) *i.bytes≤140737488355328∧xs.length+ys.length≤4611686018427387904∧i.zero.map (fun z=>z.cells.size)=some sz∧eT id=true then
     some ((x'.new id (.row e sz (xs++ys))).set (some d) (.row id)) else none
   |some (.rn e' sz k e2 s2 xs zs),some (sz',ys),some i=>
    if t=t'∧e=e'∧s=sz∧sz=sz'∧0<sz∧(xs.length+ys.length) *i.bytes≤140737488355328∧xs.length+ys.length≤4611686018427387904∧i.zero.map (fun z=>z.cells.size)=some sz∧eT id=true∧ys.all (kQ k)=true then
     some ((x'.new id (.rn e sz k e2 s2 (xs++ys.map fun c=>c.set k .hole) (zs++ys.map fun _=>some []))).set (some d) (.row id)) else none
   |_,_,_=>none
  |some (e,s),some (.at id .full),some y=>match x'.ob id,elems x' y,P.info? e with
   |some (.row e' sz xs),some (sz',ys),some i=>
    if t=t'∧e=e'∧s=sz∧sz=sz'∧0<sz∧(xs.length+ys.length) *i.bytes≤140737488355328∧xs.length+ys.length≤4611686018427387904∧i.zero.map (fun z=>z.cells.size)=some sz∧eT id=true∧ys.isEmpty=false then
     some ((x'.new id (.row e sz (xs++ys))).set (some d) (.row id)) else none
   |_,_,_=>none
  |_,_,_=>none):=fun x'=>by
  simp only [step0,hf,iM,ho,hc,hd,hargs,ou];rfl
 rw [he] at hst;split at hst
 ·rename_i e sz0 id2 sy hs hx2 hy
  rw [hx] at hx2;simp only [Option.some.injEq,SV.row.injEq] at hx2;subst hx2;split at hst
  ·rename_i e' sz xs sz' ys i cu hel hi
   split at hst
   ·rename_i hcnd
    injection hst with hst
    refine ⟨.row e sz (xs++ys),hst.symm,fun x' hx' E0=> ?_⟩
    have JQ:∀z∈[x,y],∀ty,aR P ty x' z=aR P ty s z:=fun z hz ty=>gv (fun u e=>hx' u (by
     subst e;refine List.mem_filterMap.2 ⟨.tmp u,?_,rfl⟩;rw [ho];simp only [Op.operands,Call.operands,hc,Array.toList_append,List.mem_append]
     right
     rw [hargs];exact hz)) ty
    rw [he,JQ x (by simp) t,JQ y (by simp) t',hx,hy,hs];have e1:x'.ob id=s.ob id:=E0 id (by simp)
    have e2:elems x' sy=elems s sy:=qL (fun j hj=>E0 j (List.mem_cons_of_mem _ (pJ (P:=P) (x:=y) (ty:=t') (by
     rw [ho];simp only [Op.operands,Call.operands,hc,Array.toList_append,List.mem_append]
     right
     rw [hargs];simp) hy hj)))
    simp only [e1,cu,e2,hel,hi];rw [if_pos hcnd]
   ·cases hst
  ·rename_i e' sz k e3 s3 xs zs sz' ys i cu hel hi
   split at hst
   ·rename_i hcnd
    injection hst with hst
    refine ⟨.rn e sz k e3 s3 (xs++ys.map fun c=>c.set k .hole) (zs++ys.map fun _=>some []),hst.symm,fun x' hx' E0=> ?_⟩
    have JQ:∀z∈[x,y],∀ty,aR P ty x' z=aR P ty s z:=fun z hz ty=>gv (fun u e=>hx' u (by
     subst e;refine List.mem_filterMap.2 ⟨.tmp u,?_,rfl⟩;rw [ho];simp only [Op.operands,Call.operands,hc,Array.toList_append,List.mem_append]
     right
     rw [hargs];exact hz)) ty
    rw [he,JQ x (by simp) t,JQ y (by simp) t',hx,hy,hs];have e1:x'.ob id=s.ob id:=E0 id (by simp)
    have e2:elems x' sy=elems s sy:=qL (fun j hj=>E0 j (List.mem_cons_of_mem _ (pJ (P:=P) (x:=y) (ty:=t') (by
     rw [ho];simp only [Op.operands,Call.operands,hc,Array.toList_append,List.mem_append]
     right
     rw [hargs];simp) hy hj)))
    simp only [e1,cu,e2,hel,hi];rw [if_pos hcnd]
   ·cases hst
  ·cases hst
 ·rename_i hx2 _;rw [hx] at hx2;cases hx2
 ·cases hst
theorem O6 {o:Oper} {s s':St} {c:Call} {d id:Nat} {x y:Operand} {t t':TypeId} (ho:o.op= .call c) (hc:c.callee= .builtin .append) (hargs:c.args.toList=[x,y]) (ou:c.argTypes.toList=[t,t']) (hd:o.dst=some d) (hx:aR P t s x=some (.at id .full)) (hst:step0 P h aZ o s=some s'):
  ∃ob:Ob,s'=(s.new id ob).set (some d) (.row id)∧
   ∀x:St,(∀t∈slotsOf o,x.env t=s.env t)→(∀j∈id::vQ s o,x.ob j=s.ob j)→step0 P h aZ o x=some ((x.new id ob).set (some d) (.row id)):=by
 have hf:∀x:St,cI P h aZ o x=none:=fun x=>by simp only [cI,ho,hc,sd]
 have he:∀x':St,step0 P h aZ o x'=(match isSlice P t,aR P t x' x,aR P t' x' y with
  |some (e,s),some (.row id),some y=>match x'.ob id,elems x' y,P.info? e with
   |some (.row e' sz xs),some (sz',ys),some i=>
    if t=t'∧e=e'∧s=sz∧sz=sz'∧0<sz∧(xs.length+ys.length) *i.bytes≤140737488355328∧xs.length+ys.length≤4611686018427387904∧i.zero.map (fun z=>z.cells.size)=some sz∧eT id=true then
     some ((x'.new id (.row e sz (xs++ys))).set (some d) (.row id)) else none
   |some (.rn e' sz k e2 s2 xs zs),some (sz',ys),some i=>
    if t=t'∧e=e'∧s=sz∧sz=sz'∧0<sz∧(xs.length+ys.length) *i.bytes≤140737488355328∧xs.length+ys.length≤4611686018427387904∧i.zero.map (fun z=>z.cells.size)=some sz∧eT id=true∧ys.all (kQ k)=true then
     some ((x'.new id (.rn e sz k e2 s2 (xs++ys.map fun c=>c.set k .hole) (zs++ys.map fun _=>some []))).set (some d) (.row id)) else none
   |_,_,_=>none
  |some (e,s),some (.at id .full),some y=>match x'.ob id,elems x' y,P.info? e with
   |some (.row e' sz xs),some (sz',ys),some i=>
    if t=t'∧e=e'∧s=sz∧sz=sz'∧0<sz∧(xs.length+ys.length) *i.bytes≤140737488355328∧xs.length+ys.length≤4611686018427387904∧i.zero.map (fun z=>z.cells.size)=some sz∧eT id=true∧ys.isEmpty=false then
     some ((x'.new id (.row e sz (xs++ys))).set (some d) (.row id)) else none
   |_,_,_=>none
  |_,_,_=>none):=fun x'=>by
  simp only [step0,hf,iM,ho,hc,hd,hargs,ou];rfl
 rw [he] at hst;split at hst
 ·rename_i hx2 _;rw [hx] at hx2;cases hx2
 ·rename_i e sz0 id2 sy hs hx2 hy
  rw [hx] at hx2;simp only [Option.some.injEq,SV.at.injEq,and_true] at hx2;subst hx2;split at hst
  ·rename_i e' sz xs sz' ys i cu hel hi
   split at hst
   ·rename_i hcnd
    injection hst with hst
    refine ⟨.row e sz (xs++ys),hst.symm,fun x' hx' E0=> ?_⟩
    have JQ:∀z∈[x,y],∀ty,aR P ty x' z=aR P ty s z:=fun z hz ty=>gv (fun u e=>hx' u (by
     subst e;refine List.mem_filterMap.2 ⟨.tmp u,?_,rfl⟩;rw [ho];simp only [Op.operands,Call.operands,hc,Array.toList_append,List.mem_append]
     right
     rw [hargs];exact hz)) ty
    rw [he,JQ x (by simp) t,JQ y (by simp) t',hx,hy,hs];have e1:x'.ob id=s.ob id:=E0 id (by simp)
    have e2:elems x' sy=elems s sy:=qL (fun j hj=>E0 j (List.mem_cons_of_mem _ (pJ (P:=P) (x:=y) (ty:=t') (by
     rw [ho];simp only [Op.operands,Call.operands,hc,Array.toList_append,List.mem_append]
     right
     rw [hargs];simp) hy hj)))
    simp only [e1,cu,e2,hel,hi];rw [if_pos hcnd]
   ·cases hst
  ·cases hst
 ·cases hst
theorem kp_E0 {ops:Array Oper} {o:Oper} {s:St} (hld:¬∃t x,o.op= .load t x) (hpt:¬∃t a x id sz i off j,o.op= .store t a x∧aR P 0 s a=some (.rp id sz i off)∧aR P t s x=some (.row j)) (j:Nat):(gC P h ops o s).kp j=false:=by
 unfold gC xU vf Gb;split
 ·rename_i hop _
  split
  ·rename_i h1 h2;exact absurd ⟨_,_,_,_,_,_,_,_,hop,h1,h2⟩ hpt
  ·rfl
  ·split<;>rfl
 ·cases h.rows.contains _<;>rfl
 ·cases h.rows.contains _<;>rfl
 ·split
  ·split
   ·split<;>rfl
   ·rfl
  ·cases (o.dst.any h.owns.contains&& !(o.dst.any (fun d=>(qQ h d).isSome))) with
   |true=>rfl
   |false=>
    rename_i c _ _ f _;cases (!(o.dst.any h.owns.contains)&&(!(o.dst.any h.stay.contains)&&wide s c f)) with
    |false=>rfl
    |true=>simp only [cond_true,cond_false,pY];split<;>rfl
  ·rfl
 ·rename_i hq _;exact absurd ⟨_,_,hq⟩ hld
 ·rfl
theorem Wh {ops:Array Oper} {o:Oper} {s s':St} {t:TypeId} {a:Operand} (ho:o.op= .load t a) (hst:step0 P h aZ o s=some s') (hall:(gC P h ops o s).all=false):
  ∃ev ov m,gm (step0 P h aZ o) s (gC P h ops o s) ev ov m:=by
 obtain ⟨F,hF⟩:∃F,gC P h ops o s=F:=⟨_,rfl⟩
 rw [hF] at hall⊢;unfold gC at hF;rw [ho] at hF;cases rD:o.dst with
 |none=>rw [rD] at hF;subst hF;cases hall
 |some d=>
  rw [rD] at hF;simp only at hF;cases Eb:h.take.contains d with
  |false=>rw [Eb] at hF;subst hF;cases hall
  |true=>
   rw [Eb] at hF;simp only [cond_true,JE] at hF;split at hF
   ·rename_i id sz i off hx
    split at hF
    ·rename_i e sz' k e' s2 xs ys cu
     subst hF;have he:∀x:St,aR P 0 x a=some (.rp id sz i off)→x.ob id=some (.rn e sz' k e' s2 xs ys)→step0 P h aZ o x=qW P x t a d:=fun x h1 h2=>by
      have hfn:cI P h aZ o x=none:=by simp only [cI,ho,rD,Option.any_some,Eb,cond_true]
      unfold step0;rw [hfn];simp only [iM,ho,rD,Eb,cond_true]
     rw [he s hx cu] at hst;unfold qW at hst;rw [hx] at hst;split at hst
     ·rename_i id2 ZB i2 off2 e1 hagg
      simp only [Option.some.injEq,SV.rp.injEq] at e1;obtain ⟨rfl,rfl,rfl,rfl⟩:=e1;rw [cu] at hst;simp only at hst;split at hst
      ·rename_i zs hy
       cases hb:(Nat.beq sz sz'&&Nat.beq off k&& !(Nat.beq id d)&&Nat.blt id 10000) with
       |false=>rw [hb] at hst;cases hst
       |true=>
       rw [hb] at hst;simp only [cond_true,Option.some.injEq] at hst;have hne:id≠d:=fun e=>by subst e;simp [Nat.beq_refl] at hb
       refine ⟨s'.env,s'.ob,[(d,none)],by simp,fun j hj hk=> ?_,fun x h1 h2 _=> ?_⟩<;>subst hst
       rotate_left
       ·have AB:aR P 0 x a=some (.rp id sz i off):=by
         rw [←hx]
         exact gv (fun u e=>h1 u (by
          subst e
          exact List.mem_append_left _ (List.mem_filterMap.2 ⟨.tmp u,by rw [ho];simp [Op.operands],rfl⟩))) 0
        have hxb:x.ob id=some (.rn e sz' k e' s2 xs ys):=(h2 id (by simp)).trans cu;rw [he x AB hxb];unfold qW;rw [AB,hagg];simp only [hxb,hy,hb,cond_true];refine congrArg some (St.same (fun u=> ?_) (fun u=> ?_))
        ·simp only [di,List.mem_singleton]
         by_cases e:u=d
         ·subst e;simp only [if_true,St.set,bH]
         ·rw [if_neg e]
          simp only [St.set,St.new,aQ _ _ (fun h=>e h.symm),St.cn];rfl
        ·simp only [di,List.mem_cons,List.not_mem_nil,or_false]
         by_cases e:u=d
         ·subst e;simp only [or_true,if_true,St.set,St.new,bH]
         ·by_cases e2:u=id
          ·subst e2
           simp only [true_or,if_true,St.set,St.new,St.cn,aQ _ _ (fun h=>e h.symm),bH]
          ·rw [if_neg (by simp [e,e2])]
           simp only [St.set,St.new,St.cn,aQ _ _ (fun h=>e h.symm),aQ _ _ (fun h=>e2 h.symm)];cases x.ob u with
           |none=>rfl
           |some o'=>simp only [Option.map_some];rw [Dc]
       ·have hk':j=id:=by
         simp only [Bool.and_eq_true] at hk;exact beq_iff.1 hk.1
        subst hk';rw [cu];simp only [St.set,St.new,St.cn,aQ _ _ (fun h=>hne h.symm),bH,Option.map_some,Ob.cn,Ob.kL]
      ·cases hst
     ·cases hst
    ·subst hF;cases hall
   ·subst hF;cases hall
theorem Bn {R:Type} {b:Bool} {x:Option R} {r:R} (hv:(bif b then x else none)=some r):b=true∧x=some r:=by
 cases b
 ·cases hv
 ·exact ⟨rfl,hv⟩
theorem kR:∀(l:List Nat) (st:St) (t:Nat),(fe l st).env t=(st.env t).map (fN (l.map fun i=>(i,none)))
 |[],st,t=>by simp only [fe,List.map_nil];exact (fu fun _=>rfl).symm
 |id::l,st,t=>by
  simp only [fe];rw [kR l (st.cn id) t];simp only [St.cn,Option.map_map];rfl
theorem qt:∀(l:List Nat) (st:St) (j:Nat),j∉l→(fe l st).ob j=(st.ob j).map (Ob.s5 (fN (l.map fun i=>(i,none))))
 |[],st,j,_=>by simp only [fe,List.map_nil];exact (fu yb).symm
 |id::l,st,j,hj=>by
  simp only [List.mem_cons,not_or] at hj;simp only [fe];rw [qt l (st.cn id) j hj.2];simp only [St.cn,aQ _ _ (fun h=>hj.1 h.symm)];cases st.ob j with
  |none=>rfl
  |some o=>cases o<;>simp only [Option.map_some,Ob.cn,Ob.s5,List.map_map]<;>rfl
theorem nj:∀(l:List Nat) (st st':St) (j:Nat),st.ob j=st'.ob j→(fe l st).ob j=(fe l st').ob j
 |[],st,st',j,h=>h
 |id::l,st,st',j,h=>by
  simp only [fe];refine nj l _ _ j ?_;by_cases e:id=j
  ·subst e;simp only [St.cn,bH]
  ·simp only [St.cn,aQ _ _ e,h]
theorem back_mem {names:List Nat} {ρ:Nat→Nat}:∀{m:List (Nat×Nat)} {os back:List (Nat×Ob)},iV names ρ m os=some back→∀{j:Nat} {o:Ob},find back j=some o→j∈m.map (·.1)
 |[],[],back,h,j,o,hf=>by simp only [iV,Option.some.injEq] at h;subst h;cases hf
 |[],_::_,back,h,_,_,_=>by simp [iV] at h
 |_::_,[],back,h,_,_,_=>by simp [iV] at h
 |(id,nm)::m,(KZ,o')::os,back,h,j,o,hf=>by
  simp only [iV] at h;obtain ⟨_,h⟩:=Bn h;simp only [Option.map_eq_some_iff] at h;obtain ⟨r,hr,rfl⟩:=h;simp only [find] at hf;cases hb:Nat.beq id j with
  |true=>simp [beq_iff.1 hb]
  |false=>rw [hb] at hf;exact List.mem_cons_of_mem _ (back_mem hr hf)
theorem VK {ops:Array Oper} {o:Oper} {s s':St} {c:Call} {f:Operand} (ho:o.op= .call c) (hc:c.callee= .value f) (how:o.dst.any h.owns.contains=false) (hsy:o.dst.any h.stay.contains=false) (hw:wide s c f=true)
  (hst:step0 P h aZ o s=some s') (hall:(pY P h ops o s c f).all=false):∃ev ov m,gm (step0 P h aZ o) s (pY P h ops o s c f) ev ov m:=by
 have E0:∀x:St,(∀t∈dX ops o,x.env t=s.env t)→∀y∈o.op.operands.toList,∀ty,aR P ty x y=aR P ty s y:=fun x h1 y hy' ty=>gv (fun u e=>h1 u (by
  subst e
  exact List.mem_append_left _ (List.mem_filterMap.2 ⟨.tmp u,hy',rfl⟩))) ty
 have hargs:∀x∈c.args.toList,x∈o.op.operands.toList:=fun x hx=>by
  rw [ho];simp only [Op.operands,Call.operands,hc,Array.toList_append,List.mem_append];exact .inr hx
 have hfo:f∈o.op.operands.toList:=by
  rw [ho];simp [Op.operands,Call.operands,hc]
 have hwide:∀x:St,(∀t∈dX ops o,x.env t=s.env t)→wide x c f=wide s c f:=fun x h1=>by
  have Bh:∀y∈o.op.operands.toList,∀u,y= .tmp u→x.env u=s.env u:=fun y hy u e=>h1 u (by
   subst e
   exact List.mem_append_left _ (List.mem_filterMap.2 ⟨.tmp u,hy,rfl⟩))
  have e1:L7 x f=L7 s f:=by
   cases f with
   |tmp u=>simp only [L7,Bh _ hfo u rfl]
   |_=>rfl
  have e2:∀l:List Operand,(∀y∈l,y∈o.op.operands.toList)→l.any (x6 x)=l.any (x6 s):=by
   intro l
   induction l with
   |nil=>intro _;rfl
   |cons y l ih=>
    intro hl;simp only [List.any_cons];rw [ih fun z hz=>hl z (by simp [hz])];cases y with
    |tmp u=>simp only [x6,Bh _ (hl (.tmp u) (by simp)) u rfl]
    |_=>rfl
  unfold wide;rw [e1,e2 _ hargs]
 have he:∀x:St,(∀t∈dX ops o,x.env t=s.env t)→step0 P h aZ o x=fF P h aZ x c f o.dst:=fun x h1=>by
  have hwx:=(hwide x h1).trans hw;have hfn:cI P h aZ o x=none:=by simp only [cI,ho,hc,how,hsy,hwx,cond_false,Bool.false_and,Bool.true_or,cond_true]
  unfold step0;rw [hfn];cases rD:o.dst with
  |none=>simp only [iM,ho,hc,rD,hwx,Option.any_none,cond_false,Bool.false_and,cond_true]
  |some d=>
   rw [rD] at how hsy;simp only [iM,ho,hc,rD,how,hsy,hwx,cond_false,Bool.false_and,cond_true]
 rw [he s fun _ _=>rfl] at hst;have Yn:∃g args,ox P h s c f=some (g,args):=by
  unfold pY at hall;split at hall
  ·rename_i g args e;exact ⟨g,args,e⟩
  ·cases hall
 obtain ⟨g,args,PG⟩:=Yn;have hF:pY P h ops o s c f={ rs:=dX ops o,ws:=o.dst.toList,ro:=fo s args,wo:=fo s args,mv:=(fo s args).filter (fM false s (iZ args)) }:=by
  unfold pY;rw [PG]
 rw [hF];have Sn:=PG;unfold ox at Sn;split at Sn
 ·rename_i g0 pre caps vs hfn hvs
  simp only [Option.some.injEq,Prod.mk.injEq] at Sn;obtain ⟨rfl,rfl⟩:=Sn;unfold fF at hst;rw [hfn,hvs] at hst;simp only [hsy] at hst;obtain ⟨dc,hst⟩:=Bn hst;split at hst
  ·rename_i bT tL
   split at hst
   ·rename_i r dO eH
    split at hst
    ·rename_i back qO
     obtain ⟨Ea,hst⟩:=Bn hst;injection hst with hst
     generalize uq:eW s 200 ((pre++(vs++caps)).flatMap SV.ids) []=ids at dc tL eH qO hst;have hro:fo s (pre++(vs++caps))=ids:=uq;rw [hro];have hfst:(fC (fM false s (iZ (pre++(vs++caps)))) 0 ids).map (·.1)=ids:=nU _ _ _;refine ⟨s'.env,s'.ob,(ids.filter (fM false s (iZ (pre++(vs++caps))))).map fun i=>(i,none),fun p hp=> ?_,fun j _ hk=>(by cases hk),fun x h1 h2 _=> ?_⟩
     ·obtain ⟨i,hi,rfl⟩:=List.mem_map.1 hp;exact hi
     ·have k1:aR P 0 x f=aR P 0 s f:=E0 x h1 f hfo 0
      have k2:og P h x c.args.toList c.argTypes.toList=og P h s c.args.toList c.argTypes.toList:=sC fun y hy ty=>E0 x h1 y (hargs y hy) ty
      have k3:eW x 200 ((pre++(vs++caps)).flatMap SV.ids) []=ids:=by
       rw [←uq];exact (lK 200 _ _ fun id hid=>(h2 id (by rw [uq] at hid;exact hid)).symm).symm
      have k4:∀id∈ids,fM false x (iZ (pre++(vs++caps))) id=fM false s (iZ (pre++(vs++caps))) id:=fun id hid=>by
       simp only [fM,Oi,h2 id hid]
      have k5:∀(l:List Nat) (n:Nat),(∀id∈l,id∈ids)→fC (fM false x (iZ (pre++(vs++caps)))) n l=fC (fM false s (iZ (pre++(vs++caps)))) n l:=by
       intro l
       induction l with
       |nil=>intro n _;rfl
       |cons i l ih=>intro n hl;simp only [fC];rw [k4 i (hl i (by simp)),ih _ fun z hz=>hl z (by simp [hz])]
      have k6:=k5 ids 0 fun _ h=>h
      have k7:gJ x ids (kJ (fC (fM false s (iZ (pre++(vs++caps)))) 0 ids)) (fC (fM false s (iZ (pre++(vs++caps)))) 0 ids)=some bT:=by
       rw [←tL]
       exact ri fun p hp=>h2 p.1 (by
        have:p.1∈(fC (fM false s (iZ (pre++(vs++caps)))) 0 ids).map (·.1):=List.mem_map.2 ⟨p,hp,rfl⟩
        rwa [hfst] at this)
      have k8:ids.filter (fM false x (iZ (pre++(vs++caps))))=ids.filter (fM false s (iZ (pre++(vs++caps)))):=List.filter_congr fun i hi=>k4 i hi
      rw [he x h1];unfold fF;rw [k1,k2,hfn,hvs];simp only [hsy,k3,k6,dc,cond_true,k7,eH,qO,Ea,k8];refine congrArg some (St.same (fun t=> ?_) (fun j=> ?_))
      ·simp only [di]
       cases rD:o.dst with
       |none=>
        simp only [Option.toList_none,List.not_mem_nil,if_false,St.set];exact kR _ x t
       |some d=>
        by_cases e:d=t
        ·subst e;rw [if_pos (by simp),←hst,rD];simp only [St.set,bH]
        ·rw [if_neg (by simp;exact fun h=>e h.symm)]
         simp only [St.set,aQ _ _ e];exact kR _ x t
      ·have L4:∀(y:St) (v:SV),(St.set y o.dst v).ob=y.ob:=fun y v=>by cases o.dst<;>rfl
       simp only [di,L4];by_cases e:j∈ids
       ·rw [if_pos e,←hst,L4]
        simp only;rw [nj _ x s j (h2 j e)]
       ·rw [if_neg e]
        have hb:find back j=none:=by
         cases hf:find back j with
         |none=>rfl
         |some o'=>exact absurd (hfst▸back_mem qO hf) e
        rw [hb];show (fe _ x).ob j=_;exact qt _ x j fun hm=>e (List.mem_filter.1 hm).1
    ·cases hst
   ·cases hst
  ·cases hst
 ·cases Sn
theorem YY {ops:Array Oper} {o:Oper} {s s':St} {t:TypeId} {a y:Operand} {id sz i off j:Nat} (ho:o.op= .store t a y) (ha:aR P 0 s a=some (.rp id sz i off)) (hy:aR P t s y=some (.row j)) (hst:step0 P h aZ o s=some s') (hall:(gC P h ops o s).all=false):
  ∃ev ov m,gm (step0 P h aZ o) s (gC P h ops o s) ev ov m:=by
 obtain ⟨F,hF⟩:∃F,gC P h ops o s=F:=⟨_,rfl⟩
 rw [hF] at hall⊢;unfold gC at hF;rw [ho] at hF;cases rD:o.dst with
 |some d=>rw [rD] at hF;subst hF;cases hall
 |none=>
  rw [rD] at hF;simp only [xU,ha,hy] at hF;subst hF;have he:∀x:St,aR P 0 x a=some (.rp id sz i off)→aR P t x y=some (.row j)→step0 P h aZ o x=AS P x t id sz i off j:=fun x h1 h2=>by
   have hfn:cI P h aZ o x=none:=by simp [cI,ho,c7]
   unfold step0;rw [hfn];simp only [iM,ho,rD,h1,h2]
  rw [he s ha hy] at hst;unfold AS at hst;split at hst
  ·rename_i e sz' k e' s2 xs ys e2 s3 zs hagg hsz cu xZ
   cases hb:(Nat.beq sz sz'&&Nat.beq off k&&Nat.blt id 10000&&Nat.blt j 10000&&Nat.beq e' e2&&Nat.beq s2 s3&&Nat.blt i ys.length&& !(Nat.beq id j)) with
   |false=>rw [hb] at hst;cases hst
   |true=>
   rw [hb] at hst;simp only [cond_true,Option.some.injEq] at hst;have hne:id≠j:=fun e=>by subst e;simp [Nat.beq_refl] at hb
   refine ⟨s'.env,s'.ob,[(j,none),(id+40000,none)],by simp,fun q hq hk=> ?_,fun x h1 h2 _=> ?_⟩<;>subst hst
   ·have hk':q=id:=by
     simp only [Bool.and_eq_true] at hk;exact beq_iff.1 hk.1
    subst hk';rw [cu];simp only [bH,Option.map_some,Ob.kL]
   ·have E0:∀z∈o.op.operands.toList,∀ty,aR P ty x z=aR P ty s z:=fun z hz ty=>gv (fun u e=>h1 u (by
     subst e
     exact List.mem_append_left _ (List.mem_filterMap.2 ⟨.tmp u,hz,rfl⟩))) ty
    have k1:=E0 a (by rw [ho];simp [Op.operands]) 0;have k2:=E0 y (by rw [ho];simp [Op.operands]) t;have x1:x.ob id=some (.rn e sz' k e' s2 xs ys):=(h2 id (by simp)).trans cu;have x2:x.ob j=some (.row e2 s3 zs):=(h2 j (by simp)).trans xZ;rw [he x (k1.trans ha) (k2.trans hy)];unfold AS;simp only [hagg,hsz,x1,x2,hb,cond_true];refine congrArg some (St.same (fun u=> ?_) (fun u=> ?_))
    ·simp only [di,List.not_mem_nil,if_false]
     exact kR [j,id+40000] x u
    ·simp only [di,List.mem_cons,List.not_mem_nil,or_false]
     by_cases e:u=id
     ·subst e;simp only [true_or,if_true,bH]
     ·simp only [aQ _ _ (fun h=>e h.symm)]
      by_cases e2:u=j
      ·rw [if_pos (.inr (.inl e2))]
       exact nj [j,id+40000] x s u (by rw [e2];exact h2 j (by simp))
      ·by_cases e3:u=id+40000
       ·rw [if_pos (.inr (.inr e3)),e3]
        simp only [St.cn,bH]
       ·rw [if_neg (by simp [e,e2,e3])]
        exact qt [j,id+40000] x u (by simp [e2,e3])
  ·cases hst
theorem LK {ops:Array Oper} {o:Oper} {s s':St} (hst:step0 P h aZ o s=some s') (hall:(gC P h ops o s).all=false):
  ∃ev ov m,gm (step0 P h aZ o) s (gC P h ops o s) ev ov m:=by
 by_cases hld:∃t x,o.op= .load t x
 ·obtain ⟨t,a,ho⟩:=hld;exact Wh ho hst hall
 by_cases hpt:∃t a x id sz i off j,o.op= .store t a x∧aR P 0 s a=some (.rp id sz i off)∧aR P t s x=some (.row j)
 ·obtain ⟨t,a,x,id,sz,i,off,j,ho,ha,hx⟩:=hpt;exact YY ho ha hx hst hall
 by_cases hct:∃t a x id off j sz lo hi,o.op= .store t a x∧aR P 0 s a=some (.ptr id off)∧aR P t s x=some (.sub j sz lo hi)
 ·obtain ⟨t,a,x,id,off,j,sz,lo,hi,ho,ha,hx⟩:=hct
  unfold gC at hall;rw [ho] at hall;cases rD:o.dst with
  |some d=>rw [rD] at hall;cases hall
  |none=>rw [rD] at hall;simp only [xU,ha,hx] at hall;cases hall
 have go:∀{l:List (Nat×Option AV)},(∀p∈l,p.1∈(gC P h ops o s).mv)→(∀t∈dX ops o,t∈(gC P h ops o s).rs)→(∀x:St,(∀t∈(gC P h ops o s).rs,x.env t=s.env t)→(∀j∈(gC P h ops o s).ro,x.ob j=s.ob j)→step0 P h aZ o x=some (di (gC P h ops o s) s'.env s'.ob l x))→
   ∃ev ov m,gm (step0 P h aZ o) s (gC P h ops o s) ev ov m:=fun hk _ hrun=>⟨_,_,_,hk,fun j _ hj=>(by rw [kp_E0 hld hpt] at hj;cases hj),fun x h1 h2 _=>hrun x h1 h2⟩
 obtain ⟨F,hF⟩:∃F,gC P h ops o s=F:=⟨_,rfl⟩
 rw [hF] at hall go⊢;unfold gC at hF;split at hF
 ·
  rename_i t ax ay ot hdn
  replace hF:vf P ops o s ax=F:=by
   rw [←hF];unfold xU;split
   ·rename_i h1 h2;exact absurd ⟨_,_,_,_,_,_,_,_,ot,h1,h2⟩ hpt
   ·rename_i h1 h2;exact absurd ⟨_,_,_,_,_,_,_,_,_,ot,h1,h2⟩ hct
   ·rfl
  unfold vf at hF;split at hF
  ·rename_i id hx
   subst hF;obtain ⟨sa,hsa,htg⟩:=Option.bind_eq_some_iff.1 hx;have hfn:∀x,cI P h aZ o x=none:=fun x=>by simp [cI,ot,c7]
   have PJ:=hst;unfold step0 at PJ;rw [hfn] at PJ;simp only [iM,hdn,ot,hsa] at PJ;split at PJ
   ·rename_i h1 h2
    injection h1 with h1;subst h1
    exact absurd ⟨_,_,_,_,_,_,_,_,ot,hsa,h2⟩ hpt
   ·rename_i h1 h2
    injection h1 with h1;subst h1
    exact absurd ⟨_,_,_,_,_,_,_,_,_,ot,hsa,h2⟩ hct
   ·rename_i sa' sv _ hnr e1 hy
    injection e1 with e1;subst e1
    obtain ⟨l1,l2,l3⟩:=EE PJ htg;refine go (l:=[]) (by simp) (fun t ht=>ht) fun x h1 h2=> ?_
    have E0:∀y∈o.op.operands.toList,∀ty,aR P ty x y=aR P ty s y:=fun y hy' ty=>gv (fun u e=>h1 u (by
     subst e
     exact List.mem_append_left _ (List.mem_filterMap.2 ⟨.tmp u,hy',rfl⟩))) ty
    have k1:=E0 ax (by rw [ot];simp [Op.operands]) 0;have k2:=E0 ay (by rw [ot];simp [Op.operands]) t;unfold step0;rw [hfn];have hsel:iM P h aZ o x=storeAt P t x sa sv:=by
     simp only [iM,hdn,ot,k1,k2,hsa,hy]
    simp only;rw [hsel,l3 x (h2 id (by simp)) fun j hj=>h2 j (List.mem_cons_of_mem _ (pJ (P:=P) (x:=ay) (ty:=t) (by rw [ot];simp [Op.operands]) hy hj))]
    congr 1
    refine St.same (fun u=> ?_) (fun u=> ?_)
    ·simp only [di,List.not_mem_nil,if_false]
     exact (fu fun _=>rfl).symm
    ·simp only [di,List.mem_singleton]
     by_cases e:u=id
     ·subst e;simp [bH]
     ·rw [if_neg e,aQ _ _ (fun h=>e h.symm)]
      exact (fu yb).symm
   ·cases PJ
  ·subst hF;cases hall
 ·
  rename_i t d ot rD;cases hrw:h.rows.contains d with
  |true=>rw [hrw] at hF;subst hF;cases hall
  |false=>
   rw [hrw] at hF;simp only [cond_false] at hF;subst hF;have he:∀x,step0 P h aZ o x=match Fx P h (some d) t with
    |some z=>some ((x.new d (.box t (z.map .pv))).set (some d) (.ptr d 0))
    |none=>none:=fun x=>by
    have hfn:cI P h aZ o x=none:=by simp [cI,ot,c7]
    unfold step0;rw [hfn];simp only [iM,rD,ot,hrw,cond_false];rfl
   rw [he] at hst;split at hst
   ·rename_i z hz
    injection hst with hst;subst hst
    refine go (l:=[(d,none)]) (by simp) (fun t ht=>ht) fun x h1 h2=> ?_
    rw [he,hz];simp only;rw [Dh (f:={ rs:=dX ops o,ws:=[d],wo:=[d],mv:=[d] }) (s:=s) rfl rfl]
   ·cases hst
 ·
  rename_i t len parts d ot rD;cases hrw:h.rows.contains d with
  |false=>rw [hrw] at hF;subst hF;cases hall
  |true=>
   rw [hrw] at hF;simp only [cond_true] at hF;subst hF;have he:∀x,step0 P h aZ o x=match gr P t len parts.toList x with
    |some (e,s,xs)=>match find h.nest d with
     |none=>some ((x.new d (.row e s xs)).set (some d) (.row d))
     |some (k,e',s')=>bif Nat.blt k s&&xs.all (kQ k) then some ((x.new d (.rn e s k e' s' (xs.map fun c=>c.set k .hole) (xs.map fun _=>some []))).set (some d) (.row d)) else none
    |none=>none:=fun x=>by
    have hfn:cI P h aZ o x=none:=by simp only [cI,ot,rD,Option.any_some,hrw,cond_true]
    unfold step0;rw [hfn];simp only [iM,rD,ot];rfl
   have hl:∀x:St,(∀t∈dX ops o,x.env t=s.env t)→gr P t len parts.toList x=gr P t len parts.toList s:=fun x h1=>by
    unfold gr
    have hp:∀ty,partsOf P ty x parts.toList=partsOf P ty s parts.toList:=fun ty=>nD (fun y hy t=>gv (fun u e=>h1 u (by
     subst e
     exact List.mem_append_left _ (List.mem_filterMap.2 ⟨.tmp u,by rw [ot];simpa [Op.operands] using hy,rfl⟩))) t)
    simp only [hp]
   rw [he] at hst;obtain ⟨ob,hs',hrun⟩:∃ob:Ob,s'=(s.new d ob).set (some d) (.row d)∧∀x:St,gr P t len parts.toList x=gr P t len parts.toList s→step0 P h aZ o x=some ((x.new d ob).set (some d) (.row d)):=by
    split at hst
    ·rename_i e sz xs hlit
     split at hst
     ·rename_i hn
      injection hst with hst
      exact ⟨_,hst.symm,fun x hx=>by rw [he,hx,hlit];simp only [hn]⟩
     ·rename_i k e' s2 hn
      obtain ⟨hb,hst⟩:=Bn hst;injection hst with hst
      exact ⟨_,hst.symm,fun x hx=>by rw [he,hx,hlit];simp only [hn,hb,cond_true]⟩
    ·cases hst
   subst hs';refine go (l:=[(d,none)]) (by simp) (fun t ht=>ht) fun x h1 h2=> ?_
   rw [hrun x (hl x h1),Dh (f:={ rs:=dX ops o,ws:=[d],wo:=[d],mv:=[d] }) (s:=s) rfl rfl]
 ·rename_i c ot
  split at hF
  ·
   rename_i hc;unfold Gb at hF;split at hF
   ·rename_i x y t t' d hargs ou rD
    split at hF
    ·rename_i id hx
     subst hF;obtain ⟨ob,hs',hrun⟩:=Rs ot hc hargs ou rD hx hst;subst hs';refine go (l:=[(id,none)]) (by simp) (fun t ht=>ht) fun x h1 h2=> ?_
     rw [hrun x (fun t ht=>h1 t (by simp [dX,ht])) h2,Dh (f:={ rs:=dX ops o,ws:=[d],ro:=id::vQ s o,wo:=[id],mv:=[id] }) (s:=s) rfl rfl]
    ·rename_i id hx
     subst hF;obtain ⟨ob,hs',hrun⟩:=O6 ot hc hargs ou rD hx hst;subst hs';refine go (l:=[(id,none)]) (by simp) (fun t ht=>ht) fun x h1 h2=> ?_
     rw [hrun x (fun t ht=>h1 t (by simp [dX,ht])) h2,Dh (f:={ rs:=dX ops o,ws:=[d],ro:=id::vQ s o,wo:=[id],mv:=[id] }) (s:=s) rfl rfl]
    ·subst hF;cases hall
   ·subst hF;cases hall
  ·
   rename_i f hc;cases Ym:(o.dst.any h.owns.contains&& !(o.dst.any (fun d=>(qQ h d).isSome))) with
   |false=>
    rw [Ym] at hF;simp only [cond_false] at hF;cases hmn:(!(o.dst.any h.owns.contains)&&(!(o.dst.any h.stay.contains)&&wide s c f)) with
    |false=>rw [hmn] at hF;subst hF;cases hall
    |true=>
     rw [hmn] at hF;simp only [cond_true] at hF;rw [←hF] at hall⊢;simp only [Bool.and_eq_true,Bool.not_eq_true'] at hmn;exact VK ot hc hmn.1 hmn.2.1 hmn.2.2 hst hall
   |true=>
    rw [Ym] at hF;simp only [cond_true] at hF;subst hF;obtain ⟨how,CG⟩:=Bool.and_eq_true_iff.1 Ym;have he:∀x,step0 P h aZ o x=gz P h aZ x c f o.dst:=fun x=>by
     have hfn:cI P h aZ o x=none:=by simp only [cI,ot,hc,how,cond_true]
     unfold step0;rw [hfn];cases rD:o.dst with
     |none=>rw [rD] at how;cases how
     |some d=>
      rw [rD] at how;simp only [iM,ot,hc,rD,how,cond_true]
    have E0:∀x:St,(∀t∈dX ops o,x.env t=s.env t)→∀y∈o.op.operands.toList,∀ty,aR P ty x y=aR P ty s y:=fun x h1 y hy' ty=>gv (fun u e=>h1 u (by
     subst e
     exact List.mem_append_left _ (List.mem_filterMap.2 ⟨.tmp u,hy',rfl⟩))) ty
    rw [he] at hst;unfold gz at hst;split at hst
    ·rename_i d rD
     have hn:(qQ h d).isSome=false:=by simpa [rD] using CG
     rw [hn] at hst;split at hst
     ·rename_i g caps vs hf hvs
      split at hst
      rotate_left
      ·rename_i cs' hr
       have:qQ h d=none:=by simpa using hn
       rw [this] at hst;cases hst
      ·cases hst
      rename_i e sz xs hr;injection hst with hst;subst hst
      refine go (l:=[(d,none)]) (by simp [rD]) (fun t ht=>ht) fun x h1 h2=> ?_
      have k1:=E0 x h1 f (by rw [ot];simp [Op.operands,Call.operands,hc]) 0;have k2:=uJ (P:=P) (b:=false) (st:=x) (st':=s) (xs:=c.args.toList) (ts:=c.argTypes.toList) (fun y hy=>E0 x h1 y (by rw [ot];simp only [Op.operands,Call.operands,Array.toList_append,List.mem_append];exact .inr hy));rw [he];unfold gz;rw [rD];simp only [hn,k1,k2,hf,hvs,hr,cond_false];exact congrArg some (Dh (f:={ rs:=dX ops o,ws:=(some d).toList,wo:=(some d).toList,mv:=(some d).toList }) (s:=s) rfl rfl)
     ·cases hst
    ·cases hst
  ·subst hF;cases hall
 ·rename_i hq _;exact absurd ⟨_,_,hq⟩ hld
 ·subst hF;cases hall
theorem JD {ops:Array Oper} {o:Oper}:∀{l:List Nat} {s s':St},(gM l s).bind (step0 P h aZ o)=some s'→(Av P h ops o l s).all=false→∃ev ov m,gm (fun x=>(gM l x).bind (step0 P h aZ o)) s (Av P h ops o l s) ev ov m
 |[],s,s',hst,hall=>by
  simp only [gM,Option.bind_some] at hst⊢;simp only [Av] at hall⊢;cases hF:SE h s o with
  |false=>rw [hF] at hall;simp only [cond_false] at hall⊢;exact LK hst hall
  |true=>
   rw [hF] at hall;simp only [cond_true] at hall⊢;cases hW:(isW o.op||Vy s o.op) with
   |false=>rw [hW] at hall;cases hall
   |true=>
    simp only [cond_true];cases hv:cI P h aZ o s with
    |some v=>exact ⟨_,_,_,KT hv⟩
    |none=>
     exfalso;unfold step0 at hst;rw [hv] at hst;simp only at hst;cases ho:o.op with
     |buildSlice t len parts=>
      simp only [SE,ho] at hF;have hF:o.dst.any h.rows.contains=false:=by simpa using hF
      simp only [cI,ho,hF,cond_false,Option.map_eq_none_iff] at hv;cases hd:o.dst<;>simp [iM,ho,hd,hv] at hst
     |build t parts=>
      simp only [SE,ho] at hF;have hF:o.dst.any h.rows.contains=false:=by simpa using hF
      cases hd:o.dst with
      |none=>simp [iM,ho,hd] at hst
      |some d=>
       rw [hd] at hF;have hF':h.rows.contains d=false:=hF;simp only [iM,ho,hd,hF',cond_false] at hst;cases hst
     |load t x=>
      simp only [SE,ho] at hF;have hF:o.dst.any h.take.contains=false:=by simpa using hF
      cases hd:o.dst with
      |none=>simp [iM,ho,hd] at hst
      |some d=>
       rw [hd] at hF;have hF':h.take.contains d=false:=hF;simp only [iM,ho,hd,hF',cond_false] at hst;cases hst
     |call c=>
      simp only [isW,ho,Bool.false_or,Vy] at hW;cases hc:c.callee with
      |value f=>
       rw [hc] at hW;simp only [Bool.not_eq_true'] at hW;have hno:∀x∈c.args.toList,gx s x=false:=fun x hx=>by
        have:=List.any_eq_false.1 hW x hx;simpa using this
       have hag:c.args.toList.any (qz s)=false:=by
        rw [List.any_eq_false];intro x hx ha;have h1:=hno x hx;cases x with
        |tmp i=>
         simp only [qz] at ha;simp only [gx] at h1;cases hi:s.env i with
         |none=>rw [hi] at ha;cases ha
         |some v=>rw [hi] at ha h1;cases v<;>first|exact absurd ha Bool.false_ne_true|cases h1
        |_=>cases ha
       have dQ:∀l:List Operand,(∀x∈l,gx s x=false)→iM.eE s l=some s:=by
        intro l
        induction l with
        |nil=>intro _;rfl
        |cons x l ih=>
         intro hl;have h1:=hl x (by simp);have h2:=ih fun y hy=>hl y (by simp [hy])
         cases x with
         |tmp i=>
          simp only [iM.eE];simp only [gx] at h1;cases hi:s.env i with
          |none=>exact h2
          |some v=>rw [hi] at h1;cases v<;>first|exact h2|exact absurd h1.symm Bool.false_ne_true
         |_=>exact h2
       have hpa:iM.fk s c.args.toList=some s:=by
        unfold iM.fk;rw [hag];exact dQ _ hno
       simp only [SE,ho,hc,Bool.and_eq_true,Bool.not_eq_true',Bool.or_eq_true] at hF;obtain ⟨how,hF⟩:=hF
       have he:iM P h aZ o s=(bif o.dst.any h.owns.contains then gz P h aZ s c f o.dst else bif o.dst.any h.stay.contains&&wide s c f then none else bif wide s c f then fF P h aZ s c f o.dst else bif c.args.toList.any (fun x=>(jD h s x).isSome) then jN P h aZ s c f o.dst else
        match iM.fk s c.args.toList with
        |some st'=>match aR P 0 st' f,fq P st' c.args.toList c.argTypes.toList with
         |some (.pv (.fn g caps)),some vs=>match aZ g ((vs++caps).map .pv) [] with
          |some (r,[])=>bif c.args.toList.any (gx st')|| !r.gu then none else some (st'.set o.dst (.pv r))
          |_=>none
         |_,_=>none
        |none=>none):=by
        cases hd:o.dst<;>simp only [iM,ho,hc,hd]<;>rfl
       rw [he,how] at hst;simp only [cond_false] at hst;rcases hF with hF|hF
       ·rw [hF.1,hF.2] at hst
        simp at hst
       ·obtain ⟨PK,hrf⟩:=(Bool.or_eq_false_iff).1 hF
        rw [PK,hrf,hpa] at hst;simp only [Bool.and_false,cond_false] at hst;simp only [cI,ho,hc] at hv;rw [how,PK,hrf] at hv;simp only [Bool.and_false,cond_false,Bool.or_self] at hv;split at hst
        ·rename_i g caps vs h1 h2
         rw [h1,h2] at hv;simp only at hv;split at hst
         ·rename_i r hr
          rw [hr] at hv;simp only [hW,Bool.not_false,Bool.true_or,Bool.true_and,Bool.false_or] at hv hst;cases Ea:r.gu with
          |true=>rw [Ea] at hv;cases hv
          |false=>rw [Ea] at hst;cases hst
         ·cases hst
        ·cases hst
      |_=>rw [hc] at hW;cases hW
     |_=>simp [isW,Vy,ho] at hW
 |t::l,s,s',hst,hall=>by
  simp only [gM] at hst;have hst:((nh s t).bind (gM l)).bind (step0 P h aZ o)=some s':=hst;cases h1:nh s t with
  |none=>rw [h1] at hst;cases hst
  |some s1=>
   rw [h1] at hst;simp only [Option.bind_some] at hst;simp only [Av,h1] at hall⊢;have hall2:(Av P h ops o l s1).all=false:=by
    simp only [dF.then,Bool.or_eq_false_iff] at hall;exact hall.2
   obtain ⟨ev,ov,m,r1⟩:=Qc h1;obtain ⟨ev',ov',m',r2⟩:=JD hst hall2;have e1:=r1.at h1;rw [e1] at r2;obtain ⟨Zi,Zy,r3⟩:=OU r1 r2;rw [←e1] at r3;refine ⟨Zi,Zy,_,r3.1,r3.2.1,fun x k1 k2 k3=> ?_⟩;rw [←r3.2.2 x k1 k2 k3];simp only [gM];cases nh x t<;>rfl
theorem Pq {ops:Array Oper} {k:Nat} {o:Oper} {s s':St} (ho:ops[k]? =some o) (hw:j6 ops o s=some true) (hst:step P h aZ o s=some s') (hall:((kC P h ops o s).fill s s').all=false):
  ∃ev ov m,BS (kY P h aZ ops k) s ((kC P h ops o s).fill s s') ev ov m∧IU s ((kC P h ops o s).fill s s'):=by
 have hall:(kC P h ops o s).all=false:=hall;have Z9:(Av P h ops o (tR h o) s).all=false:=by
  simp only [kC,dF.then,Bool.or_false] at hall;exact hall
 obtain ⟨ev,ov,m,r⟩:=JD (l:=tR h o) hst Z9;have r':gm (step P h aZ o) s (kC P h ops o s) ev ov m:=r.imp (fun t ht=>by simp [kC,dF.then,ht]) (fun t ht=>by simp [kC,dF.then,ht]) (fun t ht=>by simp [kC,dF.then,ht]) (fun t=>by simp [kC,dF.then]) (fun t=>by simp [kC,dF.then]) (fun t ht=>by simp [kC,dF.then,ht]) (fun t ht hk=>by simpa [kC,dF.then,ht] using hk);have e:=r'.at hst;refine F9 r'.1 (fun x h1 h2 h3=> ?_) fun j hj hk=> ?_
 rotate_left
 ·rw [e,ZA hj];exact r'.2.1 j hj hk
 simp only [kY,ho];rw [tI (st':=s) fun t ht=>h1 t (by simp [kC,dF.then,ht]),hw];simp only;rw [r'.2.2 x h1 h2 h3,e]
 congr 1
 refine St.same (fun t=> ?_) (fun j=> ?_)
 ·simp only [di]
  by_cases a:t∈(kC P h ops o s).ws
  ·simp only [a,if_true]
  ·simp only [a,if_false]
 ·simp only [di]
  by_cases a:j∈(kC P h ops o s).wo
  ·simp only [a,if_true]
  ·simp only [a,if_false]
theorem Y3 {ops:Array Oper}:∀(l:List Oper) (i:Nat) (prev:List (Nat×dF)) (st s:St),(∀k o,l[k]? =some o→ops[i+k]? =some o)→fO P h aZ ops i l prev st=some s→
  ∃fs:List (Nat×dF),fs.length=l.length∧(∀j,j∈fs.map (·.1)↔i≤j∧j<i+l.length)∧fs.Pairwise (fun p q=>p.1<q.1)∧FD (kY P h aZ ops) fs st s∧
   (∀p∈prev,∀q∈fs,p.2.conflict q.2=true→reach ops 12 q.1 p.1=true)∧fs.Pairwise (fun p q=>p.2.conflict q.2=true→reach ops 12 q.1 p.1=true):=by
 intro l
 induction l with
 |nil=>
  intro i prev st s _ hr;simp only [fO,Option.some.injEq] at hr;exact ⟨[],rfl,by simp, .nil,hr,by simp, .nil⟩
 |cons o l ih=>
  intro i prev st s hal hr;have ho:ops[i]? =some o:=by simpa using hal 0 o (by simp)
  have cont:∀(f:dF) (st1:St),kY P h aZ ops i st=some st1→(f.all=false→∃ev ov m,BS (kY P h aZ ops i) st f ev ov m∧IU st f)→rf ops prev i f=true→fO P h aZ ops (i+1) l ((i,f)::prev) st1=some s→
    ∃fs:List (Nat×dF),fs.length=(o::l).length∧(∀j,j∈fs.map (·.1)↔i≤j∧j<i+(o::l).length)∧fs.Pairwise (fun p q=>p.1<q.1)∧FD (kY P h aZ ops) fs st s∧
     (∀p∈prev,∀q∈fs,p.2.conflict q.2=true→reach ops 12 q.1 p.1=true)∧fs.Pairwise (fun p q=>p.2.conflict q.2=true→reach ops 12 q.1 p.1=true):=fun f st1 h1 h2 h3 h4=>by
   obtain ⟨fs,k0,k1,k2,k3,k4,k5⟩:=ih (i+1) ((i,f)::prev) st1 s (fun k o' hk=>by
    have:=hal (k+1) o' (by simpa using hk)
    rwa [show i+(k+1)=i+1+k from by omega] at this) h4
   refine ⟨(i,f)::fs,by simp [k0],fun j=> ?_, .cons (fun q hq=> ?_) k2,⟨st1,h1,h2,k3⟩,fun p hp q hq hc=> ?_, .cons (fun q hq=>k4 (i,f) (by simp) q hq) k5⟩
   ·simp only [List.map_cons,List.mem_cons,k1,List.length_cons];omega
   ·have:=(k1 q.1).1 (List.mem_map.2 ⟨q,hq,rfl⟩)
    show i<q.1;omega
   ·rcases List.mem_cons.1 hq with rfl|hq
    ·have:=List.all_eq_true.1 h3 p hp
     simpa [hc] using this
    ·exact k4 p (by simp [hp]) q hq hc
  simp only [fO] at hr;split at hr
  ·cases hr
  ·rename_i b hw
   cases b with
   |false=>
    simp only [cond_false] at hr;cases hfo:rf ops prev i ((nQ ops o).fill st (st.set o.dst .undef)) with
    |false=>simp [hfo] at hr
    |true=>simp only [hfo,cond_true] at hr;exact cont _ _ (by simp only [kY,ho,hw]) (fun _=>Wb ho hw) hfo hr
   |true=>
    simp only [cond_true] at hr;cases hF:(SE h st o&&(tR h o).isEmpty) with
    |true=>
     have hpe:tR h o=[]:=by simp only [Bool.and_eq_true] at hF;exact List.isEmpty_iff.1 hF.2
     simp only [hF,cond_true] at hr;cases hf:cI P h aZ o st with
     |none=>simp [hf] at hr
     |some v=>
      simp only [hf] at hr;cases hc:rf ops prev i ((pZ P h ops o st).fill st (st.set o.dst v)) with
      |false=>simp [hc] at hr
      |true=>simp only [hc,cond_true] at hr;exact cont _ _ (by simp only [kY,ho,hw,step,hpe,gM,Option.bind_some,step0,hf]) (fun _=>Up ho hw hpe hf) hc hr
    |false=>
     simp only [hF,cond_false] at hr;cases hs:step P h aZ o st with
     |none=>simp [hs] at hr
     |some st1=>
      simp only [hs] at hr;cases hc:rf ops prev i ((kC P h ops o st).fill st st1) with
      |false=>simp [hc] at hr
      |true=>simp only [hc,cond_true] at hr;exact cont _ _ (by simp only [kY,ho,hw,hs]) (fun ha=>Pq ho hw hs ha) hc hr
theorem Ph:∀{l:List Oper} {i:Nat},mL i l=true→∀(p:Nat) (o:Oper),l[p]? =some o→∀e∈o.after.toList,Region.binds .any e=true→e.on<i+p:=by
 intro l
 induction l with
 |nil=>intro i _ p o ho;simp at ho
 |cons x l ih=>
  intro i hs p o ho e he hb;simp only [mL,Bool.and_eq_true] at hs;cases p with
  |zero=>
   simp at ho;subst ho;have:=List.all_eq_true.1 hs.1 e he;simp only [hb,Bool.not_true,Bool.false_or,Nat.blt_eq] at this;omega
  |succ p=>
   simp at ho;have:=ih hs.2 p o ho e he hb;omega
theorem Hs {ops:Array Oper} {D:Nat→Prop} (Bg:∀j o,D j→ops[j]? =some o→∀e∈o.after.toList,Region.binds .any e=true→D e.on):
  ∀(n i j:Nat),(∀o,ops[i]? =some o→∀e∈o.after.toList,Region.binds .any e=true→D e.on)→reach ops n i j=true→D j:=by
 intro n
 induction n with
 |zero=>intro i j _ h;simp [reach] at h
 |succ n ih=>
  intro i j Ay h;simp only [reach] at h;cases ho:ops[i]? with
  |none=>simp [ho] at h
  |some o=>
   simp only [ho,Bool.or_eq_true] at h;rcases h with h|h
   ·simp only [RP,List.any_eq_true,Bool.and_eq_true] at h
    obtain ⟨e,he,hb,hon⟩:=h;have:=Ay o ho e he hb
    rwa [beq_iff.1 hon] at this
   ·simp only [List.any_eq_true,Bool.and_eq_true] at h
    obtain ⟨e,he,hb,hr⟩:=h;exact ih e.on j (fun o' ho' e' he' hb'=>Bg e.on o' (Ay o ho e he hb) ho' e' he' hb') hr
theorem Rel.cn {N:Nat} {w0:World} {μ0:Mu} {L:mG} {μ:Mu} {loc:Nat→Value} {st:St} {a:Act} {w:World} (hR:Rel N w0 μ0 L μ loc st a w) (id:Nat):Rel N w0 μ0 L μ loc (st.cn id) a w:=by
 have sJ:∀j o,(st.cn id).ob j=some o→∃o',st.ob j=some o'∧o=o'.cn id:=fun j o ho=>by
  simp only [St.cn] at ho;by_cases e:id=j
  ·subst e;simp [bH] at ho
  ·simp only [aQ _ _ e] at ho
   cases h1:st.ob j with
   |none=>simp [h1] at ho
   |some o'=>simp [h1] at ho;exact ⟨o',rfl,ho.symm⟩
 refine { hR with env:=fun i sv he=> ?_,obs:=fun j o ho=> ?_,apart:=fun i j oi oj hi hj=> ?_ }
 ·simp only [St.cn] at he
  cases h1:st.env i with
  |none=>simp [h1] at he
  |some s=>
   simp [h1] at he;subst he;obtain ⟨v,hv,hs⟩:=hR.env i s h1;exact ⟨v,hv,er hs⟩
 ·obtain ⟨o',ho',rfl⟩:=sJ j o ho
  have:=hR.obs j o' ho';cases o' with
  |row e sz xs=>exact this
  |mp k e ks vs=>exact this
  |mr k e s ks vs=>exact this
  |rn e s k e' s' xs ys=>exact this
  |it s n=>exact this
  |lp s=>exact this
  |box t cells=>
   obtain ⟨b,vs,h1,h2,h3,h4,h5,h6⟩:=this;refine ⟨b,vs,h1,h2,h3,h4,?_,h6⟩;clear h3 h6 ho' ho
   induction cells generalizing vs with
   |nil=>exact h5
   |cons c cs ih=>
    obtain ⟨u,us,rfl,k1,k2⟩:=h5;exact ⟨u,us,rfl,er k1,ih us k2⟩
 ·obtain ⟨Ra,hi',_⟩:=sJ i oi hi
  obtain ⟨Kj,hj',_⟩:=sJ j oj hj;exact hR.apart i j Ra Kj hi' hj'
theorem Rel.mj {N:Nat} {w0:World} {μ0:Mu} {L:mG} {μ:Mu} {loc:Nat→Value} {a:Act} {w:World}:∀(l:List Nat) (st:St),Rel N w0 μ0 L μ loc st a w→Rel N w0 μ0 L μ loc (AM.mj l st) a w
 |[],_,hR=>hR
 |p::l,st,hR=>Rel.mj l (st.cn p) (hR.cn p)
end
section
variable {P:Program} {N:Nat} {w0:World} {μ0:Mu} {L:mG} {h:Hint} {aZ:cL} {Q:Exit→Act→World→Prop}
theorem LG (eH:dL L.q μ0 P aZ) {ops:Array Oper} {st stF:St} (Ya:mL 0 ops.toList=true)
  (hrun:fO P h aZ ops 0 ops.toList [] (mj (rG ops.toList) st)=some stF) (hd:∀o∈ops.toList,∀i,o.dst=some i→i<N)
  (hQ:∀a' w' μ' loc',Rel N w0 μ0 L μ' loc' stF a' w'→Q .normal a' w') {μ:Mu} {loc:Nat→Value} {a:Act} {w:World} (hR:Rel N w0 μ0 L μ loc st a w) {F:Fence} (hF:Wd F):
  wpAnyIn F 0 P .any ops Q ops.size (Array.replicate ops.size false) a w:=by
 obtain ⟨fs0,hl0,hm0,hs0,Yn,_,hp0⟩:=Y3 ops.toList 0 [] _ _ (fun k o hk=>by simpa using hk) hrun
 let D:Array Bool→Nat→Prop:=fun listed j=>listed.getD j false=true
 have main:∀(fuel:Nat) (listed:Array Bool) (a:Act) (w:World) (μ:Mu) (loc:Nat→Value) (fs:List (Nat×dF)) (x:St),listed.size=ops.size→fs.length≤fuel→
   (∀j o,D listed j→ops[j]? =some o→∀e∈o.after.toList,Region.binds .any e=true→D listed e.on)→
   (∀j,j∈fs.map (·.1)↔j<ops.size∧¬D listed j)→fs.Pairwise (fun p q=>p.1<q.1)→FD (kY P h aZ ops) fs x stF→fs.Pairwise (fun p q=>p.2.conflict q.2=true→reach ops 12 q.1 p.1=true)→Rel N w0 μ0 L μ loc x a w→
   wpAnyIn F 0 P .any ops Q fuel listed a w:=by
  intro fuel
  induction fuel with
  |zero=>
   intro listed a w μ loc fs x hsz hle Bg hmem _ Of _ X5;have CG:fs=[]:=List.eq_nil_of_length_eq_zero (by omega);subst CG;have hx:x=stF:=Of;subst hx;refine ⟨?_,hQ _ _ _ _ X5⟩;unfold Region.ready;apply List.filter_eq_nil_iff.2;intro j hj;have hj':j<ops.size:=by simpa using hj
   have hD:D listed j:=Classical.byContradiction fun hn=>by have:=(hmem j).2 ⟨hj',hn⟩;simp at this
   have hlt:j<listed.size:=by omega
   have ht:listed.getD j true=true:=by simpa [D,Array.getD,hlt] using hD
   simp [ht]
  |succ fuel ih=>
   intro listed a w μ loc fs x hsz hle Bg hmem hsort Of WI X5;have Yp:∀i,i∈Region.ready .any ops listed→∃o,ops[i]? =some o∧i<ops.size∧¬D listed i∧∀e∈o.after.toList,Region.binds .any e=true→D listed e.on:=by
    intro i hi;unfold Region.ready at hi;simp only [List.mem_filter,List.mem_range,Bool.and_eq_true,Bool.not_eq_true'] at hi;obtain ⟨hlt,hnl,Ay⟩:=hi;have ho:ops[i]? =some (ops[i]'hlt):=Array.getElem?_eq_getElem hlt;refine ⟨_,ho,hlt,?_,?_⟩
    ·have hl':i<listed.size:=by omega
     have:listed[i]=false:=by simpa [Array.getD,hl'] using hnl
     simp [D,Array.getD,hl',this]
    ·intro e he hb
     simp only [ho,Option.map_some,Option.getD_some] at Ay;have:=Array.all_eq_true'.1 Ay e (by simpa using he);simpa [hb,D] using this
   have L4:∀i,i<ops.size→∀j,D (listed.setIfInBounds i true) j↔(D listed j∨j=i):=by
    intro i hi j;have hl':i<listed.size:=by omega
    by_cases hj:j<listed.size
    ·by_cases e:i=j
     ·subst e;simp [D,Array.getD,hj]
     ·have e':j≠i:=fun h=>e h.symm
      simp [D,Array.getD,hj,e,e',Array.getElem_setIfInBounds]
    ·have e':j≠i:=fun h=>by subst h;exact hj hl'
     have h1:(listed.setIfInBounds i true).getD j false=false:=by simp [Array.getD,hj]
     have h2:listed.getD j false=false:=by simp [Array.getD,hj]
     simp only [D,h1,h2,e',or_false]
   refine ⟨fun CG=> ?_,fun i hi=> ?_⟩
   ·
    cases fs with
    |nil=>have hx:x=stF:=Of;subst hx;exact hQ _ _ _ _ X5
    |cons p fs=>
     exfalso;have hp:=(hmem p.1).1 (by simp);have hlow:∀k,k<p.1→D listed k:=fun k hk=>Classical.byContradiction fun hn=>by
      have:=(hmem k).2 ⟨by omega,hn⟩;simp only [List.map_cons,List.mem_cons] at this;rcases this with e|hk'
      ·omega
      ·obtain ⟨q,hq,rfl⟩:=List.mem_map.1 hk'
       have:=(List.pairwise_cons.1 hsort).1 q hq;omega
     have ho:ops[p.1]? =some (ops[p.1]'hp.1):=Array.getElem?_eq_getElem hp.1;have hs2:=Ph Ya p.1 (ops[p.1]'hp.1) (by rw [Array.getElem?_toList];exact ho);have hl':p.1<listed.size:=by omega
     have WE:p.1∈Region.ready .any ops listed:=by
      unfold Region.ready;simp only [List.mem_filter,List.mem_range,Bool.and_eq_true,Bool.not_eq_true'];refine ⟨hp.1,?_,?_⟩
      ·have:¬(listed[p.1]=true):=by simpa [D,Array.getD,hl'] using hp.2
       simpa [Array.getD,hl'] using this
      ·simp only [ho,Option.map_some,Option.getD_some]
       apply Array.all_eq_true'.2;intro e he;cases hb:Region.binds .any e with
       |false=>rfl
       |true=>
        have:=hlow e.on (by simpa using hs2 e (by simpa using he) hb);simpa [D] using this
     rw [CG] at WE;cases WE
   ·obtain ⟨o,ho,hlt,hnD,Ay⟩:=Yp i hi
    obtain ⟨p,hpm,hpe⟩:=List.mem_map.1 ((hmem i).2 ⟨hlt,hnD⟩);obtain ⟨pre,post,rfl⟩:=List.append_of_mem hpm;subst hpe;have hpre:∀q∈pre,q.2.conflict p.2=false:=fun q hq=>by
     cases hc:q.2.conflict p.2 with
     |false=>rfl
     |true=>
      have hr:=(List.pairwise_append.1 WI).2.2 q hq p (by simp) hc;have:=Hs Bg 12 p.1 q.1 (fun o' ho'=>by rw [ho] at ho';injection ho' with ho';subst ho';exact Ay) hr;exact absurd this ((hmem q.1).1 (by simp only [List.map_append,List.mem_append];exact .inl (List.mem_map.2 ⟨q,hq,rfl⟩))).2
    obtain ⟨s1,hs1,Yq,_⟩:=FD.front (i:=p.1) (f:=p.2) pre x Of hpre;have hnext:∀a' w' μ' loc',Rel N w0 μ0 L μ' loc' s1 a' w'→wpAnyIn F 0 P .any ops Q fuel (listed.setIfInBounds p.1 true) a' w':=fun a' w' μ' loc' uo=>by
     have hnp:∀q∈pre++post,q.1≠p.1:=fun q hq e=>by
      rcases List.mem_append.1 hq with h1|h1
      ·have:=(List.pairwise_append.1 hsort).2.2 q h1 p (by simp);omega
      ·have:=(List.pairwise_cons.1 (List.pairwise_append.1 hsort).2.1).1 q h1;omega
     refine ih _ a' w' μ' loc' (pre++post) s1 (by simp [hsz]) (by simp at hle⊢;omega) (fun j oj hj Si e he hb=> ?_) (fun j=> ?_) (hsort.sublist (by simp)) Yq (WI.sublist (by simp)) uo
     ·rw [L4 _ hlt] at hj⊢
      rcases hj with hj|rfl
      ·exact .inl (Bg j oj hj Si e he hb)
      ·rw [ho] at Si;injection Si with Si;subst Si
       exact .inl (Ay e he hb)
     ·rw [L4 _ hlt]
      have:=hmem j;simp only [List.map_append,List.map_cons,List.mem_append,List.mem_cons] at this⊢;constructor
      ·intro hj
       obtain ⟨k1,k2⟩:=this.1 (hj.elim .inl fun h=> .inr (.inr h));refine ⟨k1,fun h=>h.elim k2 fun e=> ?_⟩;subst e;rcases hj with hj|hj<;>obtain ⟨q,hq,e⟩:=List.mem_map.1 hj
       ·exact hnp q (by simp [hq]) e
       ·exact hnp q (by simp [hq]) e
      ·rintro ⟨k1,k2⟩
       rcases this.2 ⟨k1,fun h=>k2 (.inl h)⟩ with h1|h1|h1
       ·exact .inl h1
       ·exact absurd (.inr h1) k2
       ·exact .inr h1
    have hdo:∀t,o.dst=some t→t<N:=hd o (by
     have:=List.mem_of_getElem? (show ops.toList[p.1]? =some o by simpa using ho);exact this)
    unfold wpOpIn;simp only [ho];simp only [kY,ho] at hs1;split at hs1
    ·rename_i hw
     rw [tJ X5 hw];simp only [if_true];exact DH X5 eH hdo hs1 hnext F hF
    ·rename_i hw
     injection hs1 with hs1;subst hs1
     rw [tJ X5 hw];simp only [Bool.false_eq_true,if_false];exact ⟨fun f _=>hF.fn f,hnext _ _ _ _ (X5.set hdo (show c8 μ loc .undef undef from rfl))⟩
    ·cases hs1
 have hnone:∀j,¬D (Array.replicate ops.size false) j:=fun j=>by
  by_cases hj:j<ops.size<;>simp [D,Array.getD,hj]
 refine main ops.size _ a w μ loc fs0 _ (by simp) (by simp [hl0]) (fun j o hj=>absurd hj (hnone j)) (fun j=> ?_) hs0 Yn hp0 (Rel.mj _ _ hR)
 ·rw [hm0]
  simp only [Array.length_toList];exact ⟨fun hj=>⟨by omega,hnone j⟩,fun hj=>⟨by omega,by omega⟩⟩
end
end Go.AM
