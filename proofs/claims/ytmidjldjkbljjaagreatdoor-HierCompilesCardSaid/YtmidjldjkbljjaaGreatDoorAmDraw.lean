/- THE ABSTRACT MACHINE. -/
import Derived.Test.YtmidjldjkbljjaaGreatDoorAmRun
set_option linter.unusedVariables false
set_option linter.unusedSimpArgs false
namespace Go.AM
open Go.RowKit
section
variable {P:Program} {h:Hint} {bN:dm}
theorem vm {st st':St} {x:Operand} (hx:∀t,x= .tmp t→st.env t=st'.env t) (ty:TypeId):bw P ty st x=bw P ty st' x:=by
 cases x with
 |tmp t=>exact hx t rfl
 |_=>rfl
def E6 (P:Program) (st st':St) (x:Operand):Prop:=∀ty sv,bw P ty st x=some sv→∀id∈sv.ids,st.ob id=st'.ob id
theorem sF {st st':St} {v:SV} (hv:∀id∈v.ids,st.ob id=st'.ob id):elems st v=elems st' v:=by
 cases v with
 |row id=>simp only [elems,hv id (by simp [SV.ids])]
 |pv x=>cases x<;>rfl
 |_=>rfl
theorem BG {st st':St} {v:SV} (hv:∀id∈v.ids,st.ob id=st'.ob id):maps st v=maps st' v:=by
 cases v with
 |row id=>simp only [maps,hv id (by simp [SV.ids])]
 |pv x=>cases x<;>rfl
 |_=>rfl
theorem Lt {st st':St} {v:SV} (hv:∀id∈v.ids,st.ob id=st'.ob id):nS st v=nS st' v:=by
 cases v with
 |row id=>simp only [nS,hv id (by simp [SV.ids])]
 |_=>rfl
theorem Dk {st st':St} {xs:List Operand} {ts:List TypeId} (cU:∀x∈xs,E6 P st st' x) (hx:∀x∈xs,∀ty,bw P ty st x=bw P ty st' x):ff P st xs ts=ff P st' xs ts:=by
 induction xs generalizing ts with
 |nil=>rfl
 |cons x xs ih=>
  have hl:(bw P (ts.headD 0) st x).bind (nS st)=(bw P (ts.headD 0) st' x).bind (nS st'):=by
   rw [←hx x (by simp)];cases ho:bw P (ts.headD 0) st x with
   |none=>rfl
   |some sv=>exact Lt (cU x (by simp) _ sv ho)
  simp only [ff];rw [hl,ih (fun y hy=>cU y (by simp [hy])) (fun y hy=>hx y (by simp [hy]))]
theorem uK {st st':St} {ty:Nat→TypeId} {l:List (Nat×Operand)} (hx:∀x∈l.map (·.2),∀t,bw P t st x=bw P t st' x):partsOf P ty st l=partsOf P ty st' l:=by
 induction l with
 |nil=>rfl
 |cons p l ih=>
  obtain ⟨i,x⟩:=p;simp only [partsOf];rw [hx x (by simp),ih (fun y hy=>hx y (by simp only [List.map_cons,List.mem_cons];exact .inr hy))]
theorem rZ {st st':St} {b:Bool} {acc:AV} {l:List Operand} (hx:∀x∈l,∀t,bw P t st x=bw P t st' x):eW P st b acc l=eW P st' b acc l:=by
 induction l generalizing acc with
 |nil=>rfl
 |cons x l ih=>
  simp only [eW];rw [hx x (by simp)];cases (bw P 0 st' x).bind eL with
  |none=>rfl
  |some v=>
   simp only;cases LG b acc v with
   |none=>rfl
   |some r=>exact ih (fun y hy=>hx y (by simp [hy]))
theorem IZ {st st':St} {c:Call} (cU:∀x∈c.args.toList,E6 P st st' x) (hx:∀x∈c.args.toList,∀ty,bw P ty st x=bw P ty st' x):r6 P c st=r6 P c st':=by
 obtain ⟨cal,⟨args⟩,tys⟩:=c;unfold r6;simp only at hx cU⊢;split
 ·rename_i x
  have hxx:=hx x (by simp);have hxo:=cU x (by simp);split
  ·rename_i t _
   rw [←hxx t];cases ho:bw P t st x with
   |none=>
    rcases P.underlying t with _|d
    ·rfl
    ·cases d<;>rfl
   |some sv=>
    have:=sF (hxo t sv ho);have this2:=BG (hxo t sv ho);rcases P.underlying t with _|d
    ·rfl
    ·cases d<;>first
      |rfl
      |(show Option.map _ (maps st sv)=Option.map _ (maps st' sv);rw [this2])
      |(cases sv with
        |pv v=>cases v<;>rfl
        |_=>rfl)
      |(cases sv with
        |sub id sz lo hi=>rfl
        |undef=>show Option.map _ (elems st _)=Option.map _ (elems st' _);rw [this]
        |any=>show Option.map _ (elems st _)=Option.map _ (elems st' _);rw [this]
        |pv v=>show Option.map _ (elems st _)=Option.map _ (elems st' _);rw [this]
        |ptr id off=>show Option.map _ (elems st _)=Option.map _ (elems st' _);rw [this]
        |row id=>show Option.map _ (elems st _)=Option.map _ (elems st' _);rw [this]
        |rp id sz i off=>show Option.map _ (elems st _)=Option.map _ (elems st' _);rw [this]
        |cp cs=>show Option.map _ (elems st _)=Option.map _ (elems st' _);rw [this]
        |cl f caps=>show Option.map _ (elems st _)=Option.map _ (elems st' _);rw [this]
        |ag caps=>show Option.map _ (elems st _)=Option.map _ (elems st' _);rw [this]
        |two s b=>show Option.map _ (elems st _)=Option.map _ (elems st' _);rw [this])
  ·rfl
 ·rename_i x l
  have hm:∀b acc,eW P st b acc l=eW P st' b acc l:=fun b acc=>rZ (fun y hy=>hx y (by simp [hy]))
  rw [hx x (by simp)];simp only [hm]
 ·rename_i x l
  have hm:∀b acc,eW P st b acc l=eW P st' b acc l:=fun b acc=>rZ (fun y hy=>hx y (by simp [hy]))
  rw [hx x (by simp)];simp only [hm]
 ·rfl
theorem uI {st st':St} {x:Option Operand} (hx:∀y,x=some y→∀ty,bw P ty st y=bw P ty st' y):fR P st x=fR P st' x:=by
 cases x with
 |none=>rfl
 |some y=>simp [fR,hx y rfl]
theorem LW {st st':St} {o:Oper} (cU:IQ o.op=false→∀x∈o.op.operands.toList,E6 P st st' x) (hop:∀x∈o.op.operands.toList,∀ty,bw P ty st x=bw P ty st' x):cR P o st=cR P o st':=by
 obtain ⟨dst,op,type,pos,after,guard⟩:=o;simp only at hop;cases op with
 |move x=>have hx:=hop x (by simp [Op.operands]);simp [cR,hx]
 |assign x=>have hx:=hop x (by simp [Op.operands]);simp [cR,hx]
 |pick c a b=>have hx:=hop c (by simp [Op.operands]);have hy:=hop a (by simp [Op.operands]);have hz:=hop b (by simp [Op.operands]);simp [cR,hx,hy,hz]
 |binOp op t x y t'=>have hx:=hop x (by simp [Op.operands]);have hy:=hop y (by simp [Op.operands]);simp [cR,hx,hy]
 |unOp op t x=>have hx:=hop x (by simp [Op.operands]);simp [cR,hx]
 |convert s d x=>
  have hx:=hop x (by simp [Op.operands]);have ho:=cU rfl x (by simp [Op.operands]) s;have he:(bw P s st x).bind (elems st)=(bw P s st' x).bind (elems st'):=by
   rw [←hx s];cases hv:bw P s st x with
   |none=>rfl
   |some sv=>exact sF (ho _ hv)
  simp only [cR,hx 0,he]
 |nilCheck x=>have hx:=hop x (by simp [Op.operands]);simp only [cR,hx]
 |fieldAddr t x f=>have hx:=hop x (by simp [Op.operands]);simp [cR,hx]
 |field t x f=>have hx:=hop x (by simp [Op.operands]);simp [cR,hx]
 |indexAddr t x i=>
  have hx:=hop x (by simp [Op.operands]);have hy:=hop i (by simp [Op.operands]);have ho:=cU rfl x (by simp [Op.operands]) t;have hsl:wm P st t x i=wm P st' t x i:=by
   unfold wm;rw [←hx t,←hy 0];cases hv:bw P t st x with
   |none=>rcases isSlice P t with _|⟨e,s⟩<;>simp only []
   |some sv=>
    have YP:=ho _ hv;clear hv;rcases isSlice P t with _|⟨e,s⟩
    ·simp only []
    ·cases sv with
     |row id=>
      rcases bw P 0 st i with _|b
      ·rfl
      ·cases b with
       |pv v=>cases v<;>first|rfl|(simp only [YP id (by simp [SV.ids])])
       |_=>rfl
     |pv v=>cases v<;>first|rfl|(rcases bw P 0 st i with _|b<;>first|rfl|(cases b<;>first|rfl|(rename_i q;cases q<;>rfl)))
     |_=>first|rfl|(rcases bw P 0 st i with _|b<;>first|rfl|(cases b<;>first|rfl|(rename_i q;cases q<;>rfl)))
  have har:∀n e,yd P st n e x i=yd P st' n e x i:=fun n e=>by simp only [yd,hx 0,hy 0]
  simp only [cR,hsl,har]
 |index t x i=>have hx:=hop x (by simp [Op.operands]);have hy:=hop i (by simp [Op.operands]);simp [cR,hx,hy]
 |load t x=>
  have hx:=hop x (by simp [Op.operands]);have ho:=cU rfl x (by simp [Op.operands]) 0;simp only [cR];rw [←hx 0];cases hv:bw P 0 st x with
  |none=>rfl
  |some sv=>
   have YP:=ho _ hv;clear hv;cases sv with
   |ptr id off=>simp only [YP id (by simp [SV.ids])]
   |rp id sz i off=>simp only [YP id (by simp [SV.ids])]
   |pv v=>cases v<;>rfl
   |_=>rfl
 |lookup t x k ok=>
  have hx:=hop x (by simp [Op.operands]);have hk:=hop k (by simp [Op.operands]);have ho:=cU rfl x (by simp [Op.operands]) t;have hm:(bw P t st x).bind (maps st)=(bw P t st' x).bind (maps st'):=by
   rw [←hx t];cases hv:bw P t st x with
   |none=>rfl
   |some sv=>exact BG (ho _ hv)
  have hkr:(bw P t st x).bind (zI st)=(bw P t st' x).bind (zI st'):=by
   rw [←hx t];cases hv:bw P t st x with
   |none=>rfl
   |some sv=>
    have:=ho _ hv;cases sv with
    |row id=>simp only [Option.bind_some,zI];rw [this id (by simp [SV.ids])]
    |_=>rfl
  simp only [cR,hm,hk,hkr]
 |extract x i=>have hx:=hop x (by simp [Op.operands]);simp [cR,hx]
 |slice t x lo hi mx=>
  cases mx with
  |some m=>simp [cR]
  |none=>
   have hx:=hop x (by simp [Op.operands]);have hl:=uI (P:=P) (st:=st) (st':=st') (x:=lo) (fun y e=>by subst e;exact hop y (by simp [Op.operands]));have hh:=uI (P:=P) (st:=st) (st':=st') (x:=hi) (fun y e=>by subst e;exact hop y (by cases lo<;>simp [Op.operands]));have ho:=cU rfl x (by simp [Op.operands]) t;simp only [cR];rw [←hx t,hl,hh];cases hv:bw P t st x with
   |none=>rcases P.underlying t with _|d<;>first|rfl|(cases d<;>rfl)
   |some sv=>
    have YP:=ho _ hv;clear hv;rcases P.underlying t with _|d
    ·rfl
    ·cases d<;>first
      |rfl
      |(rcases fR P st' lo with _|l
        ·cases sv with
         |pv v=>cases v<;>rfl
         |_=>rfl
        ·rcases fR P st' hi with _|l2
         ·cases sv with
          |pv v=>cases v<;>rfl
          |_=>rfl
         ·cases sv with
          |row id=>simp only [YP id (by simp [SV.ids])]
          |pv v=>cases v<;>rfl
          |_=>rfl)
 |build t parts=>
  have hp:=uK (P:=P) (st:=st) (st':=st') (ty:=Fv P t) (l:=parts.toList) (fun x hx=>hop x (by simpa [Op.operands] using hx));simp [cR,hp]
 |call c=>
  have hin:∀x∈c.args.toList,x∈(Op.call c).operands.toList:=fun x hx=>by
   simp only [Op.operands,Call.operands,Array.toList_append,List.mem_append];exact .inr hx
  have:=IZ (P:=P) (st:=st) (st':=st') (c:=c) (fun x hx=>cU rfl x (hin x hx)) (fun x hx=>hop x (hin x hx));simp [cR,this]
 |_=>simp [cR]
theorem yt {st:St}:∀{l:List Operand} {x:Operand} {ty:TypeId} {sv:SV} {id:Nat},x∈l→bw P ty st x=some sv→id∈sv.ids→id∈Bp st l:=by
 intro l
 induction l with
 |nil=>intro x ty sv id hx;simp at hx
 |cons y l ih=>
  intro x ty sv id hx ho hid;rcases List.mem_cons.1 hx with rfl|hx
  ·cases x with
   |tmp t=>
    simp only [bw] at ho;simp only [Bp,ho,List.mem_append];exact .inl hid
   |const v=>
    simp only [bw] at ho;cases hc:ofConst P ty v with
    |none=>simp [hc] at ho
    |some y=>simp [hc] at ho;subst ho;simp [SV.ids] at hid
   |func f=>simp [bw] at ho;subst ho;simp [SV.ids] at hid
   |global g=>simp [bw] at ho
  ·have:=ih hx ho hid
   cases y with
   |tmp t=>simp only [Bp,List.mem_append];exact .inr this
   |_=>simpa [Bp] using this
theorem pM (st:St):∀(n:Nat) (todo done:List Nat),∀id∈done,id∈eZ st n todo done
 |0,todo,done,id,h=>by simpa [eZ] using h
 |n+1,[],done,id,h=>by simpa [eZ] using h
 |n+1,x::todo,done,id,h=>by
  simp only [eZ];cases done.contains x with
  |true=>exact pM st n todo done id h
  |false=>exact pM st n _ _ id (by simp [h])
theorem nI {st st':St}:∀(n:Nat) (todo done:List Nat),(∀id∈eZ st n todo done,st.ob id=st'.ob id)→eZ st n todo done=eZ st' n todo done
 |0,todo,done,h=>by simp [eZ]
 |n+1,[],done,h=>by simp [eZ]
 |n+1,x::todo,done,h=>by
  simp only [eZ] at h⊢;cases hc:done.contains x with
  |true=>rw [hc] at h;exact nI n todo done h
  |false=>
   rw [hc] at h;simp only [cond_false] at h⊢;have hx:st.ob x=st'.ob x:=h x (pM st n _ _ x (by simp));have hi:Az st x=Az st' x:=by simp only [Az,hx]
   rw [←hi];exact nI n _ _ h
theorem uE {st st':St} {ids:List Nat} {ρ:Nat→Nat}:∀{l:List (Nat×Nat)},(∀p∈l,st.ob p.1=st'.ob p.1)→gj st ids ρ l=gj st' ids ρ l
 |[],_=>rfl
 |p::l,h=>by
  obtain ⟨id,nm⟩:=p;simp only [gj];rw [h (id,nm) (by simp),uE (fun q hq=>h q (by simp [hq]))]
theorem vK {st st':St}:∀{xs:List Operand} {ts:List TypeId},(∀x∈xs,∀ty,bw P ty st x=bw P ty st' x)→pH P h st xs ts=pH P h st' xs ts
 |[],ts,_=>rfl
 |x::xs,ts,hx=>by
  simp only [pH,PZ];rw [hx x (by simp),vK (fun y hy=>hx y (by simp [hy]))]
theorem Fg {st st':St} {c:Call} {f:Operand} (hf:bw P 0 st f=bw P 0 st' f) (ha:∀x∈c.args.toList,∀ty,bw P ty st x=bw P ty st' x)
  (An:∀g args,rH P h st c f=some (g,args)→∀id∈fS st args,st.ob id=st'.ob id):lz P h bN st c f=lz P h bN st' c f:=by
 have e1:rH P h st c f=rH P h st' c f:=by
  unfold rH;rw [hf,vK ha]
 unfold lz;rw [←e1];cases hr:rH P h st c f with
 |none=>rfl
 |some p=>
  obtain ⟨g,args⟩:=p;simp only;have hi:=An g args hr;have e2:fS st args=fS st' args:=nI 200 _ _ hi;rw [←e2];have e3:gj st (fS st args) (j5 (eM (fS st args))) (eM (fS st args))=gj st' (fS st args) (j5 (eM (fS st args))) (eM (fS st args)):=
   uE (fun p hp=>hi p.1 (by
    have:p.1∈(eM (fS st args)).map (·.1):=List.mem_map.2 ⟨p,hp,rfl⟩
    rwa [show (eM (fS st args)).map (·.1)=fS st args from oP _ _ _] at this))
  rw [e3]
theorem Kw {st st':St} {o:Oper} (An:IQ o.op=false→∀id∈Ew st o,st.ob id=st'.ob id) (hro:∀id∈Gs P h o st,st.ob id=st'.ob id) (Ie:∀t∈slotsOf o,st.env t=st'.env t):cM P h bN o st=cM P h bN o st':=by
 have cU:IQ o.op=false→∀x∈o.op.operands.toList,E6 P st st' x:=fun hn x hx ty sv ho id hid=>An hn id (yt hx ho hid)
 have hop:∀x∈o.op.operands.toList,∀ty,bw P ty st x=bw P ty st' x:=fun x hx ty=>vm (fun t e=>Ie t (by
  subst e
  exact List.mem_filterMap.2 ⟨.tmp t,hx,rfl⟩)) ty
 have hpv:=LW (P:=P) (o:=o) cU hop;obtain ⟨dst,op,type,pos,after,guard⟩:=o;simp only at hop;cases op with
 |buildSlice t len parts=>
  have hp:∀ty,partsOf P ty st parts.toList=partsOf P ty st' parts.toList:=fun ty=>uK (fun x hx=>hop x (by simpa [Op.operands] using hx))
  simp [cM,mo,hp]
 |call c=>
  obtain ⟨cal,⟨args⟩,⟨tys⟩⟩:=c;cases cal with
  |value f=>
   have hargs:∀x∈args,x∈(Op.call { callee:=Callee.value f,args:=⟨args⟩,argTypes:=⟨tys⟩ }).operands.toList:=fun x hx=>by
    simp only [Op.operands,Call.operands,Array.toList_append,List.mem_append];exact .inr hx
   have hf:=hop f (by simp [Op.operands,Call.operands]);have ha:=Dk (P:=P) (st:=st) (st':=st') (xs:=args) (ts:=tys) (fun x hx=>cU rfl x (hargs x hx)) (fun x hx=>hop x (hargs x hx));have hr:args.any (j7 st)=args.any (j7 st'):=by
    have key:∀x∈args,j7 st x=j7 st' x:=fun x hx=>by
     cases x with
     |tmp t=>
      have:=hop (.tmp t) (hargs _ hx) 0;simp only [bw] at this;simp [j7,this]
     |_=>rfl
    clear ha hargs hop hpv Ie cU An hro
    induction args with
    |nil=>rfl
    |cons x xs ih=>simp only [List.any_cons];rw [key x (by simp),ih (fun y hy=>key y (by simp [hy]))]
   have gw:args.any (fun x=>(ji h st x).isSome)=args.any (fun x=>(ji h st' x).isSome):=by
    have key:∀x∈args,ji h st x=ji h st' x:=fun x hx=>by
     cases x with
     |tmp t=>
      have:=hop (.tmp t) (hargs _ hx) 0;simp only [bw] at this;simp [ji,this]
     |_=>rfl
    clear ha hargs hop hpv Ie hr cU An hro
    induction args with
    |nil=>rfl
    |cons x xs ih=>simp only [List.any_cons];rw [key x (by simp),ih (fun y hy=>key y (by simp [hy]))]
   have hwide:wide st { callee:=Callee.value f,args:=⟨args⟩,argTypes:=⟨tys⟩ } f=wide st' { callee:=Callee.value f,args:=⟨args⟩,argTypes:=⟨tys⟩ } f:=by
    have kf:UA st f=UA st' f:=by
     cases f with
     |tmp t=>
      have:=hf 0;simp only [bw] at this;simp [UA,this]
     |_=>rfl
    have key:∀x∈args,Ee st x=Ee st' x:=fun x hx=>by
     cases x with
     |tmp t=>
      have:=hop (.tmp t) (hargs _ hx) 0;simp only [bw] at this;simp [Ee,this]
     |_=>rfl
    have kk:args.any (Ee st)=args.any (Ee st'):=by
     clear ha hargs hop hpv Ie hr cU An gw hro
     induction args with
     |nil=>rfl
     |cons x xs ih=>simp only [List.any_cons];rw [key x (by simp),ih (fun y hy=>key y (by simp [hy]))]
    simp only [wide,kf,kk]
   cases hst:dst.any h.stay.contains with
   |false=>simp [cM,hf,ha,hr,gw,hwide,hst]
   |true=>
    have hc:=Fg (P:=P) (h:=h) (bN:=bN) (st:=st) (st':=st') (c:={ callee:=Callee.value f,args:=⟨args⟩,argTypes:=⟨tys⟩ }) (f:=f) (hf 0) (fun x hx=>hop x (hargs x hx)) (fun g as hg id hid=>hro id (by
     simp only [Gs,hg,hst,cond_true];exact hid))
    simp [cM,hf,ha,hr,gw,hwide,hst,hc]
  |_=>simpa [cM,cR] using hpv
 |makeFunc f first caps=>
  cases f with
  |func g=>
   have hc:mE st caps.toList=mE st' caps.toList:=by
    have key:∀x∈caps.toList,∀ty,bw P ty st x=bw P ty st' x:=fun x hx=>hop x (by simp only [Op.operands,Array.toList_append,List.mem_append];exact .inr hx)
    clear hop hpv Ie cU An;generalize caps.toList=l at key
    induction l with
    |nil=>rfl
    |cons x xs ih=>
     cases x with
     |tmp t=>
      have:=key (.tmp t) (by simp) 0;simp only [bw] at this;simp only [mE];rw [this,ih (fun y hy=>key y (by simp [hy]))]
     |_=>rfl
   have Dh:pK st caps.toList=pK st' caps.toList:=by
    have key:∀x∈caps.toList,∀ty,bw P ty st x=bw P ty st' x:=fun x hx=>hop x (by simp only [Op.operands,Array.toList_append,List.mem_append];exact .inr hx)
    clear hop hpv Ie cU An hc;generalize caps.toList=l at key
    induction l with
    |nil=>rfl
    |cons x xs ih=>
     cases x with
     |tmp t=>
      have:=key (.tmp t) (by simp) 0;simp only [bw] at this;simp only [pK];rw [this,ih (fun y hy=>key y (by simp [hy]))]
     |_=>rfl
   simp [cM,hc,Dh]
  |_=>simpa [cM] using hpv
 |assign x=>simp only [cM,hpv]
 |lookup t x k ok=>simp only [cM,hpv]
 |build t ps=>simp only [cM,hpv]
 |_=>simpa [cM] using hpv
theorem kL {st st':St} {ops:Array Oper} {o:Oper} (Ie:∀t∈iA ops o,st.env t=st'.env t):fC ops o st=fC ops o st':=by
 unfold fC;cases hg:o.guard with
 |none=>rfl
 |some p=>
  obtain ⟨j,want⟩:=p;simp only;cases hd:(ops[j]?).bind (·.dst) with
  |none=>rfl
  |some d=>simp only;rw [Ie d (by simp [iA,hg,hd])]
def AQ (P:Program) (h:Hint) (bN:dm) (ops:Array Oper) (fresh:List (Nat×Nat)) (i:Nat) (o:Oper) (s:St) (f:dY) (s':St):Prop:=
 (fC ops o s=some false∧s'=s.set o.dst .undef∧f=nO ops o s)∨
 (fC ops o s=some true∧∃v,cM P h bN o s=some v∧s'=s.set o.dst v∧f=sI P h ops o s v∧iY ops fresh i v=true)∨
 (fC ops o s=some true∧∃t x y sa sv id,o.op= .store t x y∧o.dst=none∧bw P 0 s x=some sa∧bw P t s y=some sv∧targetId sa=some id∧storeAt P t s sa sv=some s'∧f=fL ops o s id∧iY ops fresh i sv=true)∨
 (fC ops o s=some true∧∃t d z,o.op= .alloc t∧o.dst=some d∧h.rows.contains d=false∧zeroCells P t=some z∧s'={ env:=put s.env d (some (.ptr d 0)),ob:=put s.ob d (some (.box t (z.map .pv))) }∧f=gu ops o d)∨
 (fC ops o s=some true∧step P h bN o s=some s'∧f=eH∧fresh.all (fun p=>Nat.blt p.2 i)=true)∨
 (fC ops o s=some true∧step P h bN o s=some s'∧∃c d id,o.op= .call c∧o.dst=some d∧DR P s fresh ops c (some d)=some id∧f=iV ops o s d id)
structure Run (P:Program) (h:Hint) (bN:dm) (ops:Array Oper) (fresh:List (Nat×Nat)) (S:Nat→St) (Fp:Nat→dY):Prop where
 op:∀i o,ops[i]? =some o→AQ P h bN ops fresh i o (S i) (Fp i) (S (i+1))
 ord:∀i j,j<i→i<ops.size→(Fp j).conflict (Fp i)=true→reach ops 12 i j=true
theorem Yr {ops:Array Oper} {fresh:List (Nat×Nat)}:∀(l:List Oper) (i:Nat) (prev:List (Nat×dY)) (st s:St),cn P h bN ops fresh i l prev st=some s→
  ∃(S:Nat→St) (Fp:Nat→dY),S i=st∧S (i+l.length)=s∧(∀k o,l[k]? =some o→AQ P h bN ops fresh (i+k) o (S (i+k)) (Fp (i+k)) (S (i+k+1)))∧
   (∀k,k<l.length→∀p∈prev,p.2.conflict (Fp (i+k))=true→reach ops 12 (i+k) p.1=true)∧
   (∀k q,q<k→k<l.length→(Fp (i+q)).conflict (Fp (i+k))=true→reach ops 12 (i+k) (i+q)=true):=by
 intro l
 induction l with
 |nil=>
  intro i prev st s hr;simp only [cn,Option.some.injEq] at hr;subst hr;exact ⟨fun _=>st,fun _=>eH,rfl,rfl,by simp,by simp,by simp⟩
 |cons o l ih=>
  intro i prev st s hr;have cont:∀(f:dY) (st1:St),AQ P h bN ops fresh i o st f st1→e9 ops prev i f=true→cn P h bN ops fresh (i+1) l ((i,f)::prev) st1=some s→
    ∃(S:Nat→St) (Fp:Nat→dY),S i=st∧S (i+(o::l).length)=s∧(∀k o',(o::l)[k]? =some o'→AQ P h bN ops fresh (i+k) o' (S (i+k)) (Fp (i+k)) (S (i+k+1)))∧
     (∀k,k<(o::l).length→∀p∈prev,p.2.conflict (Fp (i+k))=true→reach ops 12 (i+k) p.1=true)∧
     (∀k q,q<k→k<(o::l).length→(Fp (i+q)).conflict (Fp (i+k))=true→reach ops 12 (i+k) (i+q)=true):=by
   intro f st1 hop hfo qm;obtain ⟨S,Fp,h0,hn,Ux,VA,zF⟩:=ih (i+1) ((i,f)::prev) st1 s qm;refine ⟨fun k=>if k≤i then st else S k,fun k=>if k≤i then f else Fp k,by simp,?_,?_,?_,?_⟩
   ·have:¬(i+(o::l).length≤i):=by simp
    simp only [this,if_false];rw [←hn];congr 1;simp;omega
   ·intro k o' hk
    cases k with
    |zero=>
     simp at hk;subst hk;have:¬(i+0+1≤i):=by omega
     dsimp only;simp only [Nat.add_zero,Nat.le_refl,if_true];rw [if_neg (by omega),h0];exact hop
    |succ k=>
     simp at hk;have:=Ux k o' hk;dsimp only;rw [if_neg (by omega),if_neg (by omega),if_neg (by omega)]
     rwa [show i+1+k=i+(k+1) from by omega] at this
   ·intro k hk p hp hc
    cases k with
    |zero=>
     simp only [Nat.add_zero,Nat.le_refl,if_true] at hc⊢;have:=List.all_eq_true.1 hfo p hp;simpa [hc] using this
    |succ k=>
     dsimp only at hc;rw [if_neg (by omega)] at hc;have:=VA k (by simpa using hk) p (by simp [hp]) (by rwa [show i+1+k=i+(k+1) from by omega])
     rwa [show i+1+k=i+(k+1) from by omega] at this
   ·intro k q hqk hk hc
    cases k with
    |zero=>omega
    |succ k=>
     dsimp only at hc;rw [if_neg (show¬(i+(k+1)≤i) by omega)] at hc;cases q with
     |zero=>
      simp only [Nat.add_zero,Nat.le_refl,if_true] at hc⊢;have:=VA k (by simpa using hk) (i,f) (by simp) (by rwa [show i+1+k=i+(k+1) from by omega])
      rwa [show i+1+k=i+(k+1) from by omega] at this
     |succ q=>
      rw [if_neg (show¬(i+(q+1)≤i) by omega)] at hc;have:=zF k q (by omega) (by simpa using hk) (by rwa [show i+1+k=i+(k+1) from by omega,show i+1+q=i+(q+1) from by omega])
      rwa [show i+1+k=i+(k+1) from by omega,show i+1+q=i+(q+1) from by omega] at this
  simp only [cn] at hr;split at hr
  ·cases hr
  ·rename_i b hw
   cases b with
   |false=>
    simp only [cond_false] at hr;cases hfo:e9 ops prev i (nO ops o st) with
    |false=>simp [hfo] at hr
    |true=>simp only [hfo,cond_true] at hr;exact cont _ _ (.inl ⟨hw,rfl,rfl⟩) hfo hr
   |true=>
    simp only [cond_true] at hr;cases hF:isF h st o with
    |true=>
     simp only [hF,cond_true] at hr;cases hf:cM P h bN o st with
     |some v=>
      simp only [hf] at hr;cases hc:(iY ops fresh i v&&e9 ops prev i (sI P h ops o st v)) with
      |false=>simp [hc] at hr
      |true=>
       simp only [hc,cond_true] at hr;simp only [Bool.and_eq_true] at hc;exact cont _ _ (.inr (.inl ⟨hw,v,hf,rfl,rfl,hc.1⟩)) hc.2 hr
     |none=>simp [hf] at hr
    |false=>
     simp only [hF,cond_false] at hr
     have rest:(bif fresh.all (fun p=>Nat.blt p.2 i)&&e9 ops prev i eH then
       match step P h bN o st with
       |some st'=>cn P h bN ops fresh (i+1) l ((i,eH)::prev) st'
       |none=>none
      else none)=some s→_:=fun hr=>by
      cases hc:(fresh.all (fun p=>Nat.blt p.2 i)&&e9 ops prev i eH) with
      |false=>simp [hc] at hr
      |true=>
       simp only [hc,cond_true] at hr;simp only [Bool.and_eq_true] at hc;cases hs:step P h bN o st with
       |none=>simp [hs] at hr
       |some st1=>simp only [hs] at hr;exact cont _ _ (.inr (.inr (.inr (.inr (.inl ⟨hw,hs,rfl,hc.1⟩))))) hc.2 hr
     split at hr
     ·rename_i t x y ho hd
      split at hr
      ·rename_i sa sv hx hy
       split at hr
       ·rename_i id st1 ht hst
        cases hc:(iY ops fresh i sv&&e9 ops prev i (fL ops o st id)) with
        |false=>simp [hc] at hr
        |true=>
         simp only [hc,cond_true] at hr;simp only [Bool.and_eq_true] at hc;exact cont _ _ (.inr (.inr (.inl ⟨hw,t,x,y,sa,sv,id,ho,hd,hx,hy,ht,hst,rfl,hc.1⟩))) hc.2 hr
       ·cases hr
      ·cases hr
     ·rename_i t d ho hd
      cases hrw:h.rows.contains d with
      |true=>rw [hrw] at hr;cases hr
      |false=>
      rw [hrw] at hr;simp only [cond_false] at hr;split at hr
      ·rename_i z hz
       cases hfo:e9 ops prev i (gu ops o d) with
       |false=>simp [hfo] at hr
       |true=>simp only [hfo,cond_true] at hr;exact cont _ _ (.inr (.inr (.inr (.inl ⟨hw,t,d,z,ho,hd,hrw,hz,rfl,rfl⟩)))) hfo hr
      ·cases hr
     ·rename_i c ho
      split at hr
      ·rename_i id iD
       obtain ⟨d',hd⟩:∃d',o.dst=some d':=by
        cases G1:o.dst with
        |some d'=>exact ⟨d',rfl⟩
        |none=>
         exfalso;rw [G1] at iD;unfold DR at iD;split at iD
         ·rename_i h9;cases h9
         ·cases iD
       rw [hd] at iD;simp only [hd,Option.getD_some] at hr;cases hfo:e9 ops prev i (iV ops o st d' id) with
       |false=>simp [hfo] at hr
       |true=>
        simp only [hfo,cond_true] at hr;cases hs:step P h bN o st with
        |none=>simp [hs] at hr
        |some st1=>simp only [hs] at hr;exact cont _ _ (.inr (.inr (.inr (.inr (.inr ⟨hw,hs,c,d',id,ho,hd,iD,rfl⟩))))) hfo hr
      ·exact rest hr
     ·exact rest hr
     ·exact rest hr
     ·exact rest hr
     ·exact rest hr
     ·exact rest hr
     ·exact rest hr
     ·exact rest hr
     ·exact rest hr
     ·exact rest hr
     ·exact rest hr
     ·cases hr
theorem iX {a b:List Nat} {x:Nat} (ha:x∈a) (hb:x∈b):meets a b=true:=by
 simp only [meets,List.any_eq_true];exact ⟨x,ha,x,hb,Nat.beq_refl x⟩
theorem sQ {d:Nat} {v:SV} (hm:v.mentions d=false):v.bV d=v:=by simp [SV.bV,hm]
theorem uQ {t:TypeId} {s s':St} {sa sv:SV} {id:Nat} (hst:storeAt P t s sa sv=some s') (ht:targetId sa=some id):
  s'.env=s.env∧(∀j,j≠id→s'.ob j=s.ob j)∧∀x:St,x.ob id=s.ob id→(∀j∈sv.ids,x.ob j=s.ob j)→storeAt P t x sa sv=some { x with ob:=put x.ob id (s'.ob id) }:=by
 have hone:∀x:St,(∀j∈sv.ids,x.ob j=s.ob j)→kX x sv=kX s sv:=fun x hx=>by
  cases sv with
  |row j=>simp only [kX];rw [hx j (by simp [SV.ids])]
  |pv v=>cases v<;>rfl
  |_=>rfl
 cases sa with
 |ptr i off=>
  simp only [targetId,Option.some.injEq] at ht;subst ht;simp only [storeAt] at hst;split at hst
  ·rename_i bt cells n cU hsz
   split at hst
   ·rename_i cs
    split at hst
    ·rename_i hc
     injection hst with hst;subst hst
     refine ⟨rfl,fun j hj=>aX _ _ (fun e=>hj e.symm),fun x hx _=> ?_⟩;simp only [storeAt,hx,cU,hsz,hc,bT];simp
    ·cases hst
   ·rename_i cs
    split at hst
    ·rename_i hc
     injection hst with hst;subst hst
     refine ⟨rfl,fun j hj=>aX _ _ (fun e=>hj e.symm),fun x hx _=> ?_⟩;simp only [storeAt,hx,cU,hsz,hc,bT];simp
    ·cases hst
   ·rename_i hno1 hno
    split at hst
    ·rename_i hc
     injection hst with hst;subst hst
     refine ⟨rfl,fun j hj=>aX _ _ (fun e=>hj e.symm),fun x hx hxs=> ?_⟩;have h1:=hone x hxs;simp only [storeAt,hx,cU,hsz,bT];cases sv with
     |pv v=>
      cases v with
      |agg cs=>exact absurd rfl (hno cs)
      |_=>simp only [h1,hc,and_self,if_true]
     |ag cs=>exact absurd rfl (hno1 cs)
     |_=>simp only [h1,hc,and_self,if_true]
    ·cases hst
  ·cases hst
 |rp i sz k off=>
  simp only [targetId,Option.some.injEq] at ht;subst ht;simp only [storeAt] at hst;split at hst
  ·rename_i e sz' xs n v cU hsz
   split at hst
   ·rename_i c hc
    split at hst
    ·rename_i de
     injection hst with hst;subst hst
     refine ⟨rfl,fun j hj=>aX _ _ (fun e=>hj e.symm),fun x hx _=> ?_⟩;simp only [storeAt,hx,cU,hsz,hc,bT];rw [if_pos de]
    ·cases hst
   ·cases hst
  ·cases hst
 |_=>simp [targetId] at ht
def dY.wE (f:dY) (t:Nat):Prop:=f.all=true∨t∈f.ws∨(f.mv.isSome=true∧f.we t=true)
def dY.wO (f:dY) (t:Nat):Prop:=f.all=true∨t∈f.wo∨(f.mv.isSome=true∧f.oe t=true)
theorem oE {l:List Nat} {p:Nat→Bool} {x:Nat} (hx:x∈l) (hp:p x=true):l.any p=true:=List.any_eq_true.2 ⟨x,hx,hp⟩
theorem Ob.BU {id:Nat} {o:Ob} (h:o.mentions id=false):o.bV id=o:=by
 cases o with
 |box t cells=>
  simp only [Ob.mentions,List.any_eq_false] at h;simp only [Ob.bV]
  congr 1
  exact (List.map_congr_left fun c hc=>sQ (by simpa using h c hc)).trans (List.map_id _)
 |_=>rfl
theorem Hf {o:Oper} {s s':St} {c:Call} {d id:Nat} {fresh:List (Nat×Nat)} {ops:Array Oper} (ho:o.op= .call c) (hd:o.dst=some d) (iD:DR P s fresh ops c (some d)=some id) (hst:step P h bN o s=some s'):
  (fresh=[]∧distinct (ops.toList.filterMap (·.dst))=true)∧∃ob:Ob,(∀j,ob.bV j=ob)∧s'=(s.new id ob).set (some d) (.row id)∧
   ∀x:St,(∀t∈slotsOf o,x.env t=s.env t)→(∀j∈id::Ew s o,x.ob j=s.ob j)→step P h bN o x=some ((x.new id ob).set (some d) (.row id)):=by
 unfold DR at iD;split at iD
 ·rename_i x y t t' d' hc hargs wk G1
  cases de:(fresh.isEmpty&&distinct (ops.toList.filterMap (·.dst))) with
  |false=>rw [de] at iD;cases iD
  |true=>
  rw [de] at iD;simp only [cond_true] at iD;simp only [Bool.and_eq_true,List.isEmpty_iff] at de;refine ⟨de,?_⟩;split at iD
  ·rename_i id' hx
   injection iD with iD;subst iD
   have hf:∀x:St,cM P h bN o x=none:=fun x=>by simp only [cM,ho,hc,r6]
   have he:∀x':St,step P h bN o x'=(match isSlice P t,bw P t x' x,bw P t' x' y with
    |some (e,s),some (.row id),some y=>match x'.ob id,elems x' y,P.info? e with
     |some (.row e' sz xs),some (sz',ys),some i=>
      if t=t'∧e=e'∧s=sz∧sz=sz'∧0<sz∧(xs.length+ys.length) *i.bytes≤140737488355328∧xs.length+ys.length≤4611686018427387904∧i.zero.map (fun z=>z.cells.size)=some sz∧lQ id=true then
       some ((x'.new id (.row e sz (xs++ys))).set (some d) (.row id)) else none
     |_,_,_=>none
    |_,_,_=>none):=fun x'=>by
    simp only [step,hf,mS,ho,hc,hd,hargs,wk];rfl
   rw [he] at hst;split at hst
   ·rename_i e sz0 id2 sy hs hx2 hy
    rw [hx] at hx2;simp only [Option.some.injEq,SV.row.injEq] at hx2;subst hx2;split at hst
    ·rename_i e' sz xs sz' ys i cU hel hi
     split at hst
     ·rename_i hcnd
      injection hst with hst
      refine ⟨.row e sz (xs++ys),fun j=>rfl,hst.symm,fun x' hx' hox=> ?_⟩
      have hopx:∀z∈[x,y],∀ty,bw P ty x' z=bw P ty s z:=fun z hz ty=>vm (fun u e=>hx' u (by
       subst e;refine List.mem_filterMap.2 ⟨.tmp u,?_,rfl⟩;rw [ho];simp only [Op.operands,Call.operands,hc,Array.toList_append,List.mem_append]
       right
       rw [hargs];exact hz)) ty
      rw [he,hopx x (by simp) t,hopx y (by simp) t',hx,hy,hs];have e1:x'.ob id'=s.ob id':=hox id' (by simp)
      have e2:elems x' sy=elems s sy:=sF (fun j hj=>hox j (List.mem_cons_of_mem _ (yt (P:=P) (x:=y) (ty:=t') (by
       rw [ho];simp only [Op.operands,Call.operands,hc,Array.toList_append,List.mem_append]
       right
       rw [hargs];simp) hy hj)))
      simp only [e1,cU,e2,hel,hi];rw [if_pos hcnd]
     ·cases hst
    ·cases hst
   ·cases hst
  ·cases iD
 ·cases iD
theorem wG {id:Nat} {v:SV} (h:v.mentions id=true):id∈v.ids:=by
 have caps:∀cs:List ko,cs.any (ko.mentions id)=true→id∈cs.filterMap (fun
  | .p j| .r j=>some j
  | .v _=>none):=fun cs hc=>by
  obtain ⟨c,hc1,Dh⟩:=List.any_eq_true.1 hc;refine List.mem_filterMap.2 ⟨c,hc1,?_⟩;cases c with
  |v a=>simp [ko.mentions] at Dh
  |p j=>rw [←beq_iff.1 Dh]
  |r j=>rw [←beq_iff.1 Dh]
 induction v with
 |two s b ih=>exact ih h
 |ptr j off=>simp only [SV.ids,List.mem_singleton];exact (beq_iff.1 h).symm
 |row j=>simp only [SV.ids,List.mem_singleton];exact (beq_iff.1 h).symm
 |rp j sz i off=>simp only [SV.ids,List.mem_singleton];exact (beq_iff.1 h).symm
 |sub j sz lo hi=>simp only [SV.ids,List.mem_singleton];exact (beq_iff.1 h).symm
 |cl f cs=>exact caps cs h
 |ag cs=>exact caps cs h
 |_=>simp [SV.mentions] at h
theorem Bb:∀{l:List Oper} {m q t:Nat} {a b:Oper},distinct (l.filterMap (·.dst))=true→l[m]? =some a→l[q]? =some b→a.dst=some t→b.dst=some t→m=q
 |[],m,q,t,a,b,_,h1,_,_,_=>by simp at h1
 |x::l,m,q,t,a,b,hd,h1,h2,e1,e2=>by
  have mem:∀{k:Nat} {c:Oper},l[k]? =some c→c.dst=some t→t∈l.filterMap (·.dst):=fun hk hc=>List.mem_filterMap.2 ⟨_,List.mem_of_getElem? hk,hc⟩
  cases hx:x.dst with
  |none=>
   rw [List.filterMap_cons_none hx] at hd;cases m with
   |zero=>simp at h1;subst h1;rw [hx] at e1;cases e1
   |succ m=>
    cases q with
    |zero=>simp at h2;subst h2;rw [hx] at e2;cases e2
    |succ q=>exact congrArg (· +1) (Bb hd (by simpa using h1) (by simpa using h2) e1 e2)
  |some d=>
   rw [List.filterMap_cons_some hx] at hd;simp only [distinct,Bool.and_eq_true,Bool.not_eq_true'] at hd;have hnot:d∉l.filterMap (·.dst):=fun hm=>by
    have:(l.filterMap (·.dst)).contains d=true:=by simpa using hm
    rw [this] at hd;cases hd.1
   cases m with
   |zero=>
    simp at h1;subst h1;rw [hx] at e1;injection e1 with e1;subst e1
    cases q with
    |zero=>rfl
    |succ q=>exact absurd (mem (by simpa using h2) e2) hnot
   |succ m=>
    cases q with
    |zero=>
     simp at h2;subst h2;rw [hx] at e2;injection e2 with e2;subst e2
     exact absurd (mem (by simpa using h1) e1) hnot
    |succ q=>exact congrArg (· +1) (Bb hd.2 (by simpa using h1) (by simpa using h2) e1 e2)
theorem IX {ops:Array Oper} {fresh:List (Nat×Nat)} {i:Nat} {o:Oper} {s s':St} {f:dY} (hr:AQ P h bN ops fresh i o s f s'):
  (∀t,¬f.wE t→s'.env t=s.env t)∧∀id,¬f.wO id→s'.ob id=s.ob id:=by
 suffices hsuf:f.all=false→(∀t,t∉f.ws→(f.mv.isSome=true→f.we t=false)→s'.env t=s.env t)∧∀id,id∉f.wo→(f.mv.isSome=true→f.oe id=false)→s'.ob id=s.ob id by
  cases hall:f.all with
  |true=>exact ⟨fun t ht=>absurd (.inl hall) ht,fun t ht=>absurd (.inl hall) ht⟩
  |false=>
   obtain ⟨h1,h2⟩:=hsuf hall;refine ⟨fun t ht=>h1 t (fun hm=>ht (.inr (.inl hm))) ?_,fun t ht=>h2 t (fun hm=>ht (.inr (.inl hm))) ?_⟩
   ·intro hm
    cases hb:f.we t with
    |true=>exact absurd (.inr (.inr ⟨hm,hb⟩)) ht
    |false=>rfl
   ·intro hm
    cases hb:f.oe t with
    |true=>exact absurd (.inr (.inr ⟨hm,hb⟩)) ht
    |false=>rfl
 intro hall;have FC:∀v:SV,(∀t,t∉o.dst.toList→(s.set o.dst v).env t=s.env t)∧(s.set o.dst v).ob=s.ob:=fun v=>by
  cases hd:o.dst with
  |none=>exact ⟨fun _ _=>rfl,rfl⟩
  |some d=>exact ⟨fun t ht=>aX _ _ (fun e=>ht (by simp [e])),rfl⟩
 rcases hr with ⟨_,rfl,rfl⟩|⟨_,v,_,rfl,rfl,_⟩|⟨_,t,x,y,sa,sv,id,_,_,_,_,htg,hst,rfl,_⟩|⟨_,t,d,z,_,_,_,_,rfl,rfl⟩|⟨_,_,rfl,_⟩|⟨_,hst,c,d,id,ya,G1,iD,rfl⟩
 ·exact ⟨fun t ht _=>(FC _).1 t ht,fun id _ _=>by rw [(FC _).2]⟩
 ·exact ⟨fun t ht _=>(FC _).1 t ht,fun id _ _=>by rw [(FC _).2]⟩
 ·obtain ⟨h1,h2,_⟩:=uQ hst htg
  exact ⟨fun t _ _=>by rw [h1],fun j hj _=>h2 j (fun e=>hj (by simp [fL,e]))⟩
 ·exact ⟨fun t ht _=>aX _ _ (fun e=>ht (by simp [gu,e])),fun j hj _=>aX _ _ (fun e=>hj (by simp [gu,e]))⟩
 ·simp [eH] at hall
 ·obtain ⟨_,ob,hpo,rfl,_⟩:=Hf ya G1 iD hst
  refine ⟨fun t ht XF=> ?_,fun j _ Xs=> ?_⟩
  ·have hne:d≠t:=fun e=>ht (by simp [iV,e])
   simp only [St.set,St.new,St.bV,aX _ _ hne]
   replace XF:=XF rfl
   simp only [iV] at XF;cases hv:s.env t with
   |none=>rfl
   |some v=>rw [hv] at XF;simp only [Option.map_some];rw [sQ XF]
  ·replace Xs:=Xs rfl
   simp only [iV,Bool.or_eq_false_iff] at Xs;have hne:id≠j:=fun e=>by rw [e,Nat.beq_refl] at Xs;cases Xs.1
   simp only [St.set,St.new,St.bV,aX _ _ hne];cases hv:s.ob j with
   |none=>rfl
   |some v=>rw [hv] at Xs;simp only [Option.map_some];rw [Ob.BU Xs.2]
section
variable {W:Nat→Prop} {D E:Nat→Prop}
open Classical in
noncomputable def last (W D:Nat→Prop):Nat→Nat
 |0=>0
 |m+1=>if D m∧W m then m+1 else last W D m
theorem gK:∀{n:Nat},(∀m,m<n→W m→(D m↔E m))→last W D n=last W E n:=by
 intro n
 induction n with
 |zero=>intro _;rfl
 |succ n ih=>
  intro hc;simp only [last];have hi:=ih (fun m hm=>hc m (by omega));by_cases hw:W n
  ·have:=hc n (by omega) hw
   by_cases hd:D n
   ·rw [if_pos ⟨hd,hw⟩,if_pos ⟨this.1 hd,hw⟩]
   ·rw [if_neg (fun h=>hd h.1),if_neg (fun h=>hd (this.2 h.1)),hi]
  ·rw [if_neg (fun h=>hw h.2),if_neg (fun h=>hw h.2),hi]
theorem BE {i:Nat} (hW:W i) (hD:D i):∀{n:Nat},i<n→(∀m,i<m→m<n→W m→¬D m)→last W D n=i+1:=by
 intro n
 induction n with
 |zero=>intro h;omega
 |succ n ih=>
  intro hin hno;simp only [last];rcases Nat.lt_or_ge i n with hlt|hge
  ·have:¬(D n∧W n):=fun h=>hno n hlt (by omega) h.2 h.1
   rw [if_neg this];exact ih hlt (fun m h1 h2=>hno m h1 (by omega))
  ·have:i=n:=by omega
   subst this;rw [if_pos ⟨hD,hW⟩]
theorem mj {α:Type} {g:Nat→α} {i n:Nat} (hg:∀m,m<n→¬W m→g (m+1)=g m):∀{m:Nat},m≤n→g (last W (· <i) m)=g (min m i):=by
 intro m
 induction m with
 |zero=>intro _;simp [last]
 |succ m ih=>
  intro hm;simp only [last];by_cases hc:m<i∧W m
  ·rw [if_pos hc,Nat.min_eq_left (by omega)]
  ·rw [if_neg hc,ih (by omega)]
   by_cases hlt:m<i
   ·rw [Nat.min_eq_left (by omega),Nat.min_eq_left (by omega)]
    exact (hg m (by omega) (fun hw=>hc ⟨hlt,hw⟩)).symm
   ·rw [Nat.min_eq_right (by omega),Nat.min_eq_right (by omega)]
end
def kU (x:St) (d:Nat):Prop:=(∀t sv,x.env t=some sv→sv.bV d=sv)∧∀id o,x.ob id=some o→o.bV d=o
theorem zU (a b:Nat) (v:SV) (hv:v.bV a=v):(v.bV b).bV a=v.bV b:=by
 unfold SV.bV at hv⊢;cases hb:v.mentions b with
 |true=>simp [SV.mentions]
 |false=>simp only [cond_false];exact hv
theorem BV (a:Nat) (v:SV):(v.bV a).bV a=v.bV a:=by
 unfold SV.bV;cases hb:v.mentions a with
 |true=>simp [SV.mentions]
 |false=>simp [hb]
theorem BT:∀(l:List (Nat×Nat)) (st:St),(∀p∈l,kU (gW l st) p.1)∧∀d,kU st d→kU (gW l st) d:=by
 have keep:∀(st:St) (b d:Nat),kU st d→kU (st.bV b) d:=by
  intro st b d hn;refine ⟨fun t sv he=> ?_,fun id o ho=> ?_⟩
  ·simp only [St.bV] at he
   cases h1:st.env t with
   |none=>simp [h1] at he
   |some s=>simp [h1] at he;subst he;exact zU d b s (hn.1 t s h1)
  ·simp only [St.bV] at ho
   by_cases e:b=id
   ·subst e;simp [bT] at ho
   ·simp only [aX _ _ e] at ho
    cases h1:st.ob id with
    |none=>simp [h1] at ho
    |some q=>
     simp [h1] at ho;subst ho;have:=hn.2 id q h1;cases q with
     |row e sz xs=>rfl
     |mp k e ks vs=>rfl
     |mr k e s ks vs=>rfl
     |it s n=>rfl
     |box t cells=>
      simp only [Ob.bV,Ob.box.injEq,true_and,List.map_map] at this⊢;rw [List.map_inj_left];intro c hc;have hcp:c.bV d=c:=by
       have:=List.map_inj_left.1 (this.trans (List.map_id cells).symm) c hc;simpa using this
      exact zU d b c hcp
 have self:∀(st:St) (d:Nat),kU (st.bV d) d:=by
  intro st d;refine ⟨fun t sv he=> ?_,fun id o ho=> ?_⟩
  ·simp only [St.bV] at he
   cases h1:st.env t with
   |none=>simp [h1] at he
   |some s=>simp [h1] at he;subst he;exact BV d s
  ·simp only [St.bV] at ho
   by_cases e:d=id
   ·subst e;simp [bT] at ho
   ·simp only [aX _ _ e] at ho
    cases h1:st.ob id with
    |none=>simp [h1] at ho
    |some q=>
     simp [h1] at ho;subst ho;cases q with
     |row e sz xs=>rfl
     |mp k e ks vs=>rfl
     |mr k e s ks vs=>rfl
     |it s n=>rfl
     |box t cells=>
      simp only [Ob.bV,Ob.box.injEq,true_and,List.map_map];rw [List.map_inj_left];intro c hc;exact BV d c
 intro l
 induction l with
 |nil=>intro st;exact ⟨by simp,fun d h=>h⟩
 |cons p l ih=>
  intro st;obtain ⟨h1,h2⟩:=ih (st.bV p.1);refine ⟨fun q hq=> ?_,fun d hd=>h2 d (keep st p.1 d hd)⟩;rcases List.mem_cons.1 hq with rfl|hq
  ·exact h2 _ (self st _)
  ·exact h1 q hq
theorem jw {d:Nat} {v:SV} (hm:v.mentions d=false):v.bV d=v:=by simp [SV.bV,hm]
theorem kU.set {x:St} {d:Nat} (hn:kU x d) {t:Option Nat} {v:SV} (hv:v.bV d=v):kU (x.set t v) d:=by
 cases t with
 |none=>exact hn
 |some t=>
  refine ⟨fun u sv he=> ?_,hn.2⟩;simp only [St.set] at he;by_cases e:t=u
  ·subst e;simp only [bT,Option.some.injEq] at he;subst he;exact hv
  ·simp only [aX _ _ e] at he;exact hn.1 u sv he
theorem kU.I7 {x:St} {d:Nat} (hn:kU x d) {id:Nat} {o:Ob} (ho:o.bV d=o):kU { x with ob:=put x.ob id (some o) } d:=by
 refine ⟨hn.1,fun j o' he=> ?_⟩;by_cases e:id=j
 ·subst e;simp only [bT,Option.some.injEq] at he;subst he;exact ho
 ·simp only [aX _ _ e] at he;exact hn.2 j o' he
theorem I5 {d:Nat} {t:TypeId} {cells:List SV} (h:(Ob.box t cells).bV d= .box t cells):∀c∈cells,c.bV d=c:=fun c hc=>by
 simp only [Ob.bV,Ob.box.injEq,true_and] at h;have:=List.map_inj_left.1 (h.trans (List.map_id cells).symm) c hc;simpa using this
theorem oH {d:Nat} {t:TypeId} {cells:List SV} (h:∀c∈cells,c.bV d=c):(Ob.box t cells).bV d= .box t cells:=by
 simp only [Ob.bV,Ob.box.injEq,true_and];have:cells.map (SV.bV d)=cells.map id:=List.map_inj_left.2 (fun c hc=>by simpa using h c hc);rw [this,List.map_id]
theorem DA {t:TypeId} {x x':St} {sa sv:SV} {d:Nat} (hn:kU x d) (hv:sv.bV d=sv) (hst:storeAt P t x sa sv=some x'):kU x' d:=by
 cases sa with
 |ptr i off=>
  simp only [storeAt] at hst;split at hst
  ·rename_i bt cells n cU hsz
   have hc:=I5 (hn.2 i _ cU);split at hst
   ·rename_i cs
    split at hst
    ·injection hst with hst;subst hst
     refine hn.I7 (oH fun c rV=> ?_);simp only [List.mem_append,List.mem_map] at rV;rcases rV with (h1|⟨y,hy,rfl⟩)|h1
     ·exact hc c (List.mem_of_mem_take h1)
     ·have hm:(SV.ag cs).mentions d=false:=by
       cases hm:(SV.ag cs).mentions d with
       |false=>rfl
       |true=>simp [SV.bV,hm] at hv
      have hy':y.mentions d=false:=by
       simp only [SV.mentions,List.any_eq_false] at hm;simpa using hm y hy
      cases y with
      |v a=>rfl
      |p id=>exact jw hy'
      |r id=>exact jw hy'
     ·exact hc c (List.mem_of_mem_drop h1)
    ·cases hst
   ·rename_i cs
    split at hst
    ·injection hst with hst;subst hst
     refine hn.I7 (oH fun c rV=> ?_);simp only [List.mem_append,List.mem_map] at rV;rcases rV with (h1|⟨y,_,rfl⟩)|h1
     ·exact hc c (List.mem_of_mem_take h1)
     ·rfl
     ·exact hc c (List.mem_of_mem_drop h1)
    ·cases hst
   ·split at hst
    ·injection hst with hst;subst hst
     refine hn.I7 (oH fun c rV=> ?_);rcases List.mem_or_eq_of_mem_set rV with h1|rfl
     ·exact hc c h1
     ·exact hv
    ·cases hst
  ·cases hst
 |rp i sz k off=>
  simp only [storeAt] at hst;split at hst
  ·split at hst
   ·split at hst
    ·injection hst with hst;subst hst
     exact hn.I7 rfl
    ·cases hst
   ·cases hst
  ·cases hst
 |_=>simp [storeAt] at hst
theorem OZ {x:St} {d:Nat} (hn:kU x d) {o:Ob} {v:SV}:(x.new d o).set (some d) v={ env:=put x.env d (some v),ob:=put x.ob d (some o) }:=by
 have he:(x.bV d).env=x.env:=by
  funext t
  simp only [St.bV];cases h1:x.env t with
  |none=>rfl
  |some s=>simp [hn.1 t s h1]
 have ho:∀j,d≠j→(x.bV d).ob j=x.ob j:=fun j hj=>by
  simp only [St.bV,aX _ _ hj];cases h1:x.ob j with
  |none=>rfl
  |some s=>simp [hn.2 j s h1]
 simp only [St.new,St.set,he,St.mk.injEq,true_and]
 funext j
 by_cases e:d=j
 ·subst e;simp [bT]
 ·rw [aX _ _ e,aX _ _ e,ho j e]
theorem LC:∀{l:List Oper} {i k:Nat} {o:Oper} {t:TypeId} {d:Nat},l[k]? =some o→o.op= .alloc t→o.dst=some d→(d,i+k)∈dS i l:=by
 intro l
 induction l with
 |nil=>intro i k o t d hk;simp at hk
 |cons x l ih=>
  intro i k o t d hk ho hd;cases k with
  |zero=>
   simp at hk;subst hk;simp [dS,ho,hd]
  |succ k=>
   simp at hk;have:=ih (i:=i+1) hk ho hd;rw [show i+1+k=i+(k+1) from by omega] at this;simp only [dS];split
   ·exact List.mem_cons_of_mem _ this
   ·exact this
theorem Pa:∀{l:List (Nat×Nat)} {p q:Nat×Nat},mq l=true→p∈l→q∈l→p.1=q.1→p=q:=by
 intro l
 induction l with
 |nil=>intro p q _ hp;simp at hp
 |cons x l ih=>
  intro p q ho hp hq he;simp only [mq,Bool.and_eq_true,Bool.not_eq_true'] at ho;have no:∀y∈l,y.1≠x.1:=fun y hy e=>by
   have:=List.any_eq_false.1 ho.1 y hy;rw [e] at this;simp [Nat.beq_refl] at this
  rcases List.mem_cons.1 hp with rfl|hp'<;>rcases List.mem_cons.1 hq with rfl|KH
  ·rfl
  ·exact absurd he.symm (no q KH)
  ·exact absurd he (no p hp')
  ·exact ih ho.2 hp' KH he
theorem Oo:∀{l:List Oper} {i:Nat},lC i l=true→∀(p:Nat) (o:Oper),l[p]? =some o→∀e∈o.after.toList,Region.binds .any e=true→e.on<i+p:=by
 intro l
 induction l with
 |nil=>intro i _ p o ho;simp at ho
 |cons x l ih=>
  intro i hs p o ho e he hb;simp only [lC,Bool.and_eq_true] at hs;cases p with
  |zero=>
   simp at ho;subst ho;have:=List.all_eq_true.1 hs.1 e he;simp only [hb,Bool.not_true,Bool.false_or,Nat.blt_eq] at this;omega
  |succ p=>
   simp at ho;have:=ih hs.2 p o ho e he hb;omega
theorem wY {ops:Array Oper} {D:Nat→Prop} (xS:∀j o,D j→ops[j]? =some o→∀e∈o.after.toList,Region.binds .any e=true→D e.on):
  ∀(n i j:Nat),(∀o,ops[i]? =some o→∀e∈o.after.toList,Region.binds .any e=true→D e.on)→reach ops n i j=true→D j:=by
 intro n
 induction n with
 |zero=>intro i j _ h;simp [reach] at h
 |succ n ih=>
  intro i j uC h;simp only [reach] at h;cases ho:ops[i]? with
  |none=>simp [ho] at h
  |some o=>
   simp only [ho,Bool.or_eq_true] at h;rcases h with h|h
   ·simp only [Qv,List.any_eq_true,Bool.and_eq_true] at h
    obtain ⟨e,he,hb,hon⟩:=h;have:=uC o ho e he hb
    rwa [beq_iff.1 hon] at this
   ·simp only [List.any_eq_true,Bool.and_eq_true] at h
    obtain ⟨e,he,hb,hr⟩:=h;exact ih e.on j (fun o' ho' e' he' hb'=>xS e.on o' (uC o ho e he hb) ho' e' he' hb') hr
theorem filter_lt {α:Type} {p q:α→Bool} {l:List α} {i:α} (hi:i∈l) (hp:p i=true) (hq:q i=false) (hpq:∀j,q j=true→p j=true):(l.filter q).length<(l.filter p).length:=by
 have le:∀l:List α,(l.filter q).length≤(l.filter p).length:=by
  intro l
  induction l with
  |nil=>simp
  |cons x l ih=>
   by_cases hx:q x=true
   ·simp [List.filter_cons,hx,hpq x hx,ih]
   ·have hx':q x=false:=by simpa using hx
    by_cases hy:p x=true
    ·simp [List.filter_cons,hx',hy];omega
    ·have hy':p x=false:=by simpa using hy
     simpa [List.filter_cons,hx',hy'] using ih
 induction l with
 |nil=>simp at hi
 |cons x l ih=>
  rcases List.mem_cons.1 hi with rfl|hi
  ·simp only [List.filter_cons,hp,hq,if_true]
   have:=le l;simp;omega
  ·have:=ih hi
   by_cases hx:q x=true
   ·simp [List.filter_cons,hx,hpq x hx,this]
   ·have hx':q x=false:=by simpa using hx
    by_cases hy:p x=true
    ·simp [List.filter_cons,hx',hy];omega
    ·have hy':p x=false:=by simpa using hy
     simpa [List.filter_cons,hx',hy'] using this
theorem Rel.bV {N:Nat} {w0:World} {μ0:Mu} {L:lp} {μ:Mu} {loc:Nat→Value} {st:St} {a:Act} {w:World} (hR:Rel N w0 μ0 L μ loc st a w) (id:Nat):Rel N w0 μ0 L μ loc (st.bV id) a w:=by
 have qU:∀j o,(st.bV id).ob j=some o→∃o',st.ob j=some o'∧o=o'.bV id:=fun j o ho=>by
  simp only [St.bV] at ho;by_cases e:id=j
  ·subst e;simp [bT] at ho
  ·simp only [aX _ _ e] at ho
   cases h1:st.ob j with
   |none=>simp [h1] at ho
   |some o'=>simp [h1] at ho;exact ⟨o',rfl,ho.symm⟩
 refine { hR with env:=fun i sv he=> ?_,obs:=fun j o ho=> ?_,apart:=fun i j oi oj hi hj=> ?_ }
 ·simp only [St.bV] at he
  cases h1:st.env i with
  |none=>simp [h1] at he
  |some s=>
   simp [h1] at he;subst he;obtain ⟨v,hv,hs⟩:=hR.env i s h1;exact ⟨v,hv,dX hs⟩
 ·obtain ⟨o',ho',rfl⟩:=qU j o ho
  have:=hR.obs j o' ho';cases o' with
  |row e sz xs=>exact this
  |mp k e ks vs=>exact this
  |mr k e s ks vs=>exact this
  |it s n=>exact this
  |box t cells=>
   obtain ⟨b,vs,h1,h2,h3,h4,h5,h6⟩:=this;refine ⟨b,vs,h1,h2,h3,h4,?_,h6⟩;clear h3 h6 ho' ho
   induction cells generalizing vs with
   |nil=>exact h5
   |cons c cs ih=>
    obtain ⟨u,us,rfl,k1,k2⟩:=h5;exact ⟨u,us,rfl,dX k1,ih us k2⟩
 ·obtain ⟨PI,hi',_⟩:=qU i oi hi
  obtain ⟨Tm,hj',_⟩:=qU j oj hj;exact hR.apart i j PI Tm hi' hj'
theorem Rel.gW {N:Nat} {w0:World} {μ0:Mu} {L:lp} {μ:Mu} {loc:Nat→Value} {a:Act} {w:World}:∀(l:List (Nat×Nat)) (st:St),Rel N w0 μ0 L μ loc st a w→Rel N w0 μ0 L μ loc (AM.gW l st) a w
 |[],_,hR=>hR
 |p::l,st,hR=>Rel.gW l (st.bV p.1) (hR.bV p.1)
end
section
variable {P:Program} {N:Nat} {w0:World} {μ0:Mu} {L:lp} {h:Hint} {bN:dm} {Q:Exit→Act→World→Prop}
structure YY (S:Nat→St) (Fp:Nat→dY) (fresh:List (Nat×Nat)) (n:Nat) (D:Nat→Prop) (x:St):Prop where
 env:∀t,x.env t=(S (last (fun m=>(Fp m).wE t) D n)).env t
 ob:∀id,x.ob id=(S (last (fun m=>(Fp m).wO id) D n)).ob id
 Nu:∀p∈fresh,¬D p.2→kU x p.1
theorem St.same {x y:St} (h1:∀t,x.env t=y.env t) (h2:∀t,x.ob t=y.ob t):x=y:=by
 obtain ⟨xe,xo⟩:=x;obtain ⟨ye,yo⟩:=y;have e1:xe=ye:=funext h1;have e2:xo=yo:=funext h2;rw [e1,e2]
theorem Td {ops:Array Oper} {fresh:List (Nat×Nat)} {S:Nat→St} {Fp:Nat→dY} {D E:Nat→Prop} {x:St} {i:Nat} {o:Oper} (hfresh:fresh=dS 0 ops.toList) (Rq:mq fresh=true)
  (hop:∀k o,ops[k]? =some o→AQ P h bN ops fresh k o (S k) (Fp k) (S (k+1)))
  (zF:∀k q,q<k→k<ops.size→(Fp q).conflict (Fp k)=true→reach ops 12 k q=true)
  (hM:YY S Fp fresh ops.size D x) (ho:ops[i]? =some o) (hi:i<ops.size) (hD:¬D i) (hE:∀j,E j↔(D j∨j=i))
  (sM:∀j,reach ops 12 i j=true→D j) (xS:∀m q,D m→reach ops 12 m q=true→D q):
  ∃x',((fC ops o x=some true∧step P h bN o x=some x')∨(fC ops o x=some false∧x'=x.set o.dst .undef))∧YY S Fp fresh ops.size E x':=by
 have hframe:∀m,m<ops.size→(∀t,¬(Fp m).wE t→(S (m+1)).env t=(S m).env t)∧∀id,¬(Fp m).wO id→(S (m+1)).ob id=(S m).ob id:=fun m hm=>
  IX (hop m _ (Array.getElem?_eq_getElem hm))
 have side:∀m,m<ops.size→m≠i→(Fp m).conflict (Fp i)=true→(Fp i).conflict (Fp m)=true→(D m↔m<i):=by
  intro m hm hne c1 c2;rcases Nat.lt_or_gt_of_ne hne with hlt|hgt
  ·exact ⟨fun _=>hlt,fun _=>sM m (zF i m hlt hi c1)⟩
  ·exact ⟨fun hd=>absurd (xS m i hd (zF m i hgt hm c2)) hD,fun hl=>by omega⟩
 have WY:∀t,((Fp i).wE t∨t∈(Fp i).rs)→∀m,(Fp m).wE t→(Fp m).conflict (Fp i)=true∧(Fp i).conflict (Fp m)=true:=by
  intro t ht m hm;unfold dY.conflict dY.JM;rcases ht with (h1|h1|⟨h0,h1⟩)|h1
  ·simp [h1]
  ·rcases hm with h2|h2|⟨_,h2⟩
   ·simp [h2]
   ·simp [iX h2 h1,iX h1 h2]
   ·simp [oE h1 h2]
  ·rcases hm with h2|h2|⟨h3,h2⟩
   ·simp [h2]
   ·simp [oE h2 h1]
   ·obtain ⟨d1,hd1⟩:=Option.isSome_iff_exists.1 h0
    obtain ⟨d2,hd2⟩:=Option.isSome_iff_exists.1 h3;simp [dY.sS,hd1,hd2]
  ·rcases hm with h2|h2|⟨_,h2⟩
   ·simp [h2]
   ·simp [iX h2 h1,iX h1 h2]
   ·simp [oE h1 h2]
 have WZ:∀t,((Fp i).wO t∨t∈(Fp i).ro)→∀m,(Fp m).wO t→(Fp m).conflict (Fp i)=true∧(Fp i).conflict (Fp m)=true:=by
  intro t ht m hm;unfold dY.conflict dY.JM;rcases ht with (h1|h1|⟨h0,h1⟩)|h1
  ·simp [h1]
  ·rcases hm with h2|h2|⟨_,h2⟩
   ·simp [h2]
   ·simp [iX h2 h1,iX h1 h2]
   ·simp [oE h1 h2]
  ·rcases hm with h2|h2|⟨h3,h2⟩
   ·simp [h2]
   ·simp [oE h2 h1]
   ·obtain ⟨d1,hd1⟩:=Option.isSome_iff_exists.1 h0
    obtain ⟨d2,hd2⟩:=Option.isSome_iff_exists.1 h3;simp [dY.sS,hd1,hd2]
  ·rcases hm with h2|h2|⟨_,h2⟩
   ·simp [h2]
   ·simp [iX h2 h1,iX h1 h2]
   ·simp [oE h1 h2]
 have Mv:∀t,(S (last (fun m=>(Fp m).wE t) (· <i) ops.size)).env t=(S i).env t:=fun t=>by
  have:=mj (W:=fun m=>(Fp m).wE t) (g:=fun k=>(S k).env t) (i:=i) (n:=ops.size) (fun m hm Uw=>(hframe m hm).1 t Uw) (Nat.le_refl _)
  rwa [Nat.min_eq_right (by omega)] at this
 have Mw:∀t,(S (last (fun m=>(Fp m).wO t) (· <i) ops.size)).ob t=(S i).ob t:=fun t=>by
  have:=mj (W:=fun m=>(Fp m).wO t) (g:=fun k=>(S k).ob t) (i:=i) (n:=ops.size) (fun m hm Uw=>(hframe m hm).2 t Uw) (Nat.le_refl _)
  rwa [Nat.min_eq_right (by omega)] at this
 have WG:∀t,((Fp i).wE t∨t∈(Fp i).rs)→x.env t=(S i).env t:=by
  intro t ht;rw [hM.env t,gK (E:=(· <i)) (fun m hm hw=> ?_)]
  ·exact Mv t
  ·by_cases e:m=i
   ·subst e;exact ⟨fun h=>absurd h hD,fun h=>by omega⟩
   ·exact side m hm e (WY t ht m hw).1 (WY t ht m hw).2
 have YF:∀t,((Fp i).wO t∨t∈(Fp i).ro)→x.ob t=(S i).ob t:=by
  intro t ht;rw [hM.ob t,gK (E:=(· <i)) (fun m hm hw=> ?_)]
  ·exact Mw t
  ·by_cases e:m=i
   ·subst e;exact ⟨fun h=>absurd h hD,fun h=>by omega⟩
   ·exact side m hm e (WZ t ht m hw).1 (WZ t ht m hw).2
 have after:∀x':St,(∀t,(Fp i).wE t→x'.env t=(S (i+1)).env t)→(∀t,¬(Fp i).wE t→x'.env t=x.env t)→
   (∀t,(Fp i).wO t→x'.ob t=(S (i+1)).ob t)→(∀t,¬(Fp i).wO t→x'.ob t=x.ob t)→
   (∀p∈fresh,¬D p.2→p.2≠i→kU x' p.1)→YY S Fp fresh ops.size E x':=by
  intro x' e1 e2 o1 o2 hj;refine ⟨fun t=> ?_,fun t=> ?_,fun p hp hnE=>hj p hp (fun hd=>hnE ((hE _).2 (.inl hd))) (fun e=>hnE ((hE _).2 (.inr e)))⟩
  ·by_cases hw:(Fp i).wE t
   ·rw [e1 t hw,BE (W:=fun m=>(Fp m).wE t) (i:=i) hw ((hE i).2 (.inr rfl)) hi (fun m h1 h2 XG hEm=> ?_)]
    have hc:=WY t (.inl hw) m XG;rcases (hE m).1 hEm with hd|rfl
    ·have:=(side m h2 (by omega) hc.1 hc.2).1 hd;omega
    ·omega
   ·rw [e2 t hw,hM.env t,gK (E:=E) (fun m hm XG=> ?_)]
    rw [hE m];exact ⟨.inl,fun hd=>hd.elim id fun e=>absurd (e▸XG) hw⟩
  ·by_cases hw:(Fp i).wO t
   ·rw [o1 t hw,BE (W:=fun m=>(Fp m).wO t) (i:=i) hw ((hE i).2 (.inr rfl)) hi (fun m h1 h2 XG hEm=> ?_)]
    have hc:=WZ t (.inl hw) m XG;rcases (hE m).1 hEm with hd|rfl
    ·have:=(side m h2 (by omega) hc.1 hc.2).1 hd;omega
    ·omega
   ·rw [o2 t hw,hM.ob t,gK (E:=E) (fun m hm XG=> ?_)]
    rw [hE m];exact ⟨.inl,fun hd=>hd.elim id fun e=>absurd (e▸XG) hw⟩
 have menP:∀v,iY ops fresh i v=true→∀p∈fresh,¬D p.2→v.bV p.1=v:=fun v hv p hp kq=>by
  have:=List.all_eq_true.1 hv p hp;simp only [Bool.or_eq_true,Bool.not_eq_true'] at this;rcases this with h1|h1
  ·exact jw h1
  ·exact absurd (sM _ h1) kq
 have setE:∀v:SV,(Fp i).ws=o.dst.toList→S (i+1)=(S i).set o.dst v→(∀t,t∈(Fp i).ws→(x.set o.dst v).env t=(S (i+1)).env t)∧(∀t,t∉(Fp i).ws→(x.set o.dst v).env t=x.env t)∧(x.set o.dst v).ob=x.ob:=by
  intro v Rz hS;rw [Rz,hS];cases hd:o.dst with
  |none=>exact ⟨fun t ht=>by simp at ht,fun _ _=>rfl,rfl⟩
  |some d=>
   refine ⟨fun t ht=> ?_,fun t ht=>aX _ _ (fun e=>ht (by simp [e])),rfl⟩;have:t=d:=by simpa using ht
   subst this;simp [St.set,bT]
 have hrun:=hop i o ho;rcases hrun with ⟨hw,hS,hf⟩|⟨hw,v,hv,hS,hf,hm⟩|⟨hw,t,ax,ay,sa,sv,id,ya,hdn,hx,hy,htg,hst,hf,hm⟩|⟨hw,t,d,z,ya,G1,hrw,hz,hS,hf⟩|⟨hw,hst,hf,hlow⟩|⟨hw,hst,c,d,id,ya,G1,iD,hf⟩
 ·
  have hall:(Fp i).all=false:=by rw [hf];rfl
  have mK:(Fp i).mv=none:=by rw [hf];rfl
  have OM:(Fp i).wo=[]:=by rw [hf];rfl
  have hrd:∀t∈iA ops o,x.env t=(S i).env t:=fun t ht=>WG t (.inr (by rw [hf];exact ht))
  obtain ⟨s1,s2,s3⟩:=setE .undef (by rw [hf];rfl) hS;refine ⟨x.set o.dst .undef, .inr ⟨by rw [kL hrd];exact hw,rfl⟩,after _ (fun t ht=>s1 t (by simpa [dY.wE,mK,hall] using ht)) (fun t ht=>s2 t (by simpa [dY.wE,mK,hall] using ht)) (fun t ht=>by simp [dY.wO,mK,hall,OM] at ht) (fun t _=>by rw [s3]) (fun p hp kq _=>(hM.Nu p hp kq).set rfl)⟩
 ·
  have hall:(Fp i).all=false:=by rw [hf];rfl
  have mK:(Fp i).mv=none:=by rw [hf];rfl
  have OM:(Fp i).wo=[]:=by rw [hf];rfl
  have hrd:∀t∈iA ops o,x.env t=(S i).env t:=fun t ht=>WG t (.inr (by rw [hf];exact ht))
  obtain ⟨s1,s2,s3⟩:=setE v (by rw [hf];rfl) hS;have hfv:cM P h bN o x=some v:=by
   rw [←hv];refine (Kw (st:=S i) (st':=x) (fun hn id hid=>(YF id (.inr (by rw [hf];simp [sI,hn,hid]))).symm) (fun id hid=>(YF id (.inr ?_)).symm) (fun t ht=>(hrd t (by simp [iA,ht])).symm)).symm;have hn:IQ o.op=false:=by
    unfold Gs at hid;cases hopc:o.op<;>simp [hopc] at hid;rfl
   rw [hf];simp [sI,hn,hid]
  refine ⟨x.set o.dst v, .inl ⟨by rw [kL hrd];exact hw,by unfold step;rw [hfv]⟩,after _ (fun t ht=>s1 t (by simpa [dY.wE,mK,hall] using ht)) (fun t ht=>s2 t (by simpa [dY.wE,mK,hall] using ht)) (fun t ht=>by simp [dY.wO,mK,hall,OM] at ht) (fun t _=>by rw [s3]) (fun p hp kq _=>(hM.Nu p hp kq).set (menP v hm p hp kq))⟩
 ·
  have hall:(Fp i).all=false:=by rw [hf];rfl
  have mK:(Fp i).mv=none:=by rw [hf];rfl
  have Rz:(Fp i).ws=[]:=by rw [hf];rfl
  have OM:(Fp i).wo=[id]:=by rw [hf];rfl
  have hrd:∀t∈iA ops o,x.env t=(S i).env t:=fun t ht=>WG t (.inr (by rw [hf];exact ht))
  obtain ⟨l1,l2,l3⟩:=uQ hst htg
  have hox:∀y∈o.op.operands.toList,∀ty,bw P ty x y=bw P ty (S i) y:=fun y hy' ty=>vm (fun u e=>hrd u (by
   subst e
   exact List.mem_append_left _ (List.mem_filterMap.2 ⟨.tmp u,hy',rfl⟩))) ty
  have hxs:storeAt P t x sa sv=some { x with ob:=put x.ob id ((S (i+1)).ob id) }:=by
   refine l3 x (YF id (.inr (by rw [hf];simp [fL]))) (fun j hj=>YF j (.inr ?_));rw [hf];simp only [fL,List.mem_cons];exact .inr (yt (P:=P) (x:=ay) (ty:=t) (by rw [ya];simp [Op.operands]) hy hj)
  refine ⟨{ x with ob:=put x.ob id ((S (i+1)).ob id) }, .inl ⟨by rw [kL hrd];exact hw,?_⟩,after _ (fun t ht=>by simp [dY.wE,mK,hall,Rz] at ht) (fun t _=>rfl) (fun t ht=> ?_) (fun t ht=> ?_) (fun p hp kq _=> ?_)⟩
  ·have k1:=hox ax (by rw [ya];simp [Op.operands]) 0
   have k2:=hox ay (by rw [ya];simp [Op.operands]) t;have hfn:cM P h bN o x=none:=by simp [cM,ya,cR]
   unfold step;rw [hfn];simp only [mS,hdn,ya,k1,k2,hx,hy];exact hxs
  ·have:t=id:=by simpa [dY.wO,mK,hall,OM] using ht
   subst this;exact bT _ _ _
  ·exact aX _ _ (fun e=>ht (.inr (.inl (by rw [OM,e];simp))))
  ·exact DA (hM.Nu p hp kq) (menP sv hm p hp kq) hxs
 ·
  have hall:(Fp i).all=false:=by rw [hf];rfl
  have mK:(Fp i).mv=none:=by rw [hf];rfl
  have Rz:(Fp i).ws=[d]:=by rw [hf];rfl
  have OM:(Fp i).wo=[d]:=by rw [hf];rfl
  have hrd:∀t∈iA ops o,x.env t=(S i).env t:=fun t ht=>WG t (.inr (by rw [hf];exact ht))
  have hin:(d,i)∈fresh:=by
   rw [hfresh];have:=LC (l:=ops.toList) (i:=0) (k:=i) (by simpa using ho) ya G1;simpa using this
  have hno:=hM.Nu _ hin hD;refine ⟨{ env:=put x.env d (some (.ptr d 0)),ob:=put x.ob d (some (.box t (z.map .pv))) }, .inl ⟨by rw [kL hrd];exact hw,?_⟩,after _ (fun u hu=> ?_) (fun u hu=> ?_) (fun u hu=> ?_) (fun u hu=> ?_) (fun p hp kq hpi=> ?_)⟩
  ·have hfn:cM P h bN o x=none:=by simp [cM,ya,cR]
   unfold step;rw [hfn];simp only [mS,G1,ya,hz,hrw,cond_false];rw [OZ hno]
  ·have:u=d:=by simpa [dY.wE,mK,hall,Rz] using hu
   subst this;rw [hS];simp [bT]
  ·exact aX _ _ (fun e=>hu (.inr (.inl (by rw [Rz,e];simp))))
  ·have:u=d:=by simpa [dY.wO,mK,hall,OM] using hu
   subst this;rw [hS];simp [bT]
  ·exact aX _ _ (fun e=>hu (.inr (.inl (by rw [OM,e];simp))))
  ·have hne:p.1≠d:=fun e=>hpi (by
    have:=Pa Rq hp hin e
    rw [this])
   have h1:kU (x.set (some d) (.ptr d 0)) p.1:=(hM.Nu p hp kq).set (jw (by simp [SV.mentions,J6 (fun e=>hne e.symm)]))
   exact h1.I7 (id:=d) (o:= .box t (z.map .pv)) (oH fun c hc=>by
    obtain ⟨y,_,rfl⟩:=List.mem_map.1 hc
    rfl)
 ·
  have hall:(Fp i).all=true:=by rw [hf];rfl
  have hx:x=S i:=St.same (fun t=>WG t (.inl (.inl hall))) (fun t=>YF t (.inl (.inl hall)));refine ⟨S (i+1), .inl ⟨by rw [hx];exact hw,by rw [hx];exact hst⟩,after _ (fun _ _=>rfl) (fun t ht=>absurd (.inl hall) ht) (fun _ _=>rfl) (fun t ht=>absurd (.inl hall) ht) (fun p hp kq _=> ?_)⟩;have:=List.all_eq_true.1 hlow p hp;have hlt:p.2<i:=by simpa [Nat.blt_eq] using this
  exact absurd (sM _ (zF i p.2 hlt hi (by unfold dY.conflict;simp [hall]))) kq
 ·
  obtain ⟨⟨hfr,Re⟩,ob,hpo,hS,hrun⟩:=Hf ya G1 iD hst;have mK:(Fp i).mv=some id:=by rw [hf];rfl
  have XF:∀t,(Fp i).we t=match (S i).env t with
   |some v=>v.mentions id
   |none=>false:=fun t=>by rw [hf];rfl
  have hrd:∀t∈iA ops o,x.env t=(S i).env t:=fun t ht=>WG t (.inr (by rw [hf];exact ht))
  have hro:∀j∈id::Ew (S i) o,x.ob j=(S i).ob j:=fun j hj=>YF j (.inr (by rw [hf];exact hj))
  have qU:∀j,x.ob j=(S i).ob j:=fun j=>by
   rw [hM.ob j,gK (E:=(· <i)) (fun m hm hw=> ?_)]
   ·exact Mw j
   ·by_cases e:m=i
    ·subst e;exact ⟨fun h=>absurd h hD,fun h=>by omega⟩
    ·have hc:(Fp m).conflict (Fp i)=true∧(Fp i).conflict (Fp m)=true:=by
      unfold dY.conflict dY.sS;rcases hw with h2|h2|⟨h3,_⟩
      ·simp [h2]
      ·have:(Fp m).wo.isEmpty=false:=by
        cases OM:(Fp m).wo with
        |nil=>rw [OM] at h2;cases h2
        |cons=>rfl
       simp [mK,this]
      ·obtain ⟨d2,hd2⟩:=Option.isSome_iff_exists.1 h3
       simp [mK,hd2]
     exact side m hm e hc.1 hc.2
  have Rz:∀m t,m<ops.size→t∈(Fp m).ws→∃om,ops[m]? =some om∧om.dst=some t:=fun m t hm ht=>by
   have hom:ops[m]? =some (ops[m]'hm):=Array.getElem?_eq_getElem hm;refine ⟨_,hom,?_⟩;rcases hop m _ hom with ⟨_,_,si⟩|⟨_,v,_,_,si,_⟩|⟨_,t',x',y',sa,sv,id',_,_,_,_,_,_,si,_⟩|⟨_,t',d',z,_,KD,_,_,_,si⟩|⟨_,_,si,_⟩|⟨_,_,c',d',id',_,KD,_,si⟩
   ·rw [si] at ht;simpa [nO] using ht
   ·rw [si] at ht;simpa [sI] using ht
   ·rw [si] at ht;simp [fL] at ht
   ·rw [si] at ht;have:t=d':=by simpa [gu] using ht
    rw [this];exact KD
   ·rw [si] at ht;simp [eH] at ht
   ·rw [si] at ht;have:t=d':=by simpa [iV] using ht
    rw [this];exact KD
  have huniq:∀m q t,m<ops.size→q<ops.size→t∈(Fp m).ws→t∈(Fp q).ws→m=q:=fun m q t hm hq h1 h2=>by
   obtain ⟨om,e1,e2⟩:=Rz m t hm h1;obtain ⟨oq,e3,e4⟩:=Rz q t hq h2;exact Bb Re (by simpa using e1) (by simpa using e3) e2 e4
  have Z3:∀m t,m<ops.size→m≠i→(Fp m).wE t→t∉(Fp m).ws→(D m↔m<i):=fun m t hm hne hw hn=>by
   have hc:(Fp m).conflict (Fp i)=true∧(Fp i).conflict (Fp m)=true:=by
    unfold dY.conflict dY.sS;rcases hw with h2|h2|⟨h3,_⟩
    ·simp [h2]
    ·exact absurd h2 hn
    ·obtain ⟨d2,hd2⟩:=Option.isSome_iff_exists.1 h3
     simp [mK,hd2]
   exact side m hm hne hc.1 hc.2
  have hmen:∀m,m<ops.size→m≠i→id∈(Fp m).Nu→(D m↔m<i):=fun m hm hne hid=>by
   have hc:(Fp m).conflict (Fp i)=true∧(Fp i).conflict (Fp m)=true:=by
    have:(Fp m).Nu.any (Nat.beq id)=true:=oE hid (Nat.beq_refl id);unfold dY.conflict dY.sS;simp [mK,this]
   exact side m hm hne hc.1 hc.2
  have hkey:∀t v,x.env t=some v→v.mentions id=true→∀m,m<ops.size→m≠i→(Fp m).wE t→(D m↔m<i):=by
   intro t v hv hm m Ro hne hw;by_cases hin:t∈(Fp m).ws
   ·have Rs:∀q,q<ops.size→q≠m→q≠i→(Fp q).wE t→(D q↔q<i):=fun q hq hqm hqi YO=>Z3 q t hq hqi YO (fun h2=>hqm (huniq q m t hq Ro h2 hin))
    have hom:ops[m]? =some (ops[m]'Ro):=Array.getElem?_eq_getElem Ro;have hnew:∀u,(S (m+1)).env t=some u→u.mentions id=true→id∈(Fp m).Nu∨(Fp m).wo≠[]∨(Fp m).all=true∨(Fp m).mv.isSome=true:=by
     intro u hu hum;obtain ⟨om,e1,e2⟩:=Rz m t Ro hin;rcases hop m om e1 with ⟨_,Xf,si⟩|⟨_,v',_,Xf,si,_⟩|⟨_,t',x',y',sa,sv,id',_,_,_,_,_,_,si,_⟩|⟨_,t',d',z,_,KD,_,_,_,si⟩|⟨_,_,si,_⟩|⟨_,_,c',d',id',_,KD,_,si⟩
     ·rw [Xf,e2] at hu
      simp only [St.set,bT,Option.some.injEq] at hu;subst hu;simp [SV.mentions] at hum
     ·rw [Xf,e2] at hu
      simp only [St.set,bT,Option.some.injEq] at hu;subst hu
      left;rw [si];simp [sI,wG hum]
     ·right;left;rw [si];simp [fL]
     ·right;left;rw [si];simp [gu]
     ·right;right;left;rw [si];rfl
     ·right;right;right;rw [si];rfl
    have hold:∀u,(S m).env t=some u→u.mentions id=true→id∈(Fp m).Nu∨(Fp m).wo≠[]∨(Fp m).all=true∨(Fp m).mv.isSome=true:=by
     intro u hu hum;obtain ⟨om,e1,e2⟩:=Rz m t Ro hin;have hoi:id∈Gh om (S m):=by simp only [Gh,e2,hu];exact wG hum
     rcases hop m om e1 with ⟨_,Xf,si⟩|⟨_,v',_,Xf,si,_⟩|⟨_,t',x',y',sa,sv,id',_,_,_,_,_,_,si,_⟩|⟨_,t',d',z,_,KD,_,_,_,si⟩|⟨_,_,si,_⟩|⟨_,_,c',d',id',_,KD,_,si⟩
     ·left;rw [si];exact hoi
     ·left;rw [si];simp [sI,hoi]
     ·right;left;rw [si];simp [fL]
     ·right;left;rw [si];simp [gu]
     ·right;right;left;rw [si];rfl
     ·right;right;right;rw [si];rfl
    have Z7:(id∈(Fp m).Nu∨(Fp m).wo≠[]∨(Fp m).all=true∨(Fp m).mv.isSome=true)→(D m↔m<i):=by
     intro hh;rcases hh with h1|h1|h1|h1
     ·exact hmen m Ro hne h1
     ·have:(Fp m).wo.isEmpty=false:=by
       cases OM:(Fp m).wo with
       |nil=>exact absurd OM h1
       |cons=>rfl
      exact side m Ro hne (by unfold dY.conflict dY.sS;simp [mK,this]) (by unfold dY.conflict dY.sS;simp [mK,this])
     ·exact side m Ro hne (by unfold dY.conflict;simp [h1]) (by unfold dY.conflict;simp [h1])
     ·obtain ⟨d2,hd2⟩:=Option.isSome_iff_exists.1 h1
      exact side m Ro hne (by unfold dY.conflict dY.sS;simp [mK,hd2]) (by unfold dY.conflict dY.sS;simp [mK,hd2])
    constructor
    ·intro hDm
     rcases Nat.lt_or_gt_of_ne hne with h1|h1
     ·exact h1
     ·
      have hlast:last (fun m=>(Fp m).wE t) D ops.size=m+1:=BE (W:=fun m=>(Fp m).wE t) (i:=m) hw hDm Ro (fun q hq1 hq2 YO hDq=>by
       have hqi:q≠i:=fun e=>hD (e▸hDq)
       have:=(Rs q hq2 (by omega) hqi YO).1 hDq
       omega)
      have qW:=hM.env t;rw [hlast,hv] at qW;exact (Z7 (hnew v qW.symm hm)).1 hDm
    ·intro hlt
     refine Classical.byContradiction fun Xo=> ?_
     have hsame:last (fun m=>(Fp m).wE t) D ops.size=last (fun m=>(Fp m).wE t) (· <m) ops.size:=gK (fun q hq YO=>by
      by_cases eqm:q=m
      ·subst eqm;exact ⟨fun h=>absurd h Xo,fun h=>by omega⟩
      ·by_cases eqi:q=i
       ·subst eqi;exact ⟨fun h=>absurd h hD,fun h=>by omega⟩
       ·have KH:=Rs q hq eqm eqi YO
        constructor
        ·intro hDq
         rcases Nat.lt_or_gt_of_ne eqm with h1|h1
         ·exact h1
         ·exfalso
          have hcq:(Fp m).conflict (Fp q)=true:=by
           unfold dY.conflict dY.JM;rcases YO with h2|h2|⟨_,h2⟩
           ·simp [h2]
           ·simp [iX hin h2]
           ·simp [oE hin h2]
          exact Xo (xS q m hDq (zF q m h1 hq hcq))
        ·intro hqm;exact KH.2 (by omega))
     have hbm:(S (last (fun m=>(Fp m).wE t) (· <m) ops.size)).env t=(S m).env t:=by
      have:=mj (W:=fun m=>(Fp m).wE t) (g:=fun k=>(S k).env t) (i:=m) (n:=ops.size) (fun m hm Uw=>(hframe m hm).1 t Uw) (Nat.le_refl _)
      rwa [Nat.min_eq_right (by omega)] at this
     have Xf:(S m).env t=some v:=by rw [←hbm,←hsame,←hM.env t];exact hv
     exact Xo ((Z7 (hold v Xf hm)).2 hlt)
   ·exact Z3 m t Ro hne hw hin
  have Xz:∀t v,x.env t=some v→v.mentions id=true→(Fp i).wE t:=fun t v hv hm=>by
   refine .inr (.inr ⟨by rw [mK];rfl,?_⟩);rw [XF];have key:(S i).env t=some v:=by
    rw [←hv,hM.env t,←Mv t]
    congr 2
    refine (gK (fun m hmn hw=> ?_)).symm;by_cases e:m=i
    ·subst e;exact ⟨fun h=>absurd h hD,fun h=>by omega⟩
    ·exact hkey t v hv hm m hmn e hw
   rw [key];exact hm
  have hpv:∀t,¬(Fp i).wE t→(x.env t).map (SV.bV id)=x.env t:=fun t ht=>by
   cases hv:x.env t with
   |none=>rfl
   |some v=>
    cases hm:v.mentions id with
    |true=>exact absurd (Xz t v hv hm) ht
    |false=>simp only [Option.map_some];rw [jw hm]
  refine ⟨(x.new id ob).set (some d) (.row id), .inl ⟨by rw [kL hrd];exact hw,hrun x (fun t ht=>hrd t (by simp [iA,ht])) hro⟩,after _ (fun t ht=> ?_) (fun t ht=> ?_) (fun t _=> ?_) (fun t ht=> ?_) (fun p hp=>by rw [hfr] at hp;cases hp)⟩
  ·rw [hS]
   by_cases e:d=t
   ·subst e;simp [St.set,bT]
   ·simp only [St.set,St.new,St.bV,aX _ _ e]
    rw [WG t (.inl ht)]
  ·have e:d≠t:=fun e=>ht (.inr (.inl (by rw [hf];simp [iV,e])))
   simp only [St.set,St.new,St.bV,aX _ _ e];exact hpv t ht
  ·rw [hS]
   simp only [St.set,St.new,St.bV];by_cases e:id=t
   ·subst e;simp [bT]
   ·simp only [aX _ _ e];rw [qU t]
  ·have e:id≠t:=fun e=>ht (.inr (.inr ⟨by rw [mK];rfl,by rw [hf];simp [iV,e,Nat.beq_refl]⟩))
   simp only [St.set,St.new,St.bV,aX _ _ e];have h0:¬((Fp i).oe t=true):=fun h=>ht (.inr (.inr ⟨by rw [mK];rfl,h⟩))
   rw [hf] at h0;simp only [iV,Bool.or_eq_true,not_or] at h0;rw [qU t];cases hv:(S i).ob t with
   |none=>rfl
   |some v=>
    rw [hv] at h0;simp only [Option.map_some];rw [Ob.BU (by simpa using h0.2)]
theorem Kk (fm:eF L.q μ0 P bN) {ops:Array Oper} {st stF:St} (Xi:lC 0 ops.toList=true) (Rq:mq (dS 0 ops.toList)=true)
  (hrun:cn P h bN ops (dS 0 ops.toList) 0 ops.toList [] (gW (dS 0 ops.toList) st)=some stF) (hd:∀o∈ops.toList,∀i,o.dst=some i→i<N)
  (hQ:∀a' w' μ' loc',Rel N w0 μ0 L μ' loc' stF a' w'→Q .normal a' w') {μ:Mu} {loc:Nat→Value} {a:Act} {w:World} (hR:Rel N w0 μ0 L μ loc st a w):
  wpAny P .any ops Q ops.size (Array.replicate ops.size false) a w:=by
 obtain ⟨S,Fp,h0,hn,Ux,_,Ru⟩:=Yr _ _ _ _ _ hrun;simp only [Nat.zero_add,Array.length_toList] at hn Ux Ru;have hop:∀k o,ops[k]? =some o→AQ P h bN ops (dS 0 ops.toList) k o (S k) (Fp k) (S (k+1)):=fun k o hk=>Ux k o (by simpa using hk)
 have zF:∀k q,q<k→k<ops.size→(Fp q).conflict (Fp k)=true→reach ops 12 k q=true:=fun k q=>Ru k q
 let D:Array Bool→Nat→Prop:=fun listed j=>listed.getD j false=true
 have Y2:∀(listed:Array Bool) (a:Act) (w:World) (μ:Mu) (loc:Nat→Value),(∀j,j<ops.size→D listed j)→(∃x,YY S Fp (dS 0 ops.toList) ops.size (D listed) x∧Rel N w0 μ0 L μ loc x a w)→Q .normal a w:=by
  intro listed a w μ loc hall ⟨x,hM,Vq⟩;have hframe:∀m,m<ops.size→(∀t,¬(Fp m).wE t→(S (m+1)).env t=(S m).env t)∧∀id,¬(Fp m).wO id→(S (m+1)).ob id=(S m).ob id:=fun m hm=>
   IX (hop m _ (Array.getElem?_eq_getElem hm))
  have hx:x=stF:=by
   rw [←hn];refine St.same (fun t=> ?_) (fun t=> ?_)
   ·rw [hM.env t,gK (E:=(· <ops.size)) (fun m hm _=>⟨fun _=>hm,fun _=>hall m hm⟩)]
    have:=mj (W:=fun m=>(Fp m).wE t) (g:=fun k=>(S k).env t) (i:=ops.size) (n:=ops.size) (fun m hm Uw=>(hframe m hm).1 t Uw) (Nat.le_refl _)
    rwa [Nat.min_self] at this
   ·rw [hM.ob t,gK (E:=(· <ops.size)) (fun m hm _=>⟨fun _=>hm,fun _=>hall m hm⟩)]
    have:=mj (W:=fun m=>(Fp m).wO t) (g:=fun k=>(S k).ob t) (i:=ops.size) (n:=ops.size) (fun m hm Uw=>(hframe m hm).2 t Uw) (Nat.le_refl _)
    rwa [Nat.min_self] at this
  subst hx;exact hQ _ _ _ _ Vq
 have main:∀(fuel:Nat) (listed:Array Bool) (a:Act) (w:World) (μ:Mu) (loc:Nat→Value),listed.size=ops.size→((List.range ops.size).filter fun j=> !listed.getD j true).length≤fuel→
   (∀j o,D listed j→ops[j]? =some o→∀e∈o.after.toList,Region.binds .any e=true→D listed e.on)→
   (∃x,YY S Fp (dS 0 ops.toList) ops.size (D listed) x∧Rel N w0 μ0 L μ loc x a w)→
   wpAny P .any ops Q fuel listed a w:=by
  intro fuel
  induction fuel with
  |zero=>
   intro listed a w μ loc hsz hleft xS hinv;have hall:∀j,j<ops.size→D listed j:=fun j hj=>by
    have h0:((List.range ops.size).filter fun j=> !listed.getD j true)=[]:=List.eq_nil_of_length_eq_zero (by omega);have:=List.filter_eq_nil_iff.1 h0 j (by simpa using hj);have hlt:j<listed.size:=by omega
    simpa [D,Array.getD,hlt] using this
   refine ⟨?_,?_⟩
   ·unfold Region.ready
    apply List.filter_eq_nil_iff.2;intro j hj;have hj':j<ops.size:=by simpa using hj
    have:=hall j hj';have hlt:j<listed.size:=by omega
    have ht:listed.getD j true=true:=by simpa [D,Array.getD,hlt] using this
    simp [ht]
   ·exact Y2 listed a w μ loc hall hinv
  |succ fuel ih=>
   intro listed a w μ loc hsz hleft xS hinv;have Xy:∀i,i∈Region.ready .any ops listed→∃o,ops[i]? =some o∧i<ops.size∧¬D listed i∧listed.getD i true=false∧∀e∈o.after.toList,Region.binds .any e=true→D listed e.on:=by
    intro i hi;unfold Region.ready at hi;simp only [List.mem_filter,List.mem_range,Bool.and_eq_true,Bool.not_eq_true'] at hi;obtain ⟨hlt,hnl,uC⟩:=hi;have ho:ops[i]? =some (ops[i]'hlt):=Array.getElem?_eq_getElem hlt;refine ⟨_,ho,hlt,?_,hnl,?_⟩
    ·have hl':i<listed.size:=by omega
     have:listed[i]=false:=by simpa [Array.getD,hl'] using hnl
     simp [D,Array.getD,hl',this]
    ·intro e he hb
     simp only [ho,Option.map_some,Option.getD_some] at uC;have:=Array.all_eq_true'.1 uC e (by simpa using he);simpa [hb,D] using this
   have FC:∀i,i<ops.size→∀j,D (listed.setIfInBounds i true) j↔(D listed j∨j=i):=by
    intro i hi j;have hl':i<listed.size:=by omega
    by_cases hj:j<listed.size
    ·by_cases e:i=j
     ·subst e;simp [D,Array.getD,hj]
     ·have e':j≠i:=fun h=>e h.symm
      simp [D,Array.getD,hj,e,e',Array.getElem_setIfInBounds]
    ·have e':j≠i:=fun h=>by subst h;exact hj hl'
     have h1:(listed.setIfInBounds i true).getD j false=false:=by simp [Array.getD,hj]
     have h2:listed.getD j false=false:=by simp [Array.getD,hj]
     simp only [D,h1,h2,e',or_false]
   have next:∀i o,ops[i]? =some o→i<ops.size→¬D listed i→listed.getD i true=false→(∀e∈o.after.toList,Region.binds .any e=true→D listed e.on)→
     (listed.setIfInBounds i true).size=ops.size∧((List.range ops.size).filter fun j=> !(listed.setIfInBounds i true).getD j true).length≤fuel∧
     (∀j o,D (listed.setIfInBounds i true) j→ops[j]? =some o→∀e∈o.after.toList,Region.binds .any e=true→D (listed.setIfInBounds i true) e.on):=by
    intro i o ho hlt Xo hnl uC;refine ⟨by simp [hsz],?_,?_⟩
    ·have hl':i<listed.size:=by omega
     have:=filter_lt (l:=List.range ops.size) (p:=fun j=> !listed.getD j true) (q:=fun j=> !(listed.setIfInBounds i true).getD j true) (i:=i) (by simpa using hlt) (by simp [hnl]) (by simp [Array.getD,hl'])
      (fun j hj=>by
       by_cases hjl:j<listed.size
       ·by_cases e:i=j
        ·subst e;simp [Array.getD,hjl] at hj
        ·simpa [Array.getD,hjl,Array.getElem_setIfInBounds,e] using hj
       ·simp [Array.getD,hjl] at hj)
     omega
    ·intro j oj hj TS e he hb
     rw [FC i hlt] at hj⊢;rcases hj with hj|rfl
     ·exact .inl (xS j oj hj TS e he hb)
     ·rw [ho] at TS;injection TS with TS;subst TS
      exact .inl (uC e he hb)
   have wrap:∀(i:Nat) (o:Oper) (x x':St) (μ:Mu) (loc:Nat→Value),ops[i]? =some o→Rel N w0 μ0 L μ loc x a w→
     ((fC ops o x=some true∧step P h bN o x=some x')∨(fC ops o x=some false∧x'=x.set o.dst .undef))→
     (∀a' w' μ' loc',Rel N w0 μ0 L μ' loc' x' a' w'→wpAny P .any ops Q fuel (listed.setIfInBounds i true) a' w')→wpOp P ops Q i (wpAny P .any ops Q fuel (listed.setIfInBounds i true)) a w:=by
    intro i o x x' μ loc ho Vq hstep hK
    have hdo:∀t,o.dst=some t→t<N:=hd o (by
     have:=List.mem_of_getElem? (show ops.toList[i]? =some o by simpa using ho);exact this)
    unfold wpOp;simp only [ho];rcases hstep with ⟨hw,hstep⟩|⟨hw,rfl⟩
    ·rw [rR Vq hw]
     simp only [if_true];exact .inl (Cg Vq fm hdo hstep hK)
    ·rw [rR Vq hw]
     simp only [Bool.false_eq_true,if_false];exact hK _ _ _ _ (Vq.set hdo (show cW μ loc .undef undef from rfl))
   refine ⟨fun hnil=> ?_,?_⟩
   ·
    by_cases hall:∀j,j<ops.size→D listed j
    ·exact Y2 listed a w μ loc hall hinv
    ·exfalso
     have hex:∃j,j<ops.size∧¬D listed j:=Classical.byContradiction fun hn=>hall fun j hj=>Classical.byContradiction fun hd=>hn ⟨j,hj,hd⟩
     have least:∀n j,j<n→j<ops.size→¬D listed j→∃i,i<ops.size∧¬D listed i∧∀k,k<i→D listed k:=by
      intro n
      induction n with
      |zero=>intro j hj;omega
      |succ n ihn=>
       intro j hj hjs hjd;by_cases hlow:∃k,k<j∧¬D listed k
       ·obtain ⟨k,hk,hkd⟩:=hlow
        exact ihn k (by omega) (by omega) hkd
       ·exact ⟨j,hjs,hjd,fun k hk=>Classical.byContradiction fun hkd=>hlow ⟨k,hk,hkd⟩⟩
     obtain ⟨j,hj,hjd⟩:=hex;obtain ⟨i,hi,hid,hlow⟩:=least (j+1) j (by omega) hj hjd;have ho:ops[i]? =some (ops[i]'hi):=Array.getElem?_eq_getElem hi;have hs2:=Oo Xi i (ops[i]'hi) (by rw [Array.getElem?_toList];exact ho);have hl':i<listed.size:=by omega
     have hmem:i∈Region.ready .any ops listed:=by
      unfold Region.ready;simp only [List.mem_filter,List.mem_range,Bool.and_eq_true,Bool.not_eq_true'];refine ⟨hi,?_,?_⟩
      ·have:¬(listed[i]=true):=by simpa [D,Array.getD,hl'] using hid
       simpa [Array.getD,hl'] using this
      ·simp only [ho,Option.map_some,Option.getD_some]
       apply Array.all_eq_true'.2;intro e he;cases hb:Region.binds .any e with
       |false=>rfl
       |true=>
        have:=hlow e.on (by simpa using hs2 e (by simpa using he) hb);simpa [D] using this
     rw [hnil] at hmem;cases hmem
   ·obtain ⟨x,hM,Vq⟩:=hinv
    intro i hi;obtain ⟨o,ho,hlt,Xo,hnl,uC⟩:=Xy i hi;obtain ⟨n1,n2,n3⟩:=next i o ho hlt Xo hnl uC
    obtain ⟨x',hst,hM'⟩:=Td rfl Rq hop zF hM ho hlt Xo (FC i hlt)
     (fun j hj=>wY xS 12 i j (fun o' ho'=>by rw [ho] at ho';injection ho' with ho';subst ho';exact uC) hj)
     (fun m q hm hr=>wY xS 12 m q (fun o' ho'=>xS m o' hm ho') hr)
    exact wrap i o x x' μ loc ho Vq hst (fun a' w' μ' loc' sL=>ih _ a' w' μ' loc' n1 n2 n3 ⟨x',hM',sL⟩)
 have hnone:∀j,¬D (Array.replicate ops.size false) j:=fun j=>by
  by_cases hj:j<ops.size<;>simp [D,Array.getD,hj]
 have hzero:∀(W:Nat→Prop) (m:Nat),last W (D (Array.replicate ops.size false)) m=0:=fun W m=>by
  induction m with
  |zero=>rfl
  |succ m ih=>simp only [last];rw [if_neg (fun h=>hnone m h.1),ih]
 refine main ops.size _ a w μ loc (by simp) ?_ (fun j o hj=>absurd hj (hnone j)) ⟨gW (dS 0 ops.toList) st,⟨fun t=>by rw [hzero,h0],fun t=>by rw [hzero,h0],fun p hp _=>(BT _ st).1 p hp⟩,Rel.gW _ _ hR⟩
 calc _≤(List.range ops.size).length:=List.length_filter_le _ _
  _=ops.size:=by simp
end
end Go.AM
