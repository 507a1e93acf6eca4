/- THE ABSTRACT MACHINE. -/
import Derived.Test.YthppjmoncapdfaaGreatDoorAmRun
set_option linter.all false
namespace Go.AM
open Go.RowKit
section
variable {P:Program} {h:Hint} {bM:dQ}
theorem kP {st st':St} {x:Operand} (hx:∀t,x= .tmp t→st.env t=st'.env t) (ty:TypeId):bq P ty st x=bq P ty st' x:=by
 cases x with
 |tmp t=>exact hx t rfl
 |_=>rfl
def Mc (P:Program) (st st':St) (x:Operand):Prop:=∀ty sv,bq P ty st x=some sv→∀id∈sv.ids,st.ob id=st'.ob id
theorem vO {st st':St} {v:SV} (hv:∀id∈v.ids,st.ob id=st'.ob id):elems st v=elems st' v:=by
 cases v with
 |sub id s lo hi=>grind [elems,SV.ids]
 |row id=>grind [elems,SV.ids]
 |pv x=>cases x<;>rfl
 |_=>rfl
theorem QH {st st':St} {v:SV} (hv:∀id∈v.ids,st.ob id=st'.ob id):lenOf st v=lenOf st' v:=by
 cases v with
 |row id=>grind [lenOf,SV.ids]
 |pv x=>cases x<;>rfl
 |_=>rfl
theorem Jh {st st':St} {v:SV} (hv:∀id∈v.ids,st.ob id=st'.ob id):maps st v=maps st' v:=by
 cases v with
 |row id=>grind [maps,SV.ids]
 |pv x=>cases x<;>rfl
 |_=>rfl
theorem TZ {st st':St} {v:SV} (hv:∀id∈v.ids,st.ob id=st'.ob id):mK st v=mK st' v:=by
 cases v with
 |row id=>grind [mK,SV.ids]
 |ag cs=>
  have key:∀cs:List _,(∀id∈(SV.ag cs).ids,st.ob id=st'.ob id)→j6 st cs=j6 st' cs:=by
   intro cs
   induction cs with
   |nil=>intro _;rfl
   |cons c cs ih=>
    grind [SV.ids,j6]
  simp [mK,key _ hv]
 | «at» id q=>cases q with
  |full=>rfl
  |nr i=>grind [mK,SV.ids]
 |_=>rfl
theorem KZ {st st':St} {xs:List Operand} {ts:List TypeId} (dG:∀x∈xs,Mc P st st' x) (hx:∀x∈xs,∀ty,bq P ty st x=bq P ty st' x):jI P st xs ts=jI P st' xs ts:=by
 induction xs generalizing ts with
 |nil=>rfl
 |cons x xs ih=>
  have hl:(bq P (ts.headD 0) st x).bind (mK st)=(bq P (ts.headD 0) st' x).bind (mK st'):=by
   rw [←hx x (by simp)];cases ho:bq P _ _ x with
   |none=>rfl
   |some sv=>exact TZ (dG x (by simp) _ _ ho)
  simp_all [jI]
theorem As {st st':St} {b:Bool}:∀{xs:List Operand} {ts:List TypeId},(∀x∈xs,∀ty,bq P ty st x=bq P ty st' x)→rQ P b st xs ts=rQ P b st' xs ts
 |[],_,_=>rfl
 |x::xs,ts,hx=>by
  simp [rQ,NH];rw [hx x (by simp),As (fun y hy=>hx y (by simp [hy]))]
theorem sU {st st':St} {ty:Nat→TypeId} {l:List (Nat×Operand)} (hx:∀x∈l.map (·.2),∀t,bq P t st x=bq P t st' x):partsOf P ty st l=partsOf P ty st' l:=by
 induction l with
 |nil=>rfl
 |cons p l ih=>
  simp_all [partsOf]
theorem zi {st st':St} {b:Bool} {acc:AV} {l:List Operand} (hx:∀x∈l,∀t,bq P t st x=bq P t st' x):mL P st b acc l=mL P st' b acc l:=by
 induction l generalizing acc with
 |nil=>rfl
 |cons x l ih=>
  simp_all [mL]
theorem Rk {st st':St} {c:Call} (dG:∀x∈c.args.toList,Mc P st st' x) (hx:∀x∈c.args.toList,∀ty,bq P ty st x=bq P ty st' x):xm P c st=xm P c st':=by
 obtain ⟨cal,⟨args⟩,tys⟩:=c;unfold xm;simp at hx dG⊢;split
 ·rename_i x
  have hxx:=hx x (by simp);have F4:=dG x (by simp);split
  ·rename_i t _
   rw [←hxx t];cases ho:bq P t _ x with
   |none=>
    simp
   |some sv=>
    have:=QH (F4 t _ ho);have this2:=Jh (F4 t _ ho)
    grind
  ·rfl
 ·grind [zi]
 ·grind [zi]
 ·rfl
theorem BN {st st':St} {x:Option Operand} (hx:∀y,x=some y→∀ty,bq P ty st y=bq P ty st' y):nG P st x=nG P st' x:=by
 cases x with
 |none=>rfl
 |some y=>simp [nG,hx y _]
theorem Ur {st st':St} {o:Oper} (dG:Ra o.op=false→∀x∈o.op.operands.toList,Mc P st st' x) (hop:∀x∈o.op.operands.toList,∀ty,bq P ty st x=bq P ty st' x):e9 P o st=e9 P o st':=by
 obtain ⟨dst,op,type,pos,after,guard⟩:=o;simp only at hop;cases op with
 |move x=>simp_all [Op.operands,e9]
 |assign x=>simp_all [Op.operands,e9]
 |pick c a b=>simp_all [Op.operands,e9]
 |binOp op t x y t'=>simp_all [Op.operands,e9]
 |unOp op t x=>simp_all [Op.operands,e9]
 |convert s d x=>
  have hx:=hop x (by simp [Op.operands]);have ho:=dG rfl x (by simp [Op.operands]) s;have he:(bq P s st x).bind (elems st)=(bq P s st' x).bind (elems st'):=by
   rw [←hx s];cases hv:bq P s st x with
   |none=>rfl
   |some sv=>exact vO (ho _ hv)
  simp only [e9,hx 0,he]
 |nilCheck x=>simp_all [Op.operands,e9]
 |fieldAddr t x f=>simp_all [Op.operands,e9]
 |field t x f=>simp_all [Op.operands,e9]
 |indexAddr t x i=>
  have hx:=hop x (by simp [Op.operands]);have hy:=hop i (by simp [Op.operands]);have ho:=dG rfl x (by simp [Op.operands]) t;have DR:wV P st t x i=wV P st' t x i:=by
   unfold wV;rw [←hx t,←hy 0];cases hv:bq P t st x with
   |none=>simp
   |some sv=>
    have hsv:=ho _ hv
    grind [isSlice,id,bq,SV.ids]
  simp_all [Cm,e9]
 |index t x i=>simp_all [Op.operands,e9]
 |load t x=>
  have hx:=hop x (by simp [Op.operands]);have ho:=dG rfl x (by simp [Op.operands]) 0;simp only [e9];rw [←hx 0];cases hv:bq P 0 st x with
  |none=>rfl
  |some sv=>
   have hsv:=ho _ hv
   grind [id,SV.ids]
 |lookup t x k ok=>
  have hx:=hop x (by simp [Op.operands]);have hk:=hop k (by simp [Op.operands]);have ho:=dG rfl x (by simp [Op.operands]) t;have hm:(bq P t st x).bind (maps st)=(bq P t st' x).bind (maps st'):=by
   rw [←hx t];cases hv:bq P t st x with
   |none=>rfl
   |some sv=>exact Jh (ho _ hv)
  have hkr:(bq P t st x).bind (F7 st)=(bq P t st' x).bind (F7 st'):=by
   rw [←hx t];cases hv:bq P t st x with
   |none=>rfl
   |some sv=>
    have:=ho _ hv;cases sv with
    |row id=>grind [F7,id,SV.ids]
    |_=>rfl
  simp only [e9,hm,hk,hkr]
 |extract x i=>simp_all [Op.operands,e9]
 |slice t x lo hi mx=>
  cases mx with
  |some m=>
   simp only [e9,Vr];cases lo with
   |some l=>rfl
   |none=>
    cases hi with
    |none=>rfl
    |some y=>
     have hx:=hop x (by simp [Op.operands]);have hy:=hop y (by simp [Op.operands]);have hm:=hop m (by simp [Op.operands]);have ho:=dG rfl x (by simp [Op.operands]) t;simp only;rw [←hy 0,←hm 0,←hx t];cases hv:bq P t st x with
     |none=>rfl
     |some sv=>
      have hsv:=ho _ hv
      grind [id,SV.ids]
  |none=>
   have hx:=hop x (by simp [Op.operands]);have hl:=BN (P:=P) (st:=st) (st':=st') (x:=lo) (fun y e=>by simp_all [Op.operands]);have hh:=BN (P:=P) (st:=st) (st':=st') (x:=hi) (fun y e=>by simp_all [Op.operands]);have ho:=dG rfl x (by simp [Op.operands]) t;simp [e9];rw [←hx t];cases hv:bq P t _ x with
   |none=>simp
   |some sv=>
    have hsv:=ho _ hv
    grind [SV.ids]
 |build t parts=>
  grind [sU,Op.operands,e9,yx]
 |call c=>
  have hin:∀x∈c.args.toList,x∈(Op.call c).operands.toList:=fun x hx=>by
   simp_all [Op.operands,Call.operands]
  have:=Rk (fun x hx=>dG rfl x (hin x hx)) (fun x hx=>hop x (hin x hx))
  assumption
 |_=>simp [e9]
theorem uO {st:St}:∀{l:List Operand} {x:Operand} {ty:TypeId} {sv:SV} {id:Nat},x∈l→bq P ty st x=some sv→id∈sv.ids→id∈Lz st l:=by
 intro l
 induction l with
 |nil=>simp
 |cons y l ih=>
  intro x ty sv id hx ho hid;rcases aD.1 hx with rfl|hx
  ·cases x with
   |tmp t=>
    simp_all [bq,Lz]
   |const v=>
    simp [bq] at ho;cases hc:ofConst P ty v with
    |none=>simp_all
    |some y=>grind [SV.ids]
   |func f=>grind [bq,SV.ids]
   |global g=>simp [bq] at ho
  ·have:=ih hx ho hid
   cases y with
   |tmp t=>simp_all [Lz]
   |_=>assumption
theorem wA (st:St):∀(n:Nat) (todo done:List Nat),∀id∈done,id∈kL st n todo done
 |0,todo,done,id,h=>by assumption
 |n+1,[],done,id,h=>by assumption
 |n+1,x::todo,done,id,h=>by
  simp only [kL];cases done.contains x with
  |true=>exact wA _ n _ _ _ h
  |false=>exact wA _ n _ _ _ (by simp [h])
theorem rF {st st':St}:∀(n:Nat) (todo done:List Nat),(∀id∈kL st n todo done,st.ob id=st'.ob id)→kL st n todo done=kL st' n todo done
 |0,todo,done,h=>by rfl
 |n+1,[],done,h=>by rfl
 |n+1,x::todo,done,h=>by
  simp only [kL] at h⊢;cases hc:done.contains x with
  |true=>rw [hc] at h;exact rF n _ _ h
  |false=>
   rw [hc] at h;have hx :=h x (wA _ n _ _ x (by simp));have hi:Ho st x=Ho st' x:=by simp [Ho,hx]
   rw [←hi];exact rF n _ _ h
theorem wF {st st':St} {ids:List Nat} {ρ:Nat→Nat}:∀{l:List (Nat×Nat)},(∀p∈l,st.ob p.1=st'.ob p.1)→lU st ids ρ l=lU st' ids ρ l
 |[],_=>rfl
 |p::l,h=>by
  obtain ⟨id,nm⟩:=p;simp [lU];rw [h (id,nm) (by simp),wF (fun q hq=>h q (by simp [hq]))]
theorem yw {st st':St}:∀{xs:List Operand} {ts:List TypeId},(∀x∈xs,∀ty,bq P ty st x=bq P ty st' x)→tM P h st xs ts=tM P h st' xs ts
 |[],ts,_=>rfl
 |x::xs,ts,hx=>by
  simp [tM,Zf];rw [hx x (by simp),yw (fun y hy=>hx y (by simp [hy]))]
theorem Mk {st st':St} {c:Call} {f:Operand} (hf:bq P 0 st f=bq P 0 st' f) (ha:∀x∈c.args.toList,∀ty,bq P ty st x=bq P ty st' x)
  (Cj:∀g args,tW P h st c f=some (g,args)→∀id∈lg st args,st.ob id=st'.ob id):sw P h bM st c f=sw P h bM st' c f:=by
 have e1:tW P h st c f=tW P h st' c f:=by
  unfold tW;rw [hf,yw ha]
 unfold sw;rw [←e1];cases hr:tW P h _ c f with
 |none=>rfl
 |some p=>
  obtain ⟨g,args⟩:=p;simp only;have hi:=Cj g _ hr;have e2:lg _ _=lg _ _:=rF _ _ _ hi;rw [←e2];have e3:lU _ (lg st args) (qS (jK (lg st args))) (jK (lg st args))=lU _ _ _ _:=
   wF (fun p hp=>hi _ (by
    have:p.1∈(jK _).map _:=aB.2 ⟨p,hp,rfl⟩
    simp_all [jK,tv]))
  rw [e3]
theorem Tk {st st':St} {o:Oper} (Cj:Ra o.op=false→∀id∈BM st o,st.ob id=st'.ob id) (hro:∀id∈JL P h o st,st.ob id=st'.ob id) (MQ:∀t∈slotsOf o,st.env t=st'.env t):ec P h bM o st=ec P h bM o st':=by
 have dG:Ra o.op=false→∀x∈o.op.operands.toList,Mc P st st' x:=fun hn x hx ty sv ho id hid=>Cj hn id (uO hx ho hid)
 have hop:∀x∈o.op.operands.toList,∀ty,bq P ty st x=bq P ty st' x:=fun x hx ty=>kP (fun t e=>MQ t (by
  subst e
  exact fV.2 ⟨.tmp t,hx,rfl⟩)) ty
 have hpv:=Ur (P:=P) (o:=o) dG hop;obtain ⟨dst,op,type,pos,after,guard⟩:=o;simp only at hop;cases op with
 |buildSlice t len parts=>
  have hp:∀ty,partsOf P ty st parts.toList=partsOf P ty st' parts.toList:=fun ty=>sU (fun x hx=>hop x (by simpa [Op.operands] using hx))
  simp [ec,kM,hp]
 |call c=>
  obtain ⟨cal,⟨args⟩,⟨tys⟩⟩:=c;cases cal with
  |value f=>
   have hargs:∀x∈args,x∈(Op.call { callee:=Callee.value f,args:=⟨args⟩,argTypes:=⟨tys⟩ }).operands.toList:=fun x hx=>by
    simp_all [Op.operands,Call.operands,jy,bC]
   have hf:=hop f (by simp [Op.operands,Call.operands]);have ha:=KZ (P:=P) (st:=st) (st':=st') (xs:=args) (ts:=tys) (fun x hx=>dG rfl x (hargs x hx)) (fun x hx=>hop x (hargs x hx));have hr:args.any (kT st)=args.any (kT st'):=by
    have key:∀x∈args,kT st x=kT st' x:=fun x hx=>by
     cases x with
     |tmp t=>
      have:=hop (.tmp t) (hargs _ hx) 0;simp_all [bq,kT]
     |_=>rfl
    clear ha hargs hop hpv MQ dG Cj hro
    induction args with
    |nil=>rfl
    |cons x xs ih=>simp_all
   have mU:args.any (fun x=>(oK h st x).isSome)=args.any (fun x=>(oK h st' x).isSome):=by
    have key:∀x∈args,oK h st x=oK h st' x:=fun x hx=>by
     cases x with
     |tmp t=>
      have:=hop (.tmp t) (hargs _ hx) 0;simp_all [bq,oK]
     |_=>rfl
    clear ha hargs hop hpv MQ hr dG Cj hro
    induction args with
    |nil=>rfl
    |cons x xs ih=>simp_all
   have hwide:wide st { callee:=Callee.value f,args:=⟨args⟩,argTypes:=⟨tys⟩ } f=wide st' { callee:=Callee.value f,args:=⟨args⟩,argTypes:=⟨tys⟩ } f:=by
    have kf:Ty st f=Ty st' f:=by
     cases f with
     |tmp t=>
      simp_all [bq,Ty]
     |_=>rfl
    have key:∀x∈args,DS st x=DS st' x:=fun x hx=>by
     cases x with
     |tmp t=>
      have:=hop (.tmp t) (hargs _ hx) 0;simp_all [bq,DS]
     |_=>rfl
    have kk:args.any (DS st)=args.any (DS st'):=by
     clear ha hargs hop hpv MQ hr dG Cj mU hro
     induction args with
     |nil=>rfl
     |cons x xs ih=>simp_all
    simp only [wide,kf,kk]
   cases how:dst.any h.owns.contains with
   |true=>simp [ec,how]
   |false=>
   cases hst:dst.any h.stay.contains with
   |false=>simp_all [ec]
   |true=>
    have hc:=Mk (P:=P) (h:=h) (bM:=bM) (st:=st) (st':=st') (c:={ callee:=Callee.value f,args:=⟨args⟩,argTypes:=⟨tys⟩ }) (f:=f) (hf 0) (fun x hx=>hop x (hargs x hx)) (fun g as hg id hid=>hro id (by
     simp_all [JL,ai]))
    simp_all [ec]
  |_=>assumption
 |makeFunc f first caps=>
  cases f with
  |func g=>
   have hc:tN st caps.toList=tN st' caps.toList:=by
    have key:∀x∈caps.toList,∀ty,bq P ty st x=bq P ty st' x:=fun x hx=>hop x (by simp_all [Op.operands,jy,bC])
    clear hop hpv MQ dG Cj;generalize caps.toList=l at key
    induction l with
    |nil=>rfl
    |cons x xs ih=>
     cases x with
     |tmp t=>
      simp_all [bq,tN]
     |_=>rfl
   have Pb:qE st caps.toList=qE st' caps.toList:=by
    have key:∀x∈caps.toList,∀ty,bq P _ _ x=bq P _ _ x:=fun x hx=>hop x (by simp_all [Op.operands])
    generalize caps.toList=l at key
    induction l with
    |nil=>rfl
    |cons x xs ih=>
     cases x with
     |tmp t=>
      simp_all [bq,qE]
     |_=>rfl
   have hc3:qE st first.toList=qE st' first.toList:=by
    have key:∀x∈first.toList,∀ty,bq P _ _ x=bq P _ _ x:=fun x hx=>hop x (by simp_all [Op.operands])
    generalize first.toList=l at key
    induction l with
    |nil=>rfl
    |cons x xs ih=>
     cases x with
     |tmp t=>
      simp_all [bq,qE]
     |_=>rfl
   simp [ec,hc,Pb,hc3]
  |_=>rfl
 |assign x=>simp [ec,hpv]
 |lookup t x k ok=>simp [ec,hpv]
 |build t ps=>
  grind [sU,Op.operands,ec,yx]
 |load t x=>simp [ec,hpv]
 |_=>assumption
theorem y8 {st st':St} {ops:Array Oper} {o:Oper} (MQ:∀t∈gM ops o,st.env t=st'.env t):p8 ops o st=p8 ops o st':=by
 grind [p8,gM]
theorem X7 {a b:List Nat} {x:Nat} (ha:x∈a) (hb:x∈b):meets a b=true:=by
 simp [meets]
 grind [Nat.beq_refl]
theorem K9 {t:TypeId} {s s':St} {sa sv:SV} {id:Nat} (hst:storeAt P t s sa sv=some s') (ht:targetId sa=some id):
  s'.env=s.env∧(∀j,j≠id→s'.ob j=s.ob j)∧∀x:St,x.ob id=s.ob id→(∀j∈sv.ids,x.ob j=s.ob j)→storeAt P t x sa sv=some { x with ob:=put x.ob id (s'.ob id) }:=by
 have hone:∀x:St,(∀j∈sv.ids,x.ob j=s.ob j)→rN x sv=rN s sv:=fun x hx=>by
  cases sv with
  |row j=>simp_all [rN,SV.ids]
  |pv v=>cases v<;>rfl
  |_=>rfl
 cases sa with
 |ptr i off=>
  simp [targetId,aG] at ht;subst ht;simp [storeAt] at hst;split at hst
  ·split at hst
   ·split at hst
    ·injection hst with hst;subst hst
     refine ⟨rfl,fun j hj=>bl _ _ (fun e=>hj e.symm),fun x hx _=> ?_⟩;simp_all [storeAt,cu]
    simp_all
   ·split at hst
    ·injection hst with hst;subst hst
     refine ⟨rfl,fun j hj=>bl _ _ (fun e=>hj e.symm),fun x hx _=> ?_⟩;simp_all [storeAt,cu]
    simp_all
   ·split at hst
    ·injection hst with hst;subst hst
     refine ⟨rfl,fun j hj=>bl _ _ (fun e=>hj e.symm),fun x hx hxs=> ?_⟩;simp [storeAt,cu];simp_all
    simp_all
  simp_all
 |rp i sz k off=>
  simp [targetId,aG] at ht;subst ht;simp [storeAt] at hst;split at hst
  ·split at hst
   ·split at hst
    ·injection hst with hst;subst hst
     refine ⟨rfl,fun j hj=>bl _ _ (fun e=>hj e.symm),fun x hx _=> ?_⟩;simp_all [storeAt,cu]
    simp_all
   simp_all
  simp_all
 |_=>simp [targetId] at ht
theorem any_mem {l:List Nat} {p:Nat→Bool} {x:Nat} (hx:x∈l) (hp:p x=true):l.any p=true:=j9.2 ⟨x,hx,hp⟩
theorem yL {id:Nat} {v:SV} (h:v.mentions id=true):id∈v.ids:=by
 have caps:∀cs:List _,cs.any (qm.mentions id)=true→id∈cs.filterMap (fun
  | .p j| .r j=>some j
  | .v _=>none):=fun cs hc=>by
  grind [qm.mentions,beq_iff]
 induction v with
 |two s b ih=>exact ih h
 |ptr j off=>simp [SV.ids,bP];exact (beq_iff.1 h).symm
 |row j=>simp [SV.ids,bP];exact (beq_iff.1 h).symm
 |rp j sz i off=>simp [SV.ids,bP];exact (beq_iff.1 h).symm
 |sub j sz lo hi=>simp [SV.ids,bP];exact (beq_iff.1 h).symm
 |cl f cs=>exact caps _ h
 |ag cs=>exact caps _ h
 | «at» j q=>
  simp [SV.mentions] at h;simp [SV.ids]
  grind [beq_iff]
 |_=>simp [SV.mentions] at h
theorem St.same {x y:St} (h1:∀t,x.env t=y.env t) (h2:∀t,x.ob t=y.ob t):x=y:=by
 obtain ⟨xe,xo⟩:=x;have e1 :=funext h1;have e2 :=funext h2;simp_all
def X9 (p:Nat×Option AV) (v:SV):SV:=match p.2 with
 |none=>v.dm p.1
 |some a=>SV.dD p.1 a v
def j7 (l:List (Nat×Option AV)) (v:SV):SV:=l.foldl (fun v p=>X9 p v) v
def Ob.yJ (g:SV→SV):Ob→Ob
 | .box t cells=> .box t (cells.map g)
 |o=>o
def fT (f:gu) (ev:Nat→Option SV) (ov:Nat→Option Ob) (l:List (Nat×Option AV)) (x:St):St:=
 {env:=fun t=>if t∈f.ws then ev t else (x.env t).map (j7 l),ob:=fun j=>if j∈f.wo then ov j else (x.ob j).map (Ob.yJ (j7 l)) }
theorem Nh (p:Nat×Option AV) (v:SV):∃c:SV,(∀id,c.mentions id=false)∧X9 p v=(bif v.mentions p.1 then c else v)∧((∀j,v≠ .row j)→c= .any):=by
 obtain ⟨id,x⟩:=p;cases x with
 |none=>exact ⟨_,fun _=>rfl,rfl,fun _=>rfl⟩
 |some a=>
  cases v with
  |row j=>exact ⟨_,fun _=>rfl,rfl,fun h=>absurd rfl (h j)⟩
  |_=>exact ⟨_,fun _=>rfl,rfl,fun _=>rfl⟩
theorem Ni {p:Nat×Option AV} {v:SV} (h:v.mentions p.1=false):X9 p v=v:=by
 obtain ⟨c,_,e,_⟩:=Nh p v;simp_all
theorem mv1_sub {p:Nat×Option AV} {v:SV} {j:Nat} (h:(X9 p v).mentions j=true):v.mentions j=true:=by
 obtain ⟨c,hc,e,_⟩:=Nh p v
 grind
theorem ab1 {p q:Nat×Option AV} (hne:p.1≠q.1) (v:SV):X9 p (X9 q v)=X9 q (X9 p v):=by
 obtain ⟨c,hc,e,k⟩:=Nh p v;obtain ⟨c',uB,e',k'⟩:=Nh q v;cases hp:v.mentions p.1 with
 |false=>
  cases hq:v.mentions q.1 with
  |false=>simp_all
  |true=>simp_all [Ni]
 |true=>
  rw [e,hp,ai,Ni (hc _)];cases hq:v.mentions q.1 with
  |false=>simp_all
  |true=>
   rw [e',hq,ai,Ni (uB _)];have hr:∀j,v≠ .row j:=fun j hj=>by
    subst hj;exact hne ((beq_iff.1 hp).symm.trans (beq_iff.1 hq))
   simp_all
theorem w6:∀{l:List (Nat×Option AV)} {v:SV},(∀p∈l,v.mentions p.1=false)→j7 l v=v
 |[],v,_=>rfl
 |p::l,v,h=>by
  show j7 l (X9 p v)=v;rw [Ni (h p (by simp))];exact w6 fun q hq=>h q (by simp [hq])
theorem Fe:∀{l:List (Nat×Option AV)} {v:SV} {j:Nat},(j7 l v).mentions j=true→v.mentions j=true
 |[],v,j,h=>h
 |p::l,v,j,h=>mv1_sub (Fe h)
theorem X8 {l:List (Nat×Option AV)} {p:Nat×Option AV}:∀{v:SV},(∀q∈l,p.1≠q.1)→j7 l (X9 p v)=X9 p (j7 l v):=by
 induction l with
 |nil=>intro v _;rfl
 |cons q l ih=>
  intro v h;show j7 l _=X9 p (j7 l _)
  grind [ab1]
theorem Cq:∀{l m:List (Nat×Option AV)} (v:SV),(∀p∈l,∀q∈m,p.1≠q.1)→j7 l (j7 m v)=j7 m (j7 l v)
 |[],m,v,_=>rfl
 |p::l,m,v,h=>by
  show j7 l (X9 p _)=j7 m (j7 l _);rw [←X8 (h p (by simp)),Cq _ fun r hr=>h r (by simp [hr])]
theorem mapS_id {g:SV→SV} {o:Ob} (h:∀v,(∀id,v.mentions id=true→o.mentions id=true)→g v=v):o.yJ g=o:=by
 cases o with
 |box t cells=>
  simp [Ob.yJ]
  congr 1
  refine (ia fun c hc=>h c fun id hm=> ?_).trans (j8 _)
  grind [Ob.mentions]
 |_=>rfl
theorem vf {l:List (Nat×Option AV)} {o:Ob} (h:∀p∈l,o.mentions p.1=false):o.yJ (j7 l)=o:=
 mapS_id fun v hv=>w6 fun p hp=>by
  grind
theorem abP {l:List (Nat×Option AV)} {o:Ob} {j:Nat} (h:(o.yJ (j7 l)).mentions j=true):o.mentions j=true:=by
 cases o with
 |box t cells=>
  grind [Ob.yJ,Ob.mentions,Fe]
 |_=>exact h
theorem X6 {l m:List (Nat×Option AV)} (o:Ob) (h:∀p∈l,∀q∈m,p.1≠q.1):(o.yJ (j7 m)).yJ (j7 l)=(o.yJ (j7 l)).yJ (j7 m):=by
 cases o with
 |box t cells=>
  simp [Ob.yJ,eO]
  grind [List.map_congr_left,Cq]
 |_=>rfl
theorem DX (o:Ob):o.yJ (j7 [])=o:=vf fun p hp=>by cases hp
structure HS (sf:St→Option St) (s:St) (f:gu) (ev:Nat→Option SV) (ov:Nat→Option Ob) (l:List (Nat×Option AV)):Prop where
 keys:∀p∈l,p.1∈f.mv
 run:∀x:St,(∀t∈f.rs,x.env t=s.env t)→(∀j∈f.ro,x.ob j=s.ob j)→(∀j∈f.rl,(x.ob j).map Ob.tF=(s.ob j).map Ob.tF)→sf x=some (fT f ev ov l x)
 len:∀j∈f.wo,f.kp j=true→(ov j).map Ob.tF=(s.ob j).map Ob.tF
 ab2:∀t∈f.ws,∀v id,ev t=some v→v.mentions id=true→id∈f.men
 ab3:∀j∈f.wo,∀o id,ov j=some o→o.mentions id=true→id∈f.men
 mvm:∀id∈f.mv,id∈f.men
structure Ph (s:St) (f:gu):Prop where
 inE:∀t∈f.rs,∀v id,s.env t=some v→v.mentions id=true→id∈f.men
 inO:∀j∈f.ro,∀o id,s.ob j=some o→o.mentions id=true→id∈f.men
 we:∀t v id,s.env t=some v→id∈f.mv→v.mentions id=true→f.we t=true
 oe:∀j o id,s.ob j=some o→id∈f.mv→o.mentions id=true→f.oe j=true
theorem jk {a b:List Nat} {x y:Nat} (h:meets a b=false) (hx:x∈a) (hy:y∈b):x≠y:=fun e=>by
 grind [X7]
theorem LX (g:SV→SV) (o:Ob):(o.yJ g).tF=o.tF:=by cases o<;>rfl
theorem skN {f:gu} {ev:Nat→Option SV} {ov:Nat→Option Ob} {l:List (Nat×Option AV)} {x:St} {j:Nat} (h:¬j∈f.wo):((fT f ev ov l x).ob j).map Ob.tF=(x.ob j).map Ob.tF:=by
 simp [fT,ak h];cases x.ob j with
 |none=>rfl
 |some o=>simp [LX]
theorem skO {f:gu} {ev:Nat→Option SV} {ov:Nat→Option Ob} {l:List (Nat×Option AV)} {x:St} {j:Nat} (h:j∈f.wo):(fT f ev ov l x).ob j=ov j:=by
 simp [fT,au h]
theorem rl_kp {r w:List Nat} {k:Nat→Bool} {j:Nat} (h:(r.any fun j=>w.contains j&& !(k j))=false) (hj:j∈r) (hw:j∈w):k j=true:=by
 simp_all
theorem swapFx {sp si:St→Option St} {s:St} {fp fi:gu} {ep ei:Nat→Option SV} {op oi:Nat→Option Ob} {lp li:List (Nat×Option AV)} (hp:HS sp s fp ep op lp) (hin:Ph s fp) (hi:HS si (fT fp ep op lp s) fi ei oi li) (hc:fp.conflict fi=false):
  HS si s fi ei oi li∧HS sp (fT fi ei oi li s) fp ep op lp∧Ph (fT fi ei oi li s) fp∧fT fp ep op lp (fT fi ei oi li s)=fT fi ei oi li (fT fp ep op lp s):=by
 unfold gu.conflict at hc;simp only [mX] at hc;obtain ⟨⟨⟨⟨⟨⟨⟨⟨⟨⟨⟨⟨⟨_,_⟩,d1⟩,d2⟩,d3⟩,d4⟩,d5⟩,d6⟩,d7⟩,d8⟩,d9⟩,d10⟩,d11⟩,d12⟩:=hc;have w9:∀t∈fi.rs,fp.we t=false:=fun t ht=>by
  simp_all
 have w10:∀t∈fi.ro,fp.oe t=false:=fun t ht=>by
  simp_all
 have aE:∀t∈fi.rs,(fT fp ep op lp s).env t=s.env t:=fun t ht=>by
  simp only [fT];rw [ak fun h=>jk d1 h ht rfl];cases e:s.env t with
  |none=>rfl
  |some v=>
   simp only [cS];rw [w6 fun p CL=> ?_];cases hm:v.mentions p.1 with
   |false=>rfl
   |true=>have:=hin.we t v p.1 e (hp.keys p CL) hm;simp_all
 have aO:∀t∈fi.ro,(fT fp ep op lp s).ob t=s.ob t:=fun t ht=>by
  simp only [fT];rw [ak fun h=>jk d4 h ht rfl];cases e:s.ob t with
  |none=>rfl
  |some v=>
   simp only [cS];rw [vf fun p CL=> ?_];cases hm:v.mentions p.1 with
   |false=>rfl
   |true=>have:=hin.oe t v p.1 e (hp.keys p CL) hm;simp_all
 have bE:∀t∈fp.rs,(fT fi ei oi li s).env t=s.env t:=fun t ht=>by
  simp only [fT];rw [ak fun h=>jk d2 ht h rfl];cases e:s.env t with
  |none=>rfl
  |some v=>
   simp only [cS];rw [w6 fun p CL=> ?_];cases hm:v.mentions p.1 with
   |false=>rfl
   |true=>exact absurd rfl (jk d8 (hi.keys p CL) (hin.inE t ht v p.1 e hm))
 have bO:∀t∈fp.ro,(fT fi ei oi li s).ob t=s.ob t:=fun t ht=>by
  simp only [fT];rw [ak fun h=>jk d5 ht h rfl];cases e:s.ob t with
  |none=>rfl
  |some v=>
   simp only [cS];rw [vf fun p CL=> ?_];cases hm:v.mentions p.1 with
   |false=>rfl
   |true=>exact absurd rfl (jk d8 (hi.keys p CL) (hin.inO t ht v p.1 e hm))
 have nO:∀t∈fp.wo,¬t∈fi.wo:=fun t h1 h2=>jk d6 h1 h2 rfl
 have aL:∀t∈fi.rl,((fT _ ep op lp s).ob t).map _=(s.ob t).map _:=fun t ht=>by
  by_cases h:t∈fp.wo
  ·rw [skO h];exact hp.len t h (rl_kp d11 ht h)
  ·exact skN h
 have bK :=fun t ht hk=>(hi.len t ht hk).trans (skN fun h=>nO t h ht)
 have bL:∀t∈fp.rl,((fT _ ei oi li s).ob t).map Ob.tF=(s.ob t).map Ob.tF:=fun t ht=>by
  by_cases h:t∈fi.wo
  ·rw [skO h];simp_all
  ·exact skN h
 have hk :=fun p CL q hq=>jk d7 (hp.keys p CL) (hi.mvm _ (hi.keys q hq))
 refine ⟨⟨hi.keys,fun x h1 h2 h3=>hi.run x (fun t ht=>(h1 t ht).trans (aE t ht).symm) (fun t ht=>(h2 t ht).trans (aO t ht).symm) (fun t ht=>(h3 t ht).trans (aL t ht).symm),bK,hi.ab2,hi.ab3,hi.mvm⟩,
  ⟨hp.keys,fun x h1 h2 h3=>hp.run x (fun t ht=>(h1 t ht).trans (bE t ht)) (fun t ht=>(h2 t ht).trans (bO t ht)) (fun t ht=>(h3 t ht).trans (bL t ht)),fun t ht hk=>(hp.len t ht hk).trans (skN (nO t ht)).symm,hp.ab2,hp.ab3,hp.mvm⟩,
  ⟨fun t ht v id e hm=>hin.inE t ht v _ ((bE t ht).symm.trans e) hm,fun t ht v id e hm=>hin.inO t ht v _ ((bO t ht).symm.trans e) hm,fun t v id e hid hm=> ?_,fun t v id e hid hm=> ?_⟩,?_⟩
 ·simp [fT] at e
  split at e
  ·rename_i ht;exact absurd rfl (jk d7 hid (hi.ab2 t ht v _ e hm))
  ·cases e0:s.env t with
   |none=>simp_all
   |some v0=>
    rw [e0] at e;simp at e;subst e;exact hin.we t _ _ e0 hid (Fe hm)
 ·simp [fT] at e
  split at e
  ·rename_i ht;exact absurd rfl (jk d7 hid (hi.ab3 t ht v _ e hm))
  ·cases e0:s.ob t with
   |none=>simp_all
   |some v0=>
    rw [e0] at e;simp at e;subst e;exact hin.oe t _ _ e0 hid (abP hm)
 ·simp [fT,St.mk.injEq]
  constructor
  ·funext t
   by_cases h1:t∈fp.ws
   ·rw [au h1,ak fun h2=>jk d3 h1 h2 rfl]
    rw [au h1];cases e:ep t with
    |none=>rfl
    |some v=>
     simp;rw [w6 fun q hq=> ?_];cases hm:v.mentions _ with
     |false=>rfl
     |true=>exact absurd rfl (jk d8 (hi.keys q hq) (hp.ab2 t h1 v _ e hm))
   ·rw [ak h1]
    by_cases h2:t∈fi.ws
    ·rw [au h2,au h2]
     cases e:ei t with
     |none=>rfl
     |some v=>
      simp;rw [w6 fun q hq=> ?_];cases hm:v.mentions _ with
      |false=>rfl
      |true=>exact absurd rfl (jk d7 (hp.keys q hq) (hi.ab2 t h2 v _ e hm))
    ·rw [ak h2,ak h2,ak h1]
     cases s.env t with
     |none=>rfl
     |some v=>grind [Cq]
  ·funext t
   by_cases h1:t∈fp.wo
   ·rw [au h1,ak fun h2=>jk d6 h1 h2 rfl]
    rw [au h1];cases e:op t with
    |none=>rfl
    |some v=>
     simp;rw [vf fun q hq=> ?_];cases hm:v.mentions _ with
     |false=>rfl
     |true=>exact absurd rfl (jk d8 (hi.keys q hq) (hp.ab3 t h1 v _ e hm))
   ·rw [ak h1]
    by_cases h2:t∈fi.wo
    ·rw [au h2,au h2]
     cases e:oi t with
     |none=>rfl
     |some v=>
      simp;rw [vf fun q hq=> ?_];cases hm:v.mentions _ with
      |false=>rfl
      |true=>exact absurd rfl (jk d7 (hp.keys q hq) (hi.ab3 t h2 v _ e hm))
    ·rw [ak h2,ak h2,ak h1]
     cases s.ob t with
     |none=>rfl
     |some v=>grind [X6]
def Mb (sf:Nat→St→Option St):List (Nat×gu)→St→St→Prop
 |[],s,sF=>s=sF
 |p::l,s,sF=>∃s',sf p.1 s=some s'∧(p.2.all=false→∃ev ov m,HS (sf p.1) s p.2 ev ov m∧Ph s p.2)∧Mb sf l s' sF
theorem ZC {a b:gu} (h:a.conflict b=false):a.all=false∧b.all=false:=by
 simp_all [gu.conflict]
theorem Mb.front {sf:Nat→St→Option St} {i:Nat} {f:gu} {post:List (Nat×gu)} {sF:St}:∀(pre:List (Nat×gu)) (s:St),Mb sf (pre++(i,f)::post) s sF→(∀p∈pre,p.2.conflict f=false)→
  ∃s1,sf i s=some s1∧Mb sf (pre++post) s1 sF∧(f.all=false→∃ev ov m,HS (sf i) s f ev ov m)
 |[],s,⟨s',h1,h2,h3⟩,_=>⟨s',h1,h3,fun ha=>by simp_all⟩
 |p::pre,s,⟨s',h1,h2,h3⟩,hc=>by
  have hcp:=hc p (by simp);obtain ⟨ha,hb⟩:=ZC hcp;obtain ⟨ep,op,lp,hp,hin⟩:=h2 ha;obtain ⟨s1,k1,k2,k3⟩:=Mb.front _ _ h3 fun q hq=>hc q (by simp [hq])
  obtain ⟨ei,oi,li,hi⟩:=k3 hb;have e1 :=by
   have:=hp.run s (fun _ _=>rfl) (fun _ _=>rfl) (fun _ _=>rfl);rw [h1] at this;injection this
  subst e1;obtain ⟨r1,r2,r3,r4⟩:=swapFx hp hin hi hcp;have e2 :=by
   have:=hi.run _ (fun _ _=>rfl) (fun _ _=>rfl) (fun _ _=>rfl);rw [k1] at this;injection this
  refine ⟨_,r1.run s (fun _ _=>rfl) (fun _ _=>rfl) (fun _ _=>rfl),⟨s1,?_,fun _=>⟨ep,op,lp,r2,r3⟩,k2⟩,fun _=>⟨ei,oi,li,r1⟩⟩;rw [r2.run _ (fun _ _=>rfl) (fun _ _=>rfl) (fun _ _=>rfl),r4,e2]
def qG (P:Program) (h:Hint) (bM:dQ) (ops:Array Oper) (k:Nat) (st:St):Option St:=
 match ops[k]? with
 |some o=>match p8 ops o st with
  |some true=>step P h bM o st
  |some false=>some (st.set o.dst .undef)
  |none=>none
 |none=>none
theorem any_ids {id:Nat} {cells:List SV} (h:cells.any (SV.mentions id)=true):id∈cells.flatMap SV.ids:=by
 grind [yL]
theorem ace {id:Nat} {o:Ob} (h:o.mentions id=true):id∈o.ids:=by
 cases o with
 |box t cells=>exact any_ids h
 |_=>cases h
theorem MC {sf:St→Option St} {s s':St} {f:gu} {l:List (Nat×Option AV)} (hk:∀p∈l,p.1∈f.mv) (hrun:∀x:St,(∀t∈f.rs,x.env t=s.env t)→(∀j∈f.ro,x.ob j=s.ob j)→(∀j∈f.rl,(x.ob j).map Ob.tF=(s.ob j).map Ob.tF)→sf x=some (fT f s'.env s'.ob l x))
  (hlen:∀j∈f.wo,f.kp j=true→(s'.ob j).map Ob.tF=(s.ob j).map Ob.tF):
  ∃ev ov m,HS sf s (f.fill s s') ev ov m∧Ph s (f.fill s s'):=by
 have mem:∀{id:Nat} {g:Nat→List _} {l:List _} {t:Nat},t∈l→id∈g t→id∈l.flatMap g:=fun ht h=>List.mem_flatMap.2 ⟨_,ht,h⟩
 refine ⟨_,_,l,⟨hk,hrun,hlen,fun t ht v id e hm=> ?_,fun j hj o id e hm=> ?_,fun id hid=> ?_⟩,⟨fun t ht v id e hm=> ?_,fun j hj o id e hm=> ?_,fun t v id e hid hm=> ?_,fun j o id e hid hm=> ?_⟩⟩
 ·grind [gu.fill,Mw,yL]
 ·grind [gu.fill,Wj,ace]
 ·simp_all [gu.fill]
 ·grind [gu.fill,Mw,yL]
 ·grind [gu.fill,Wj,ace]
 ·grind [gu.fill]
 grind [gu.fill]
theorem jJ {α:Type} {x:Option α} {g:α→α} (h:∀v,g v=v):x.map g=x:=by cases x<;>simp [h]
theorem acy {f:gu} {s x:St} {d:Option Nat} {v:SV} (h1:f.ws=d.toList) (h2:f.wo=[]):x.set d v=fT f (s.set d v).env (s.set d v).ob [] x:=by
 refine St.same (fun t=> ?_) (fun j=> ?_)
 ·simp only [fT,h1]
  cases d with
  |none=>exact (jJ fun _=>rfl).symm
  |some d=>
   by_cases e:d=t
   ·simp_all [St.set,cu]
   ·have:¬t∈(some d).toList:=by simp;exact fun h=>e h.symm
    rw [ak this];simp [St.set,bl _ _ e];exact (jJ fun _=>rfl).symm
 ·simp [fT,h2]
  rw [jJ DX];cases d<;>rfl
theorem mapS_purge (id:Nat) (o:Ob):o.yJ (j7 [(id,none)])=o.dm id:=by rfl
theorem Jo {f:gu} {s x:St} {d id:Nat} {o:Ob} {v:SV} (h1:f.ws=[d]) (h2:f.wo=[id]):(x.new id o).set (some d) v=fT f ((s.new id o).set (some d) v).env ((s.new id o).set (some d) v).ob [(id,none)] x:=by
 refine St.same (fun t=> ?_) (fun j=> ?_)
 ·simp [fT,h1,bP]
  by_cases e:t=d
  ·simp_all [St.set,cu]
  ·rw [ak e]
   simp [St.set,bl _ _ (fun h=>e h.symm)];rfl
 ·simp [fT,h2,bP]
  by_cases e:j=id
  ·simp_all [St.set,St.new,cu]
  ·rw [ak e]
   simp [St.set,St.new,St.dm,bl _ _ (fun h=>e h.symm)];rfl
theorem skip_ok {ops:Array Oper} {k:Nat} {o:Oper} {s:St} (ho:ops[k]? =some o) (hw:p8 ops o s=some false):
  ∃ev ov m,HS (qG P h bM ops k) s ((tq ops o).fill s (s.set o.dst .undef)) ev ov m∧Ph s ((tq ops o).fill s (s.set o.dst .undef)):=
 MC (l:=[]) (by simp) (fun x h1 _ _=>by
  simp [qG,ho];rw [y8 h1,hw]
  rw [acy (f:=tq _ o) rfl rfl]) fun j hj _=>by cases hj
def kK (sf:St→Option St) (s:St) (f:gu) (ev:Nat→Option SV) (ov:Nat→Option Ob) (l:List (Nat×Option AV)):Prop:=
 (∀p∈l,p.1∈f.mv)∧(∀j∈f.wo,f.kp j=true→(ov j).map Ob.tF=(s.ob j).map Ob.tF)∧
  ∀x:St,(∀t∈f.rs,x.env t=s.env t)→(∀j∈f.ro,x.ob j=s.ob j)→(∀j∈f.rl,(x.ob j).map Ob.tF=(s.ob j).map Ob.tF)→sf x=some (fT f ev ov l x)
theorem kK.imp {sf:St→Option St} {s:St} {f f':gu} {ev:Nat→Option SV} {ov:Nat→Option Ob} {l:List (Nat×Option AV)} (hr:kK sf s f ev ov l) (h1:∀t∈f.rs,t∈f'.rs) (h2:∀t∈f.ro,t∈f'.ro) (h3:∀t∈f.mv,t∈f'.mv) (h4:∀t,t∈f.ws↔t∈f'.ws) (h5:∀t,t∈f.wo↔t∈f'.wo) (h6:∀t∈f.rl,t∈f'.rl) (h7:∀t∈f.wo,f'.kp t=true→f.kp t=true):kK sf s f' ev ov l:=
 ⟨fun p hp=>h3 _ (hr.1 p hp),fun j hj hk=>hr.2.1 j ((h5 j).2 hj) (h7 j ((h5 j).2 hj) hk),fun x k1 k2 k3=>by
  rw [hr.2.2 x (fun t ht=>k1 t (h1 t ht)) (fun t ht=>k2 t (h2 t ht)) (fun t ht=>k3 t (h6 t ht))]
  simp [fT,h4,h5]⟩
theorem kK.at {sf:St→Option St} {s s':St} {f:gu} {ev:Nat→Option SV} {ov:Nat→Option Ob} {l:List (Nat×Option AV)} (hr:kK sf s f ev ov l) (h:sf s=some s'):s'=fT f ev ov l s:=by
 have:=hr.2.2 s (fun _ _=>rfl) (fun _ _=>rfl) (fun _ _=>rfl);simp_all
theorem WR {s1 s2:St→Option St} {s:St} {f1 f2:gu} {ev1 ev2:Nat→Option SV} {ov1 ov2:Nat→Option Ob} {l1 l2:List (Nat×Option AV)} (hr:kK s1 s f1 ev1 ov1 l1) (hq:kK s2 (fT f1 ev1 ov1 l1 s) f2 ev2 ov2 l2):
  ∃ev ov,kK (fun x=>(s1 x).bind s2) s (f1.then f2) ev ov (l1++l2):=by
 refine ⟨fun t=>if t∈f2.ws then ev2 t else (ev1 t).map (j7 l2),fun j=>if j∈f2.wo then ov2 j else (ov1 j).map (Ob.yJ (j7 l2)),fun p hp=> ?_,fun j hj hk=> ?_,fun x k1 k2 k3=> ?_⟩
 ·simp [gu.then,bC]
  exact (bC.1 hp).imp (hr.1 p) (hq.1 p)
 ·simp [gu.then,aF,eY,gV,List.contains_eq_mem,bA] at hk
  simp [gu.then,bC] at hj;have base:((fT f1 ev1 ov1 l1 s).ob j).map Ob.tF=(s.ob j).map Ob.tF:=by
   by_cases a:j∈f1.wo
   ·rw [skO a];exact hr.2.1 j a (hk.1.resolve_right fun h=>h a)
   ·exact skN a
  by_cases a:j∈f2.wo
  ·simp [au a]
   exact (hq.2.1 j a (hk.2.resolve_right fun h=>h a)).trans base
  ·simp [ak a]
   have b :=hj.resolve_left a;rw [←hr.2.1 j b (hk.1.resolve_right fun h=>h b)];cases ov1 j with
   |none=>rfl
   |some o=>simp [LX]
 ·have e1:=hr.2.2 x (fun t ht=>k1 t (by simp [gu.then,ht])) (fun t ht=>k2 t (by simp [gu.then,ht])) (fun t ht=>k3 t (by simp [gu.then,ht]))
  have e2:=hq.2.2 (fT f1 ev1 ov1 l1 x) (fun t ht=>by simp_all [fT,gu.then]) (fun t ht=>by simp_all [fT,gu.then]) (fun t ht=>by
   by_cases a:t∈f1.wo
   ·rw [skO a,skO a]
   simp_all [skN,gu.then])
  simp [e1,fD,e2,aG];have mm:∀v,j7 l2 (j7 l1 v)=j7 (l1++l2) v:=fun v=>by simp [j7]
  refine St.same (fun t=> ?_) (fun j=> ?_)
  ·simp [fT,gu.then]
   by_cases a:t∈f2.ws
   ·simp_all
   ·by_cases b:t∈f1.ws
    ·simp_all
    ·simp [a,b]
     cases x.env t with
     |none=>rfl
     |some v=>simp_all
  ·simp [fT,gu.then]
   by_cases a:j∈f2.wo
   ·simp_all
   ·by_cases b:j∈f1.wo
    ·simp_all
    ·simp [a,b]
     cases x.ob j with
     |none=>rfl
     |some o=>
      cases o with
      |box t cells=>simp_all [Ob.yJ]
      |_=>rfl
theorem kK.nil (s:St) (f:gu) (h1:f.ws=[]) (h2:f.wo=[]):kK some s f (fun _=>none) (fun _=>none) []:=
 ⟨by simp,fun j hj=>(by simp_all),fun x _ _ _=>by
  congr 1
  refine St.same (fun t=> ?_) (fun j=> ?_)
  ·simp [fT,h1];exact (jJ fun _=>rfl).symm
  simp_all [fT,jJ,DX]⟩
theorem mapS_publish (id:Nat) (v:AV) (o:Ob):o.yJ (j7 [(id,some v)])=o.dD id v:=by rfl
theorem JC {s s':St} {id:Nat} (hp:s.dD id=some s'):∃ev ov l,kK (fun x=>x.dD id) s { ro:=[id],wo:=[id],mv:=[id] } ev ov l:=by
 unfold St.dD at hp;split at hp
 ·rename_i v ho hv
  refine ⟨fun _=>none,fun _=>none,[(id,some v)],by simp,fun j _ hk=>(by cases hk),fun x _ h2 _=> ?_⟩;have e:x.ob id=s.ob _:=h2 _ (by simp);unfold St.dD;simp [e,ho,hv,aG];refine St.same (fun t=> ?_) (fun j=> ?_)
  ·rfl
  ·simp [fT,bP]
   by_cases a:j=id
   ·subst a;simp [cu]
   ·rw [ak a,bl _ _ (fun h=>a h.symm)]
    rfl
 simp_all
theorem Ar:∀{cells:List SV} {s s':St},oJ cells s=some s'→∃ev ov l,kK (oJ cells) s { ro:=vz cells,wo:=vz cells,mv:=vz cells } ev ov l
 |[],s,s',_=>⟨_,_,_,kK.nil s _ rfl rfl⟩
 |c::cells,s,s',hv=>by
  have other:(∀id,c≠ .row id)→(∀x,oJ (c::cells) x=oJ cells x)∧vz (c::cells)=vz _:=fun hne=>by
   cases c<;>first|exact absurd rfl (hne _)|exact ⟨fun _=>rfl,rfl⟩
  by_cases hr:∃id,c= .row id
  ·obtain ⟨id,rfl⟩:=hr
   obtain ⟨s1,h1,h2⟩:=dw.1 hv;obtain ⟨ev,ov,l,r1⟩:=JC h1;obtain ⟨ev',ov',l',r2⟩:=Ar h2;rw [r1.at h1] at r2;obtain ⟨ev2,ov2,r3⟩:=WR r1 r2;exact ⟨_,_,_,r3.imp (fun t ht=>by assumption) (fun t ht=>by assumption) (fun t ht=>by assumption) (fun t=>by rfl) (fun t=>by simp [gu.then,vz,or_comm]) (fun t ht=>by assumption) (fun t _ hk=>by cases hk)⟩
  ·obtain ⟨e1,e2⟩:=other fun id h=>hr ⟨id,h⟩
   rw [e1] at hv;obtain ⟨ev,ov,l,r⟩:=Ar hv;refine ⟨ev,ov,l,?_⟩;rw [e2];exact ⟨r.1,r.2.1,fun x h1 h2 h3=>by rw [e1];exact r.2.2 x h1 h2 h3⟩
theorem Yk {s s':St} {t:Nat} (hp:vo s t=some s'):∃ev ov l,kK (fun x=>vo x t) s (NA s t) ev ov l:=by
 unfold vo at hp;unfold NA;split at hp
 ·rename_i id he
  obtain ⟨ev,ov,l,r⟩:=JC hp;refine ⟨ev,ov,l,r.1,r.2.1,fun x h1 h2 h3=> ?_⟩;have e :=h1 t (by simp);simp [vo,e,he];exact r.2.2 x (by simp) h2 (by simp)
 ·rename_i id off he
  split at hp
  ·rename_i bt cells dG
   obtain ⟨ev,ov,l,r⟩:=Ar hp;refine ⟨ev,ov,l,r.1,r.2.1,fun x h1 h2 h3=> ?_⟩;have e :=h1 t (by simp);have e2:x.ob id=s.ob _:=h2 _ (by simp);simp [vo,e,he,e2,dG];exact r.2.2 x (by simp) (fun j hj=>h2 j (by simp [hj])) (by simp)
  simp_all
 ·refine ⟨fun _=>none,fun _=>none,[],?_⟩
  have k2:∀x:St,x.env t=s.env t→vo x t=some x:=fun x e=>by
   simp_all [vo]
  refine ⟨by simp,fun j hj=>(by simp at hj),fun x h1 h2 h3=> ?_⟩;simp only;rw [k2 x (h1 t (by simp))];exact (kK.nil s _ rfl rfl).2.2 x h1 h2 h3
theorem Qt {st st':St} {t:TypeId} {x ix:Operand} (hx:∀ty,bq P ty st x=bq P ty st' x) (hi:∀ty,bq P ty st ix=bq P ty st' ix) (dG:∀ty sv,bq P ty st x=some sv→∀id∈sv.ids,(st.ob id).map Ob.tF=(st'.ob id).map Ob.tF):wV P st t x ix=wV P st' t x ix:=by
 unfold wV;rw [←hx,←hi];split<;>try rfl
 ·rename_i e s id q i hs ho hq
  have k:=dG t _ ho id (by simp [SV.ids]);cases e1:st.ob _ with
  |none=>
   grind
  |some o1=>
   rw [e1] at k;cases e2:st'.ob _ with
   |none=>simp_all
   |some o2=>
    rw [e2] at k;simp at k;cases o1 with
    |row e3 sz xs=>
     cases o2 with
     |row e4 sz2 ys=>
      simp [Ob.tF,Ob.row.injEq] at k;obtain ⟨_,rfl,k3⟩:=k;have :=by simpa using aI List.length k3
      simp_all
     |_=>cases k
    |rn e3 sz q1 q2 q3 xs zs=>
     cases o2 with
     |rn e4 sz2 q4 q5 q6 ys zs2=>
      simp only [Ob.tF,Ob.rn.injEq] at k;obtain ⟨_,rfl,_,_,_,k3,_⟩:=k;have :=by simpa using aI List.length k3
      simp_all
     |_=>cases k
    |_=>cases o2<;>first|rfl|cases k
theorem MY {st st':St} {n:Nat} {e:TypeId} {x ix:Operand} (hx:∀ty,bq P ty st x=bq P ty st' x) (hi:∀ty,bq P ty st ix=bq P ty st' ix):Cm P st n e x ix=Cm P st' n e x ix:=by
 unfold Cm;simp_all
theorem RZ {ops:Array Oper} {o:Oper} {s:St} {v:SV} (hv:ec P h bM o s=some v):kK (step0 P h bM o) s (u6 P h ops o s) (s.set o.dst v).env (s.set o.dst v).ob []:=
 ⟨by simp,fun j hj=>(by cases hj),fun x h1 h2 h3=>by
  have fin:ec P h _ o s=ec P h bM o x→step0 P h bM o x=some (fT (u6 P h ops o s) (s.set _ v).env _ _ x):=fun this=>by
   rw [hv] at this;simp [step0,←this];rw [acy (f:=u6 P h _ o s) rfl rfl]
  cases hx:aaw o.op with
  |true=>
   cases ho:o.op with
   |indexAddr t a ix=>
    have hop:∀y∈o.op.operands.toList,∀ty,bq P ty s y=bq P _ x y:=fun y hy ty=>kP (fun u e=>(h1 u (by
     subst e
     exact eC _ (fV.2 ⟨_,hy,rfl⟩))).symm) _
    have ha:=hop a (by rw [ho];simp [Op.operands]);have hi:=hop ix (by rw [ho];simp [Op.operands])
    have hl:∀ty sv,bq P ty s a=some sv→∀id∈sv.ids,(s.ob _).map _=(x.ob _).map _:=fun ty sv e id hid=>(h3 _ (by
     simp [u6,hx]
     exact uO (by rw [ho];simp [Op.operands]) e hid)).symm
    refine fin ?_;simp [ec,ho,e9]
    grind [Qt,MY]
   |_=>rw [ho] at hx;cases hx
  |false=>
   have hro:∀id∈JL P h o s,s.ob id=x.ob id:=fun id hid=>by
    grind [Ra,u6,JL]
   exact fin (Tk (fun hn id hid=>(h2 _ (by simp [u6,hn,hx,hid])).symm) hro (fun t ht=>(h1 t (by simp [u6,gM,ht])).symm))⟩
theorem acN {ops:Array Oper} {k:Nat} {o:Oper} {s:St} {v:SV} (ho:ops[k]? =some o) (hw:p8 ops o s=some true) (hpe:D9 h o=[]) (hv:ec P h bM o s=some v):
  ∃ev ov m,HS (qG P h bM ops k) s ((u6 P h ops o s).fill s (s.set o.dst v)) ev ov m∧Ph s ((u6 P h ops o s).fill s (s.set o.dst v)):=
 MC (l:=[]) (by simp) (fun x h1 h2 h3=>by
  simp [qG,ho];rw [y8 h1,hw];simp [step,hpe]
  exact (RZ hv).2.2 x h1 h2 h3) fun j hj _=>by cases hj
theorem Ze {o:Oper} {s s':St} {c:Call} {d id:Nat} {x y:Operand} {t t':TypeId} (ho:o.op= .call c) (hc:c.callee= .builtin .append) (hargs:c.args.toList=[x,y]) (tT:c.argTypes.toList=[t,t']) (hd:o.dst=some d) (hx:bq P t s x=some (.row id)) (hst:step0 P h bM o s=some s'):
  ∃ob:Ob,s'=(s.new id ob).set (some d) (.row id)∧
   ∀x:St,(∀t∈slotsOf o,x.env t=s.env t)→(∀j∈id::BM s o,x.ob j=s.ob j)→step0 P h bM o x=some ((x.new id ob).set (some d) (.row id)):=by
 have hf:∀x:St,ec P h bM o x=none:=fun x=>by simp_all [ec,xm]
 have he:∀x':St,step0 P h bM o x'=(match isSlice P t,bq P t x' x,bq P t' x' y with
  |some (e,s),some (.row id),some y=>match x'.ob id,elems x' y,P.info? e with
   |some (.row e' sz xs),some (sz',ys),some i=>
    if t=t'∧e=e'∧s=sz∧sz=sz'∧0<sz∧(xs.length+ys.length) *i.bytes≤140737488355328∧xs.length+ys.length≤4611686018427387904∧i.zero.map (fun z=>z.cells.size)=some sz∧iT id=true then
     some ((x'.new id (.row e sz (xs++ys))).set (some d) (.row id)) else none
   |some (.rn e' sz k e2 s2 xs zs),some (sz',ys),some i=>
    if t=t'∧e=e'∧s=sz∧sz=sz'∧0<sz∧(xs.length+ys.length) *i.bytes≤140737488355328∧xs.length+ys.length≤4611686018427387904∧i.zero.map (fun z=>z.cells.size)=some sz∧iT id=true∧ys.all (qz k)=true then
     some ((x'.new id (.rn e sz k e2 s2 (xs++ys.map fun c=>c.set k .hole) (zs++ys.map fun _=>some []))).set (some d) (.row id)) else none
   |_,_,_=>none
  |some (e,s),some (.at id .full),some y=>match x'.ob id,elems x' y,P.info? e with
   |some (.row e' sz xs),some (sz',ys),some i=>
    if t=t'∧e=e'∧s=sz∧sz=sz'∧0<sz∧(xs.length+ys.length) *i.bytes≤140737488355328∧xs.length+ys.length≤4611686018427387904∧i.zero.map (fun z=>z.cells.size)=some sz∧iT id=true∧ys.isEmpty=false then
     some ((x'.new id (.row e sz (xs++ys))).set (some d) (.row id)) else none
   |_,_,_=>none
  |_,_,_=>none):=fun x'=>by
  simp only [step0,hf,mS,ho,hc,hd,hargs,tT];rfl
 rw [he] at hst;split at hst
 ·rename_i e sz0 id2 sy hs hx2 hy
  rw [hx] at hx2;simp only [aG,SV.row.injEq] at hx2;subst hx2;split at hst
  ·rename_i e' sz xs sz' ys i dG hel hi
   split at hst
   ·rename_i hcnd
    injection hst with hst
    refine ⟨.row e sz (xs++ys),hst.symm,fun x' hx' MV=> ?_⟩
    have XN:∀z∈[x,y],∀ty,bq P ty x' z=bq P ty s z:=fun z hz ty=>kP (fun u e=>hx' u (by
     subst e;refine fV.2 ⟨.tmp u,?_,rfl⟩;rw [ho];simp only [Op.operands,Call.operands,hc,jy,bC]
     right
     rw [hargs];exact hz)) ty
    rw [he,XN x (by simp) t,XN y (by simp) t',hx,hy,hs];have e1:x'.ob id=s.ob id:=MV id (by simp)
    have e2:elems x' sy=elems s sy:=vO (fun j hj=>MV j (dW _ (uO (P:=P) (x:=y) (ty:=t') (by
     rw [ho];simp only [Op.operands,Call.operands,hc,jy,bC]
     right
     rw [hargs];simp) hy hj)))
    grind
   ·cases hst
  ·rename_i e' sz k e3 s3 xs zs sz' ys i dG hel hi
   split at hst
   ·rename_i hcnd
    injection hst with hst
    refine ⟨.rn e sz k e3 s3 (xs++ys.map fun c=>c.set k .hole) (zs++ys.map fun _=>some []),hst.symm,fun x' hx' MV=> ?_⟩
    have XN:∀z∈[x,y],∀ty,bq P ty _ z=bq P _ s z:=fun z hz ty=>kP (fun u e=>hx' u (by
     subst e;refine fV.2 ⟨.tmp u,?_,rfl⟩;rw [ho];simp only [Op.operands,Call.operands,jy,bC]
     right
     rw [hargs];exact hz)) _
    rw [he,XN x (by simp) t,XN y (by simp) _,hx,hy,hs];have e1:x'.ob id=s.ob _:=MV _ (by simp)
    have e2 :=vO (fun j hj=>MV j (dW _ (uO (by
     rw [ho];simp only [Op.operands,Call.operands,jy]
     rw [hargs];simp) hy hj)))
    grind
   ·cases hst
  ·cases hst
 ·simp_all
 simp_all
theorem W8 {o:Oper} {s s':St} {c:Call} {d id:Nat} {x y:Operand} {t t':TypeId} (ho:o.op= .call c) (hc:c.callee= .builtin .append) (hargs:c.args.toList=[x,y]) (tT:c.argTypes.toList=[t,t']) (hd:o.dst=some d) (hx:bq P t s x=some (.at id .full)) (hst:step0 P h bM o s=some s'):
  ∃ob:Ob,s'=(s.new id ob).set (some d) (.row id)∧
   ∀x:St,(∀t∈slotsOf o,x.env t=s.env t)→(∀j∈id::BM s o,x.ob j=s.ob j)→step0 P h bM o x=some ((x.new id ob).set (some d) (.row id)):=by
 have hf:∀x:St,ec P h bM o x=none:=fun x=>by simp_all [ec,xm]
 have he:∀x':St,step0 P h bM o x'=(match isSlice P t,bq P t x' x,bq P t' x' y with
  |some (e,s),some (.row id),some y=>match x'.ob id,elems x' y,P.info? e with
   |some (.row e' sz xs),some (sz',ys),some i=>
    if t=t'∧e=e'∧s=sz∧sz=sz'∧0<sz∧(xs.length+ys.length) *i.bytes≤140737488355328∧xs.length+ys.length≤4611686018427387904∧i.zero.map (fun z=>z.cells.size)=some sz∧iT id=true then
     some ((x'.new id (.row e sz (xs++ys))).set (some d) (.row id)) else none
   |some (.rn e' sz k e2 s2 xs zs),some (sz',ys),some i=>
    if t=t'∧e=e'∧s=sz∧sz=sz'∧0<sz∧(xs.length+ys.length) *i.bytes≤140737488355328∧xs.length+ys.length≤4611686018427387904∧i.zero.map (fun z=>z.cells.size)=some sz∧iT id=true∧ys.all (qz k)=true then
     some ((x'.new id (.rn e sz k e2 s2 (xs++ys.map fun c=>c.set k .hole) (zs++ys.map fun _=>some []))).set (some d) (.row id)) else none
   |_,_,_=>none
  |some (e,s),some (.at id .full),some y=>match x'.ob id,elems x' y,P.info? e with
   |some (.row e' sz xs),some (sz',ys),some i=>
    if t=t'∧e=e'∧s=sz∧sz=sz'∧0<sz∧(xs.length+ys.length) *i.bytes≤140737488355328∧xs.length+ys.length≤4611686018427387904∧i.zero.map (fun z=>z.cells.size)=some sz∧iT id=true∧ys.isEmpty=false then
     some ((x'.new id (.row e sz (xs++ys))).set (some d) (.row id)) else none
   |_,_,_=>none
  |_,_,_=>none):=fun x'=>by
  simp only [step0,hf,mS,ho,hc,hd,hargs,tT];rfl
 rw [he] at hst;split at hst
 ·simp_all
 ·rename_i e sz0 id2 sy hs hx2 hy
  rw [hx] at hx2;simp at hx2;subst hx2;split at hst
  ·split at hst
   ·injection hst with hst
    refine ⟨_,hst.symm,fun x' hx' MV=> ?_⟩
    have XN:∀z∈[x,y],∀ty,bq P ty _ z=bq P _ s z:=fun z hz ty=>kP (fun u e=>hx' u (by
     subst e;refine fV.2 ⟨.tmp u,?_,rfl⟩;rw [ho];simp only [Op.operands,Call.operands,jy,bC]
     right
     rw [hargs];exact hz)) _
    have e2 :=vO (fun j hj=>MV j (dW _ (uO (by
     rw [ho];simp only [Op.operands,Call.operands,jy]
     rw [hargs];simp) hy hj)))
    grind
   ·cases hst
  ·cases hst
 simp_all
theorem kp_E0 {ops:Array Oper} {o:Oper} {s:St} (hld:¬∃t x,o.op= .load t x) (hpt:¬∃t a x id sz i off j,o.op= .store t a x∧bq P 0 s a=some (.rp id sz i off)∧bq P t s x=some (.row j)) (j:Nat):(lu P h ops o s).kp j=false:=by
 unfold lu DM A6 MF;split
 ·split
  ·grind
  ·rfl
  ·split<;>rfl
 ·cases h.rows.contains _<;>rfl
 ·cases h.rows.contains _<;>rfl
 ·split
  ·split
   ·split<;>rfl
   ·rfl
  ·cases (o.dst.any _&& !(o.dst.any _)) with
   |true=>rfl
   |false=>
    rename_i c _ _ f _;cases (!(o.dst.any _)&&(!(o.dst.any _)&&wide s c f)) with
    |false=>rfl
    |true=>simp [u5];split<;>rfl
  ·rfl
 ·simp_all
 ·rfl
theorem take_fx {ops:Array Oper} {o:Oper} {s s':St} {t:TypeId} {a:Operand} (ho:o.op= .load t a) (hst:step0 P h bM o s=some s') (hall:(lu P h ops o s).all=false):
  ∃ev ov m,kK (step0 P h bM o) s (lu P h ops o s) ev ov m:=by
 obtain ⟨F,hF⟩:∃F,lu P h ops o s=F:=⟨_,rfl⟩
 rw [hF] at hall⊢;unfold lu at hF;rw [ho] at hF;cases ze:o.dst with
 |none=>rw [ze] at hF;subst hF;cases hall
 |some d=>
  rw [ze] at hF;simp only at hF;cases KJ:h.take.contains d with
  |false=>rw [KJ] at hF;subst hF;cases hall
  |true=>
   rw [KJ] at hF;simp [ai,Qc] at hF;split at hF
   ·rename_i id sz i off hx
    split at hF
    ·rename_i e sz' k e' s2 xs ys dG
     subst hF;have he:∀x:St,bq P 0 x a=some (.rp id sz i off)→x.ob id=some (.rn e sz' k e' s2 xs ys)→step0 P h bM o x=wj P x t a d:=fun x h1 h2=>by
      simp_all [ec,step0,mS]
     rw [he s hx dG] at hst;unfold wj at hst;rw [hx] at hst;split at hst
     ·rename_i id2 sz2 i2 off2 e1 hagg
      obtain ⟨rfl,rfl,rfl,rfl⟩:=e1;rw [dG] at hst;simp at hst;split at hst
      ·rename_i zs hy
       cases hb:(Nat.beq sz sz'&&Nat.beq off k&& !(Nat.beq id d)&&Nat.blt id 10000) with
       |false=>simp_all
       |true=>
       rw [hb] at hst;simp at hst;have hne:id≠d:=fun e=>by simp_all
       refine ⟨s'.env,s'.ob,[(d,none)],by simp,fun j hj hk=> ?_,fun x h1 h2 _=> ?_⟩<;>subst hst
       rotate_left
       ·have F4:bq P 0 x a=some (.rp id sz i off):=by
         rw [←hx]
         exact kP (fun u e=>h1 u (by
          subst e
          exact eC _ (fV.2 ⟨.tmp u,by rw [ho];simp [Op.operands],rfl⟩))) 0
        have hxb :=(h2 _ (by simp)).trans dG;rw [he x F4 hxb];unfold wj;rw [F4,hagg];simp only [hxb,hy,hb];refine aI _ (St.same (fun u=> ?_) (fun u=> ?_))
        ·simp [fT,bP]
         by_cases e:u=d
         ·simp_all [St.set,cu]
         ·rw [ak e]
          simp [St.set,bl _ _ (fun h=>e h.symm)];rfl
        ·simp [fT,aD,fF,fW]
         by_cases e:u=d
         ·simp_all [St.set,St.new,cu]
         ·by_cases e2:u=id
          ·subst e2
           simp [true_or,fN,St.set,St.new,St.dm,bl _ _ (fun h=>e h.symm),cu]
          ·rw [ak (by omega)]
           simp [St.set,St.new,St.dm,bl _ _ (fun h=>e h.symm),bl _ _ (fun h=>e2 h.symm)];rfl
       ·have hk' :=by
         simp only [aF] at hk;exact beq_iff.1 hk.1
        subst hk';rw [dG];simp [St.set,St.new,St.dm,bl _ _ (fun h=>hne h.symm),cu,cS,Ob.dm,Ob.tF]
      simp_all
     simp_all
    ·subst hF;cases hall
   ·subst hF;cases hall
theorem G6 {R:Type} {b:Bool} {x:Option R} {r:R} (hv:(bif b then x else none)=some r):b=true∧x=some r:=by
 grind
theorem qC:∀(l:List Nat) (st:St) (t:Nat),(kQ l st).env t=(st.env t).map (j7 (l.map fun i=>(i,none)))
 |[],st,t=>by exact (jJ fun _=>rfl).symm
 |id::l,st,t=>by
  simp [kQ];rw [qC l _ t];simp [St.dm,Option.map_map];rfl
theorem vp:∀(l:List Nat) (st:St) (j:Nat),j∉l→(kQ l st).ob j=(st.ob j).map (Ob.yJ (j7 (l.map fun i=>(i,none))))
 |[],st,j,_=>by simp_all [kQ,jJ,DX]
 |id::l,st,j,hj=>by
  simp at hj;simp [kQ];rw [vp l _ j hj.2];simp only [St.dm,bl _ _ (fun h=>hj.1 h.symm)];cases st.ob j with
  |none=>rfl
  |some o=>cases o<;>simp only [cS,Ob.dm,Ob.yJ,eO]<;>rfl
theorem sI:∀(l:List Nat) (st st':St) (j:Nat),st.ob j=st'.ob j→(kQ l st).ob j=(kQ l st').ob j
 |[],st,st',j,h=>h
 |id::l,st,st',j,h=>by
  refine sI l _ _ j ?_;by_cases e:id=j
  ·simp_all [St.dm,cu]
  simp_all [St.dm,bl]
theorem back_mem {names:List Nat} {ρ:Nat→Nat}:∀{m:List (Nat×Nat)} {os back:List (Nat×Ob)},oq names ρ m os=some back→∀{j:Nat} {o:Ob},find back j=some o→j∈m.map (·.1)
 |[],[],back,h,j,o,hf=>by simp [oq,aG] at h;subst h;cases hf
 |[],_::_,back,h,_,_,_=>by simp [oq] at h
 |_::_,[],back,h,_,_,_=>by simp [oq] at h
 |(id,nm)::m,(V7,o')::os,back,h,j,o,hf=>by
  obtain ⟨_,h⟩:=G6 h;simp at h;obtain ⟨r,hr,rfl⟩:=h;simp [find] at hf;cases hb:Nat.beq id j with
  |true=>simp_all
  |false=>rw [hb] at hf;exact dW _ (back_mem hr hf)
theorem many_fx {ops:Array Oper} {o:Oper} {s s':St} {c:Call} {f:Operand} (ho:o.op= .call c) (hc:c.callee= .value f) (how:o.dst.any h.owns.contains=false) (hsy:o.dst.any h.stay.contains=false) (hw:wide s c f=true)
  (hst:step0 P h bM o s=some s') (hall:(u5 P h ops o s c f).all=false):∃ev ov m,kK (step0 P h bM o) s (u5 P h ops o s c f) ev ov m:=by
 have MV:∀x:St,(∀t∈gM ops o,x.env t=s.env t)→∀y∈o.op.operands.toList,∀ty,bq P ty x y=bq P ty s y:=fun x h1 y hy' ty=>kP (fun u e=>h1 u (by
  subst e
  exact eC _ (fV.2 ⟨.tmp u,hy',rfl⟩))) ty
 have hargs:∀x∈c.args.toList,x∈o.op.operands.toList:=fun x hx=>by
  simp_all [Op.operands,Call.operands,jy,bC]
 have hfo:f∈o.op.operands.toList:=by
  rw [ho];simp [Op.operands,Call.operands,hc]
 have hwide:∀x:St,(∀t∈gM ops o,x.env t=s.env t)→wide x c f=wide s c f:=fun x h1=>by
  have MQ:∀y∈o.op.operands.toList,∀u,y= .tmp u→x.env u=s.env u:=fun y hy u e=>h1 u (by
   subst e
   exact eC _ (fV.2 ⟨.tmp u,hy,rfl⟩))
  have e1:Ty x f=Ty s f:=by
   cases f with
   |tmp u=>simp only [Ty,MQ _ hfo u rfl]
   |_=>rfl
  have e2:∀l:List Operand,(∀y∈l,y∈o.op.operands.toList)→l.any (DS x)=l.any (DS s):=by
   intro l
   induction l with
   |nil=>simp
   |cons y l ih=>
    intro hl;simp only [oD];rw [ih fun z hz=>hl z (by simp [hz])];cases y with
    |tmp u=>simp only [DS,MQ _ (hl (.tmp u) (by simp)) u rfl]
    |_=>rfl
  unfold wide;rw [e1,e2 _ hargs]
 have he:∀x:St,(∀t∈gM ops o,x.env t=s.env t)→step0 P h bM o x=jL P h bM x c f o.dst:=fun x h1=>by
  have hwx:=(hwide x h1).trans hw;have hfn:ec P h bM o x=none:=by simp only [ec,ho,hc,how,hsy,hwx,aj,q9,Bool.true_or,ai]
  unfold step0;rw [hfn];cases ze:o.dst with
  |none=>simp only [mS,ho,hc,ze,hwx,Option.any_none,aj,q9,ai]
  |some d=>
   rw [ze] at how hsy;simp only [mS,ho,hc,ze,how,hsy,hwx,aj,q9,ai]
 rw [he s fun _ _=>rfl] at hst;have hr0:∃g args,tW P h s c f=some (g,args):=by
  unfold u5 at hall;split at hall
  ·simp_all
  ·cases hall
 obtain ⟨g,args,XP⟩:=hr0;have hF:u5 P h ops o s c f={ rs:=gM ops o,ws:=o.dst.toList,ro:=lg s args,wo:=lg s args,mv:=(lg s args).filter (lV false s (qi args)) }:=by
  unfold u5;rw [XP]
 rw [hF];have hra':=XP;unfold tW at hra';split at hra'
 ·rename_i g0 pre caps vs hfn hvs
  simp only [aG,br] at hra';obtain ⟨rfl,rfl⟩:=hra';unfold jL at hst;rw [hfn,hvs] at hst;simp only [hsy] at hst;obtain ⟨fU,hst⟩:=G6 hst;split at hst
  ·rename_i cD zf
   split at hst
   ·rename_i r gm iO
    split at hst
    ·rename_i back wU
     obtain ⟨Hi,hst⟩:=G6 hst;injection hst with hst
     generalize Cj:kL s 200 ((pre++(vs++caps)).flatMap SV.ids) []=ids at fU zf iO wU hst;have hro:lg s (pre++(vs++caps))=ids:=Cj;rw [hro];have hfst:(jW (lV false s (qi (pre++(vs++caps)))) 0 ids).map (·.1)=ids:=tv _ _ _;refine ⟨s'.env,s'.ob,(ids.filter (lV false s (qi (pre++(vs++caps))))).map fun i=>(i,none),fun p hp=> ?_,fun j _ hk=>(by cases hk),fun x h1 h2 _=> ?_⟩
     ·obtain ⟨i,hi,rfl⟩:=aB.1 hp;exact hi
     ·have k1:bq P 0 x f=bq P 0 s f:=MV x h1 f hfo 0
      have k2:tM P h x c.args.toList c.argTypes.toList=tM P h s c.args.toList c.argTypes.toList:=yw fun y hy ty=>MV x h1 y (hargs y hy) ty
      have k3:kL x 200 ((pre++(vs++caps)).flatMap SV.ids) []=ids:=by
       rw [←Cj];exact (rF 200 _ _ fun id hid=>(h2 id (by rw [Cj] at hid;exact hid)).symm).symm
      have k4:∀id∈ids,lV false x (qi (pre++(vs++caps))) id=lV false s (qi (pre++(vs++caps))) id:=fun id hid=>by
       simp only [lV,VG,h2 id hid]
      have k5:∀(l:List Nat) (n:Nat),(∀id∈l,id∈ids)→jW (lV false x (qi (pre++(vs++caps)))) n l=jW (lV false s (qi (pre++(vs++caps)))) n l:=by
       intro l
       induction l with
       |nil=>intro n _;rfl
       |cons i l ih=>simp_all [jW]
      have k6:=k5 ids 0 fun _ h=>h
      have k7:lU x ids (qS (jW (lV false s (qi (pre++(vs++caps)))) 0 ids)) (jW (lV false s (qi (pre++(vs++caps)))) 0 ids)=some cD:=by
       rw [←zf]
       exact wF fun p hp=>h2 p.1 (by
        grind)
      have k8 :=rf fun i hi=>k4 i hi
      rw [he x h1];unfold jL;rw [k1,k2,hfn,hvs];simp only [hsy,k3,k6,fU,k7,iO,wU,Hi];refine aI _ (St.same (fun t=> ?_) (fun j=> ?_))
      ·simp [fT]
       cases ze:o.dst with
       |none=>
        simp_all [St.set,qC]
       |some d=>
        by_cases e:d=t
        ·subst e;rw [←hst,ze];simp [St.set,cu]
        ·rw [ak (by grind)]
         simp_all [St.set,bl,qC]
      ·have aal:∀(y) (v),(St.set y o.dst v).ob=y.ob:=fun y v=>by cases o.dst<;>rfl
       simp [fT,aal];by_cases e:j∈ids
       ·grind [sI]
       ·have hb:find back j=none:=by
         cases hf:find _ j with
         |none=>rfl
         |some o'=>grind [back_mem]
        simp_all [vp]
    simp_all
   simp_all
  simp_all
 simp_all
theorem put_fx {ops:Array Oper} {o:Oper} {s s':St} {t:TypeId} {a y:Operand} {id sz i off j:Nat} (ho:o.op= .store t a y) (ha:bq P 0 s a=some (.rp id sz i off)) (hy:bq P t s y=some (.row j)) (hst:step0 P h bM o s=some s') (hall:(lu P h ops o s).all=false):
  ∃ev ov m,kK (step0 P h bM o) s (lu P h ops o s) ev ov m:=by
 obtain ⟨F,hF⟩:∃F,lu P h ops o s=F:=⟨_,rfl⟩
 rw [hF] at hall⊢;unfold lu at hF;rw [ho] at hF;cases ze:o.dst with
 |some d=>rw [ze] at hF;subst hF;cases hall
 |none=>
  rw [ze] at hF;simp [DM,ha,hy] at hF;subst hF;have he:∀x:St,bq P 0 x a=some (.rp id sz i off)→bq P t x y=some (.row j)→step0 P h bM o x=Gn P x t id sz i off j:=fun x h1 h2=>by
   simp_all [ec,e9,step0,mS]
  rw [he s ha hy] at hst;unfold Gn at hst;split at hst
  ·rename_i e sz' k e' s2 xs ys e2 s3 zs hagg hsz dG GU
   cases hb:(Nat.beq sz sz'&&Nat.beq off k&&Nat.blt id 10000&&Nat.blt j 10000&&Nat.beq e' e2&&Nat.beq s2 s3&&Nat.blt i ys.length&& !(Nat.beq id j)) with
   |false=>simp_all
   |true=>
   rw [hb] at hst;simp at hst;refine ⟨s'.env,s'.ob,[(j,none),(id+40000,none)],by simp,fun q hq hk=> ?_,fun x h1 h2 _=> ?_⟩<;>subst hst
   ·simp_all [cu,Ob.tF]
   ·have MV:∀z∈o.op.operands.toList,∀ty,bq P ty x z=bq P _ s z:=fun z hz ty=>kP (fun u e=>h1 u (by
     subst e
     exact eC _ (fV.2 ⟨_,hz,rfl⟩))) _
    have k1:=MV a (by rw [ho];simp [Op.operands]) 0;have k2:=MV y (by rw [ho];simp [Op.operands]) t;have x1 :=(h2 _ (by simp)).trans dG;have x2 :=(h2 j (by simp)).trans GU;rw [he x (k1.trans ha) (k2.trans hy)];unfold Gn;simp only [hagg,hsz,x1,x2,hb];refine aI _ (St.same (fun u=> ?_) (fun u=> ?_))
    ·exact qC [j,id+40000] x u
    ·simp [fT]
     by_cases e:u=id
     ·simp_all [cu]
     ·simp [bl _ _ (fun h=>e h.symm)]
      by_cases e2:u=j
      ·rw [au (.inr (.inl e2))]
       exact sI [j,id+40000] x s u (by simp_all)
      ·by_cases e3:u=id+40000
       ·simp_all [St.dm,cu]
       ·rw [ak (by omega)]
        exact vp [j,id+40000] x u (by simp_all)
  simp_all
theorem Ta {ops:Array Oper} {o:Oper} {s s':St} (hst:step0 P h bM o s=some s') (hall:(lu P h ops o s).all=false):
  ∃ev ov m,kK (step0 P h bM o) s (lu P h ops o s) ev ov m:=by
 by_cases hld:∃t x,o.op= .load t x
 ·obtain ⟨t,a,ho⟩:=hld;exact take_fx ho hst hall
 by_cases hpt:∃t a x id sz i off j,o.op= .store t a x∧bq P 0 s a=some (.rp id sz i off)∧bq P t s x=some (.row j)
 ·obtain ⟨t,a,x,id,sz,i,off,j,ho,ha,hx⟩:=hpt;exact put_fx ho ha hx hst hall
 by_cases hct:∃t a x id off j sz lo hi,o.op= .store t a x∧bq P 0 s a=some (.ptr id off)∧bq P t s x=some (.sub j sz lo hi)
 ·obtain ⟨t,a,x,id,off,j,sz,lo,hi,ho,ha,hx⟩:=hct
  unfold lu at hall;rw [ho] at hall;cases ze:o.dst with
  |some d=>rw [ze] at hall;cases hall
  |none=>rw [ze] at hall;simp only [DM,ha,hx] at hall;cases hall
 have go:∀{l:List (Nat×Option AV)},(∀p∈l,p.1∈(lu P h ops o s).mv)→(∀t∈gM ops o,t∈(lu P h ops o s).rs)→(∀x:St,(∀t∈(lu P h ops o s).rs,x.env t=s.env t)→(∀j∈(lu P h ops o s).ro,x.ob j=s.ob j)→step0 P h bM o x=some (fT (lu P h ops o s) s'.env s'.ob l x))→
   ∃ev ov m,kK (step0 P h bM o) s (lu P h ops o s) ev ov m:=fun hk _ hrun=>⟨_,_,_,hk,fun j _ hj=>(by rw [kp_E0 hld hpt] at hj;cases hj),fun x h1 h2 _=>hrun x h1 h2⟩
 obtain ⟨F,hF⟩:∃F,lu P h ops o s=F:=⟨_,rfl⟩
 rw [hF] at hall go⊢;unfold lu at hF;split at hF
 ·
  rename_i t ax ay tS hdn
  replace hF:A6 P ops o s ax=F:=by
   rw [←hF];unfold DM;split
   ·rename_i h1 h2;exact absurd ⟨_,_,_,_,_,_,_,_,tS,h1,h2⟩ hpt
   ·rename_i h1 h2;exact absurd ⟨_,_,_,_,_,_,_,_,_,tS,h1,h2⟩ hct
   ·rfl
  unfold A6 at hF;split at hF
  ·rename_i id hx
   subst hF;obtain ⟨sa,hsa,htg⟩:=dw.1 hx;have hfn:∀x,ec P h bM o x=none:=fun x=>by simp [ec,tS,e9]
   have XQ:=hst;unfold step0 at XQ;rw [hfn] at XQ;simp only [mS,hdn,tS,hsa] at XQ;split at XQ
   ·rename_i h1 h2
    injection h1 with h1;subst h1
    exact absurd ⟨_,_,_,_,_,_,_,_,tS,hsa,h2⟩ hpt
   ·rename_i h1 h2
    injection h1 with h1;subst h1
    exact absurd ⟨_,_,_,_,_,_,_,_,_,tS,hsa,h2⟩ hct
   ·rename_i sa' sv _ hnr e1 hy
    injection e1 with e1;subst e1
    obtain ⟨l1,l2,l3⟩:=K9 XQ htg;refine go (l:=[]) (by simp) (fun t ht=>ht) fun x h1 h2=> ?_
    have MV:∀y∈o.op.operands.toList,∀ty,bq P ty x y=bq P ty s y:=fun y hy' ty=>kP (fun u e=>h1 u (by
     subst e
     exact eC _ (fV.2 ⟨.tmp u,hy',rfl⟩))) ty
    have k1:=MV ax (by rw [tS];simp [Op.operands]) 0;have k2:=MV ay (by rw [tS];simp [Op.operands]) t;unfold step0;rw [hfn];have hsel:mS P h bM o x=storeAt P t x sa sv:=by
     simp only [mS,hdn,tS,k1,k2,hsa,hy]
    simp only;rw [hsel,l3 x (h2 id (by simp)) fun j hj=>h2 j (dW _ (uO (P:=P) (x:=ay) (ty:=t) (by rw [tS];simp [Op.operands]) hy hj))]
    congr 1
    refine St.same (fun u=> ?_) (fun u=> ?_)
    ·simp only [fT,fF,ez]
     exact (jJ fun _=>rfl).symm
    ·simp only [fT,bP]
     by_cases e:u=id
     ·subst e;simp [cu]
     ·rw [ak e,bl _ _ (fun h=>e h.symm)]
      exact (jJ DX).symm
   ·cases XQ
  ·subst hF;cases hall
 ·
  rename_i t d tS ze;cases hrw:h.rows.contains d with
  |true=>rw [hrw] at hF;subst hF;cases hall
  |false=>
   rw [hrw] at hF;simp only [aj] at hF;subst hF;have he:∀x,step0 P h bM o x=match L7 P h (some d) t with
    |some z=>some ((x.new d (.box t (z.map .pv))).set (some d) (.ptr d 0))
    |none=>none:=fun x=>by
    have hfn:ec P h bM o x=none:=by simp [ec,tS,e9]
    unfold step0;rw [hfn];simp only [mS,ze,tS,hrw,aj];rfl
   rw [he] at hst;split at hst
   ·rename_i z hz
    injection hst with hst;subst hst
    refine go (l:=[(d,none)]) (by simp) (fun t ht=>ht) fun x h1 h2=> ?_
    rw [he,hz];simp only;rw [Jo (f:={ rs:=gM ops o,ws:=[d],wo:=[d],mv:=[d] }) (s:=s) rfl rfl]
   ·cases hst
 ·
  rename_i t len parts d tS ze;cases hrw:h.rows.contains d with
  |false=>rw [hrw] at hF;subst hF;cases hall
  |true=>
   rw [hrw] at hF;simp only [ai] at hF;subst hF;have he:∀x,step0 P h bM o x=match kM P t len parts.toList x with
    |some (e,s,xs)=>match find h.nest d with
     |none=>some ((x.new d (.row e s xs)).set (some d) (.row d))
     |some (k,e',s')=>bif Nat.blt k s&&xs.all (qz k) then some ((x.new d (.rn e s k e' s' (xs.map fun c=>c.set k .hole) (xs.map fun _=>some []))).set (some d) (.row d)) else none
    |none=>none:=fun x=>by
    have hfn:ec P h bM o x=none:=by simp only [ec,tS,ze,xJ,hrw,ai]
    unfold step0;rw [hfn];simp only [mS,ze,tS];rfl
   have hl:∀x:St,(∀t∈gM ops o,x.env t=s.env t)→kM P t len parts.toList x=kM P t len parts.toList s:=fun x h1=>by
    unfold kM
    have hp:∀ty,partsOf P ty x parts.toList=partsOf P ty s parts.toList:=fun ty=>sU (fun y hy t=>kP (fun u e=>h1 u (by
     subst e
     exact eC _ (fV.2 ⟨.tmp u,by rw [tS];simpa [Op.operands] using hy,rfl⟩))) t)
    simp only [hp]
   rw [he] at hst;obtain ⟨ob,hs',hrun⟩:∃ob:Ob,s'=(s.new d ob).set (some d) (.row d)∧∀x:St,kM P t len parts.toList x=kM P t len parts.toList s→step0 P h bM o x=some ((x.new d ob).set (some d) (.row d)):=by
    split at hst
    ·rename_i e sz xs hlit
     split at hst
     ·rename_i hn
      injection hst with hst
      exact ⟨_,hst.symm,fun x hx=>by rw [he,hx,hlit];simp only [hn]⟩
     ·rename_i k e' s2 hn
      obtain ⟨hb,hst⟩:=G6 hst;injection hst with hst
      exact ⟨_,hst.symm,fun x hx=>by rw [he,hx,hlit];simp only [hn,hb,ai]⟩
    ·cases hst
   subst hs';refine go (l:=[(d,none)]) (by simp) (fun t ht=>ht) fun x h1 h2=> ?_
   rw [hrun x (hl x h1),Jo (f:={ rs:=gM ops o,ws:=[d],wo:=[d],mv:=[d] }) (s:=s) rfl rfl]
 ·rename_i c tS
  split at hF
  ·
   rename_i hc;unfold MF at hF;split at hF
   ·rename_i x y t t' d hargs tT ze
    split at hF
    ·rename_i id hx
     subst hF;obtain ⟨ob,hs',hrun⟩:=Ze tS hc hargs tT ze hx hst;subst hs';refine go (l:=[(id,none)]) (by simp) (fun t ht=>ht) fun x h1 h2=> ?_
     rw [hrun x (fun t ht=>h1 t (by simp [gM,ht])) h2,Jo (f:={ rs:=gM ops o,ws:=[d],ro:=id::BM s o,wo:=[id],mv:=[id] }) (s:=s) rfl rfl]
    ·rename_i id hx
     subst hF;obtain ⟨ob,hs',hrun⟩:=W8 tS hc hargs tT ze hx hst;subst hs';refine go (l:=[(id,none)]) (by simp) (fun t ht=>ht) fun x h1 h2=> ?_
     rw [hrun x (fun t ht=>h1 t (by simp [gM,ht])) h2,Jo (f:={ rs:=gM ops o,ws:=[d],ro:=id::BM s o,wo:=[id],mv:=[id] }) (s:=s) rfl rfl]
    ·subst hF;cases hall
   ·subst hF;cases hall
  ·
   rename_i f hc;cases how2:(o.dst.any h.owns.contains&& !(o.dst.any (fun d=>(w8 h d).isSome))) with
   |false=>
    rw [how2] at hF;simp only [aj] at hF;cases hmn:(!(o.dst.any h.owns.contains)&&(!(o.dst.any h.stay.contains)&&wide s c f)) with
    |false=>rw [hmn] at hF;subst hF;cases hall
    |true=>
     rw [hmn] at hF;simp only [ai] at hF;rw [←hF] at hall⊢;simp only [aF,gV] at hmn;exact many_fx tS hc hmn.1 hmn.2.1 hmn.2.2 hst hall
   |true=>
    rw [how2] at hF;simp only [ai] at hF;subst hF;obtain ⟨how,IZ⟩:=xI.1 how2;have he:∀x,step0 P h bM o x=kW P h bM x c f o.dst:=fun x=>by
     have hfn:ec P h bM o x=none:=by simp only [ec,tS,hc,how,ai]
     unfold step0;rw [hfn];cases ze:o.dst with
     |none=>rw [ze] at how;cases how
     |some d=>
      rw [ze] at how;simp only [mS,tS,hc,ze,how,ai]
    have MV:∀x:St,(∀t∈gM ops o,x.env t=s.env t)→∀y∈o.op.operands.toList,∀ty,bq P ty x y=bq P ty s y:=fun x h1 y hy' ty=>kP (fun u e=>h1 u (by
     subst e
     exact eC _ (fV.2 ⟨.tmp u,hy',rfl⟩))) ty
    rw [he] at hst;unfold kW at hst;split at hst
    ·rename_i d ze
     have hn:(w8 h d).isSome=false:=by simpa [ze] using IZ
     rw [hn] at hst;split at hst
     ·rename_i g caps vs hf hvs
      split at hst
      rotate_left
      ·rename_i cs' hr
       have:w8 h d=none:=by simpa using hn
       rw [this] at hst;cases hst
      ·cases hst
      rename_i e sz xs hr;injection hst with hst;subst hst
      refine go (l:=[(d,none)]) (by simp [ze]) (fun t ht=>ht) fun x h1 h2=> ?_
      have k1:=MV x h1 f (by rw [tS];simp [Op.operands,Call.operands,hc]) 0;have k2:=As (P:=P) (b:=false) (st:=x) (st':=s) (xs:=c.args.toList) (ts:=c.argTypes.toList) (fun y hy=>MV x h1 y (by rw [tS];simp only [Op.operands,Call.operands,jy,bC];exact .inr hy));rw [he];unfold kW;rw [ze];simp only [hn,k1,k2,hf,hvs,hr,aj];exact aI some (Jo (f:={ rs:=gM ops o,ws:=(some d).toList,wo:=(some d).toList,mv:=(some d).toList }) (s:=s) rfl rfl)
     ·cases hst
    ·cases hst
  ·subst hF;cases hall
 ·rename_i hq _;exact absurd ⟨_,_,hq⟩ hld
 ·subst hF;cases hall
theorem Qb {ops:Array Oper} {o:Oper}:∀{l:List Nat} {s s':St},(nT l s).bind (step0 P h bM o)=some s'→(Lu P h ops o l s).all=false→∃ev ov m,kK (fun x=>(nT l x).bind (step0 P h bM o)) s (Lu P h ops o l s) ev ov m
 |[],s,s',hst,hall=>by
  simp only [nT,fD] at hst⊢;simp only [Lu] at hall⊢;cases hF:isF h s o with
  |false=>simp_all [aj,Ta]
  |true=>
   rw [hF] at hall;simp only [ai] at hall⊢;cases hW:(isW o.op||isWc s o.op) with
   |false=>rw [hW] at hall;cases hall
   |true=>
    simp only [ai];cases hv:ec P h bM o s with
    |some v=>exact ⟨_,_,_,RZ hv⟩
    |none=>
     exfalso;unfold step0 at hst;rw [hv] at hst;simp only at hst;cases ho:o.op with
     |buildSlice t len parts=>
      simp only [isF,ho] at hF;have hF:o.dst.any h.rows.contains=false:=by simpa using hF
      simp only [ec,ho,hF,aj,Option.map_eq_none_iff] at hv
      grind [mS]
     |build t parts=>
      simp only [isF,ho] at hF;have hF:o.dst.any h.rows.contains=false:=by simpa using hF
      cases hd:o.dst with
      |none=>simp [mS,ho,hd] at hst
      |some d=>
       simp_all [mS,aj]
     |load t x=>
      simp only [isF,ho] at hF;have hF:o.dst.any h.take.contains=false:=by simpa using hF
      cases hd:o.dst with
      |none=>simp [mS,ho,hd] at hst
      |some d=>
       simp_all [mS,aj]
     |call c=>
      simp only [isW,ho,iY,isWc] at hW;cases hc:c.callee with
      |value f=>
       rw [hc] at hW;simp only [gV] at hW;have hno:∀x∈c.args.toList,kT s x=false:=fun x hx=>by
        grind
       have hag:c.args.toList.any (vC s)=false:=by
        rw [qZ];intro x hx ha;have h1:=hno x hx;cases x with
        |tmp i=>
         simp only [vC] at ha;simp only [kT] at h1
         grind
        |_=>cases ha
       have gp:∀l:List Operand,(∀x∈l,kT s x=false)→mS.iA s l=some s:=by
        intro l
        induction l with
        |nil=>intro _;rfl
        |cons x l ih=>
         intro hl;have h1:=hl x (by simp);have h2:=ih fun y hy=>hl y (by simp [hy])
         cases x with
         |tmp i=>
          simp only [mS.iA];simp only [kT] at h1
          grind
         |_=>exact h2
       have hpa:mS.jv s c.args.toList=some s:=by
        unfold mS.jv;rw [hag];exact gp _ hno
       simp only [isF,ho,hc,aF,gV,eY] at hF;obtain ⟨how,hF⟩:=hF
       have he:mS P h bM o s=(bif o.dst.any h.owns.contains then kW P h bM s c f o.dst else bif o.dst.any h.stay.contains&&wide s c f then none else bif wide s c f then jL P h bM s c f o.dst else bif c.args.toList.any (fun x=>(oK h s x).isSome) then pR P h bM s c f o.dst else
        match mS.jv s c.args.toList with
        |some st'=>match bq P 0 st' f,jI P st' c.args.toList c.argTypes.toList with
         |some (.pv (.fn g caps)),some vs=>match bM g ((vs++caps).map .pv) [] with
          |some (r,[])=>bif c.args.toList.any (kT st')|| !r.kN then none else some (st'.set o.dst (.pv r))
          |_=>none
         |_,_=>none
        |none=>none):=by
        cases hd:o.dst<;>simp only [mS,ho,hc,hd]<;>rfl
       rw [he,how] at hst;simp only [aj] at hst;rcases hF with hF|hF
       ·simp_all
       ·obtain ⟨XR,hrf⟩:=(mX).1 hF
        rw [XR,hrf,hpa] at hst;simp only at hst;simp only [ec,ho,hc] at hv;rw [how,XR,hrf] at hv;split at hst
        ·rename_i g caps vs h1 h2
         rw [h1,h2] at hv;simp only at hv;split at hst
         ·rename_i r hr
          rw [hr] at hv;simp [hW] at hv hst;cases Hi:r.kN with
          |true=>rw [Hi] at hv;cases hv
          |false=>rw [Hi] at hst;cases hst
         simp_all
        simp_all
      |_=>simp_all
     |_=>simp [isW,isWc,ho] at hW
 |t::l,s,s',hst,hall=>by
  simp [nT] at hst;cases h1:vo s t with
  |none=>simp_all
  |some s1=>
   rw [h1] at hst;simp [Lu,h1] at hall⊢;have hall2 :=by
    simp [gu.then,mX] at hall;exact hall.2
   obtain ⟨ev,ov,m,r1⟩:=Yk h1;obtain ⟨ev',ov',m',r2⟩:=Qb hst hall2;have e1:=r1.at h1;rw [e1] at r2;obtain ⟨ev2,ov2,r3⟩:=WR r1 r2;rw [←e1] at r3;refine ⟨ev2,_,_,r3.1,r3.2.1,fun x k1 k2 k3=> ?_⟩;rw [←r3.2.2 x k1 k2 k3]
   grind [nT]
theorem Xw {ops:Array Oper} {k:Nat} {o:Oper} {s s':St} (ho:ops[k]? =some o) (hw:p8 ops o s=some true) (hst:step P h bM o s=some s') (hall:((uc P h ops o s).fill s s').all=false):
  ∃ev ov m,HS (qG P h bM ops k) s ((uc P h ops o s).fill s s') ev ov m∧Ph s ((uc P h ops o s).fill s s'):=by
 have hall1 :=by
  simp [uc,gu.then,xK] at hall;exact hall
 obtain ⟨ev,ov,m,r⟩:=Qb hst hall1;have r':kK (step P h _ o) s (uc P h ops o s) _ _ m:=r.imp (fun t ht=>by simp [uc,gu.then,ht]) (fun t ht=>by simp [uc,gu.then,ht]) (fun t ht=>by simp [uc,gu.then,ht]) (fun t=>by rfl) (fun t=>by rfl) (fun t ht=>by simp [uc,gu.then,ht]) (fun t ht hk=>by simp_all [uc,gu.then]);have e:=r'.at hst;refine MC r'.1 (fun x h1 h2 h3=> ?_) fun j hj hk=> ?_
 rotate_left
 ·rw [e,skO hj];exact r'.2.1 j hj hk
 simp [qG,ho];rw [y8 fun t ht=>h1 t (by simp [uc,gu.then,ht]),hw];simp only;rw [r'.2.2 x h1 h2 h3,e]
 congr 1
 refine St.same (fun t=> ?_) (fun j=> ?_)
 ·simp [fT]
  simp_all
 ·simp [fT]
  simp_all
theorem run_of {ops:Array Oper}:∀(l:List Oper) (i:Nat) (prev:List (Nat×gu)) (st s:St),(∀k o,l[k]? =some o→ops[i+k]? =some o)→jX P h bM ops i l prev st=some s→
  ∃fs:List (Nat×gu),fs.length=l.length∧(∀j,j∈fs.map (·.1)↔i≤j∧j<i+l.length)∧fs.Pairwise (fun p q=>p.1<q.1)∧Mb (qG P h bM ops) fs st s∧
   (∀p∈prev,∀q∈fs,p.2.conflict q.2=true→reach ops 12 q.1 p.1=true)∧fs.Pairwise (fun p q=>p.2.conflict q.2=true→reach ops 12 q.1 p.1=true):=by
 intro l
 induction l with
 |nil=>
  intro i prev st s _ hr;simp only [jX,aG] at hr;exact ⟨[],rfl,by simp, .nil,hr,by simp, .nil⟩
 |cons o l ih=>
  intro i prev st s hal hr;have ho:ops[i]? =some o:=by simpa using hal 0 o (by simp)
  have cont:∀(f:gu) (st1:St),qG P h bM ops i st=some st1→(f.all=false→∃ev ov m,HS (qG P h bM ops i) st f ev ov m∧Ph st f)→wB ops prev i f=true→jX P h bM ops (i+1) l ((i,f)::prev) st1=some s→
    ∃fs:List (Nat×gu),fs.length=(o::l).length∧(∀j,j∈fs.map (·.1)↔i≤j∧j<i+(o::l).length)∧fs.Pairwise (fun p q=>p.1<q.1)∧Mb (qG P h bM ops) fs st s∧
     (∀p∈prev,∀q∈fs,p.2.conflict q.2=true→reach ops 12 q.1 p.1=true)∧fs.Pairwise (fun p q=>p.2.conflict q.2=true→reach ops 12 q.1 p.1=true):=fun f st1 h1 h2 h3 h4=>by
   obtain ⟨fs,k0,k1,k2,k3,k4,k5⟩:=ih (i+1) ((i,f)::prev) st1 s (fun k o' hk=>by
    have:=hal (k+1) o' (by assumption)
    grind) h4
   refine ⟨(i,f)::fs,by simp [k0],fun j=> ?_, .cons (fun q hq=> ?_) k2,⟨st1,h1,h2,k3⟩,fun p hp q hq hc=> ?_, .cons (fun q hq=>k4 (i,f) (by simp) q hq) k5⟩
   ·simp only [aP,aD,k1,bg];omega
   ·have:=(k1 q.1).1 (aB.2 ⟨q,hq,rfl⟩)
    omega
   ·rcases aD.1 hq with rfl|hq
    ·have:=cg.1 h3 p hp
     simpa [hc] using this
    grind
  simp only [jX] at hr;split at hr
  ·cases hr
  ·rename_i b hw
   cases b with
   |false=>
    simp only [aj] at hr;cases hfo:wB ops prev i ((tq ops o).fill st (st.set o.dst .undef)) with
    |false=>simp [hfo] at hr
    |true=>simp only [hfo,ai] at hr;exact cont _ _ (by simp only [qG,ho,hw]) (fun _=>skip_ok ho hw) hfo hr
   |true=>
    cases hF:(isF h st o&&(D9 h o).isEmpty) with
    |true=>
     have hpe :=by simp only [aF] at hF;exact ud.1 hF.2
     simp [hF] at hr;cases hf:ec P h bM o st with
     |none=>simp [hf] at hr
     |some v=>
      simp [hf] at hr;cases hc:wB ops prev i ((u6 P h ops o st).fill st (st.set o.dst v)) with
      |false=>simp [hc] at hr
      |true=>simp [hc] at hr;exact cont _ _ (by simp [qG,ho,hw,step,hpe,nT,fD,step0,hf]) (fun _=>acN ho hw hpe hf) hc hr
    |false=>
     cases hs:step P h bM o st with
     |none=>simp_all
     |some st1=>
      cases hc:wB ops prev i ((uc P h ops o st).fill st st1) with
      |false=>simp_all
      |true=>grind [qG,Xw]
theorem Xp:∀{l:List Oper} {i:Nat},sC i l=true→∀(p:Nat) (o:Oper),l[p]? =some o→∀e∈o.after.toList,Region.binds .any e=true→e.on<i+p:=by
 intro l
 induction l with
 |nil=>simp
 |cons x l ih=>
  intro i hs p o ho e he hb;simp only [sC,aF] at hs;cases p with
  |zero=>
   simp at ho;subst ho;have:=cg.1 hs.1 e he;simp_all
  |succ p=>
   grind
theorem NL {ops:Array Oper} {D:Nat→Prop} (GR:∀j o,D j→ops[j]? =some o→∀e∈o.after.toList,Region.binds .any e=true→D e.on):
  ∀(n i j:Nat),(∀o,ops[i]? =some o→∀e∈o.after.toList,Region.binds .any e=true→D e.on)→reach ops n i j=true→D j:=by
 intro n
 induction n with
 |zero=>simp_all [reach]
 |succ n ih=>
  intro i j Qn h;simp [reach] at h;cases ho:ops[i]? with
  |none=>grind
  |some o=>
   simp [ho,eY] at h;rcases h with h|h
   ·simp [ZJ] at h
    grind [beq_iff]
   grind
theorem Rel.dm {N:Nat} {w0:World} {μ0:Mu} {L:sq} {μ:Mu} {loc:Nat→Value} {st:St} {a:Act} {w:World} (hR:Rel N w0 μ0 L μ loc st a w) (id:Nat):Rel N w0 μ0 L μ loc (st.dm id) a w:=by
 have yG:∀j o,(st.dm id).ob j=some o→∃o',st.ob j=some o'∧o=o'.dm id:=fun j o ho=>by
  simp [St.dm] at ho;by_cases e:id=j
  ·subst e;simp [cu] at ho
  ·simp [bl _ _ e] at ho
   cases h1:st.ob j with
   |none=>simp_all
   |some o'=>simp_all
 refine { hR with env:=fun i sv he=> ?_,obs:=fun j o ho=> ?_,apart:=fun i j oi oj hi hj=> ?_ }
 ·simp [St.dm] at he
  cases h1:st.env i with
  |none=>simp_all
  |some s=>
   simp [h1] at he;subst he;obtain ⟨v,hv,hs⟩:=hR.env i s h1;simp_all [jT]
 ·obtain ⟨o',ho',rfl⟩:=yG j o ho
  have:=hR.obs j _ ho';cases o' with
  |row e sz xs=>exact this
  |mp k e ks vs=>exact this
  |mr k e s ks vs=>exact this
  |rn e s k e' s' xs ys=>exact this
  |it s n=>exact this
  |lp s=>exact this
  |box t cells=>
   obtain ⟨b,vs,h1,h2,h3,h4,h5,h6⟩:=this;refine ⟨b,vs,h1,h2,h3,h4,?_,h6⟩;clear h3 h6 ho' ho
   induction cells generalizing vs with
   |nil=>exact h5
   |cons c cs ih=>
    obtain ⟨u,us,rfl,k1,k2⟩:=h5;exact ⟨u,us,rfl,jT k1,ih _ k2⟩
 ·obtain ⟨oi',hi',_⟩:=yG i _ hi
  obtain ⟨oj',hj',_⟩:=yG j _ hj;exact hR.apart i j _ _ hi' hj'
theorem Rel.rR {N:Nat} {w0:World} {μ0:Mu} {L:sq} {μ:Mu} {loc:Nat→Value} {a:Act} {w:World}:∀(l:List Nat) (st:St),Rel N w0 μ0 L μ loc st a w→Rel N w0 μ0 L μ loc (AM.rR l st) a w
 |[],_,hR=>hR
 |p::l,st,hR=>Rel.rR l _ (hR.dm p)
end
section
variable {P:Program} {N:Nat} {w0:World} {μ0:Mu} {L:sq} {h:Hint} {bM:dQ} {Q:Exit→Act→World→Prop}
theorem S5 (iO:ga L.q μ0 P bM) {ops:Array Oper} {st stF:St} (hedges:sC 0 ops.toList=true)
  (hrun:jX P h bM ops 0 ops.toList [] (rR (wN ops.toList) st)=some stF) (hd:∀o∈ops.toList,∀i,o.dst=some i→i<N)
  (hQ:∀a' w' μ' loc',Rel N w0 μ0 L μ' loc' stF a' w'→Q .normal a' w') {μ:Mu} {loc:Nat→Value} {a:Act} {w:World} (hR:Rel N w0 μ0 L μ loc st a w) {F:Fence} (hF:Wd F):
  wpAnyIn F 0 P .any ops Q ops.size (Array.replicate ops.size false) a w:=by
 obtain ⟨fs0,hl0,hm0,hs0,hr0,_,hp0⟩:=run_of ops.toList 0 [] _ _ (fun k o hk=>by simp_all) hrun
 let D:Array Bool→Nat→Prop:=fun listed j=>listed.getD j false=true
 have main:∀(fuel:Nat) (listed:Array Bool) (a:Act) (w:World) (μ:Mu) (loc:Nat→Value) (fs:List (Nat×gu)) (x:St),listed.size=ops.size→fs.length≤fuel→
   (∀j o,D listed j→ops[j]? =some o→∀e∈o.after.toList,Region.binds .any e=true→D listed e.on)→
   (∀j,j∈fs.map (·.1)↔j<ops.size∧¬D listed j)→fs.Pairwise (fun p q=>p.1<q.1)→Mb (qG P h bM ops) fs x stF→fs.Pairwise (fun p q=>p.2.conflict q.2=true→reach ops 12 q.1 p.1=true)→Rel N w0 μ0 L μ loc x a w→
   wpAnyIn F 0 P .any ops Q fuel listed a w:=by
  intro fuel
  induction fuel with
  |zero=>
   intro listed a w μ loc fs x hsz hle GR hmem _ VB _ hRx;have IZ:fs=[]:=lJ (by omega);subst IZ;have hx:x=stF:=VB;subst hx;refine ⟨?_,hQ _ _ _ _ hRx⟩;unfold Region.ready;apply xH.2
   grind
  |succ fuel ih=>
   intro listed a w μ loc fs x hsz hle GR hmem hsort VB hpair hRx;have hready:∀i,i∈Region.ready .any ops listed→∃o,ops[i]? =some o∧i<ops.size∧¬D listed i∧∀e∈o.after.toList,Region.binds .any e=true→D listed e.on:=by
    intro i hi;unfold Region.ready at hi;simp only [cL,eT,aF,gV] at hi;obtain ⟨hlt,hnl,Qn⟩:=hi;have ho:ops[i]? =some (ops[i]'hlt):=vI hlt;refine ⟨_,ho,hlt,?_,?_⟩
    ·have hl':i<listed.size:=by omega
     have:listed[i]=false:=by simpa [Array.getD,hl'] using hnl
     simp [D,Array.getD,hl',this]
    ·intro e he hb
     simp only [ho,cS,q8] at Qn;have:=CS.1 Qn e (by simpa using he);simpa [hb,D] using this
   have aal:∀i,i<ops.size→∀j,D (listed.setIfInBounds i true) j↔(D listed j∨j=i):=by
    intro i hi j;have hl':i<listed.size:=by omega
    by_cases hj:j<listed.size
    ·by_cases e:i=j
     ·subst e;simp [D,Array.getD,hj]
     ·have e':j≠i:=fun h=>e h.symm
      simp [D,Array.getD,hj,e,e',Array.getElem_setIfInBounds]
    ·have e':j≠i:=fun h=>by subst h;exact hj hl'
     have h1:(listed.setIfInBounds i true).getD j false=false:=by simp [Array.getD,hj]
     have h2:listed.getD j false=false:=by simp [Array.getD,hj]
     simp only [D,h1,h2,e',fW]
   refine ⟨fun IZ=> ?_,fun i hi=> ?_⟩
   ·
    cases fs with
    |nil=>have hx:x=stF:=VB;subst hx;exact hQ _ _ _ _ hRx
    |cons p fs=>
     exfalso;have hp:=(hmem p.1).1 (by simp);have hlow:∀k,k<p.1→D listed k:=fun k hk=>dA fun hn=>by
      have:=(hmem k).2 ⟨by omega,hn⟩;simp only [aP,aD] at this;rcases this with e|hk'
      ·omega
      ·obtain ⟨q,hq,rfl⟩:=aB.1 hk'
       have:=(dX.1 hsort).1 q hq;omega
     have ho:ops[p.1]? =some (ops[p.1]'hp.1):=vI hp.1;have hs2:=Xp hedges p.1 (ops[p.1]'hp.1) (by simp);have hl':p.1<listed.size:=by omega
     have hmem':p.1∈Region.ready .any ops listed:=by
      unfold Region.ready;simp only [cL,eT,aF,gV];refine ⟨hp.1,?_,?_⟩
      ·grind
      ·simp only [ho,cS,q8]
       apply CS.2;intro e he;cases hb:Region.binds .any e with
       |false=>rfl
       |true=>
        have:=hlow e.on (by simpa using hs2 e (by simpa using he) hb);simpa [D] using this
     rw [IZ] at hmem';cases hmem'
   ·obtain ⟨o,ho,hlt,hnD,Qn⟩:=hready i hi
    obtain ⟨p,XO,hpe⟩:=aB.1 ((hmem i).2 ⟨hlt,hnD⟩);obtain ⟨pre,post,rfl⟩:=CT XO;subst hpe;have hpre:∀q∈pre,q.2.conflict p.2=false:=fun q hq=>by
     cases hc:q.2.conflict p.2 with
     |false=>rfl
     |true=>
      have hr:=(ri.1 hpair).2.2 q hq p (by simp) hc;have:=NL GR 12 p.1 q.1 (fun o' ho'=>by rw [ho] at ho';injection ho' with ho';subst ho';exact Qn) hr;exact absurd this ((hmem q.1).1 (by simp only [bT,bC];exact .inl (aB.2 ⟨q,hq,rfl⟩))).2
    obtain ⟨s1,hs1,hruns',_⟩:=Mb.front (i:=p.1) (f:=p.2) pre x VB hpre;have hnext:∀a' w' μ' loc',Rel N w0 μ0 L μ' loc' s1 a' w'→wpAnyIn F 0 P .any ops Q fuel (listed.setIfInBounds p.1 true) a' w':=fun a' w' μ' loc' z6=>by
     have hnp:∀q∈pre++post,q.1≠p.1:=fun q hq e=>by
      rcases bC.1 hq with h1|h1
      ·have:=(ri.1 hsort).2.2 q h1 p (by simp);omega
      ·have:=(dX.1 (ri.1 hsort).2.1).1 q h1;omega
     refine ih _ a' w' μ' loc' (pre++post) s1 (by simp [hsz]) (by simp at hle⊢;omega) (fun j oj hj hoj e he hb=> ?_) (fun j=> ?_) (hsort.sublist (by simp)) hruns' (hpair.sublist (by simp)) z6
     ·grind
     ·rw [aal _ hlt]
      have:=hmem j;simp only [bT,aP,bC,aD] at this⊢;constructor
      ·intro hj
       obtain ⟨k1,k2⟩:=this.1 (hj.elim .inl fun h=> .inr (.inr h));refine ⟨k1,fun h=>h.elim k2 fun e=> ?_⟩;subst e;rcases hj with hj|hj<;>obtain ⟨q,hq,e⟩:=aB.1 hj<;>exact hnp q (by simp [hq]) e
      ·rintro ⟨k1,k2⟩
       rcases this.2 ⟨k1,fun h=>k2 (.inl h)⟩ with h1|h1|h1
       ·exact .inl h1
       ·exact absurd (.inr h1) k2
       ·exact .inr h1
    have hdo :=hd o (by
     grind)
    unfold wpOpIn;simp [ho];simp [qG,ho] at hs1;split at hs1
    ·rename_i hw
     rw [y9 hRx hw];exact JW hRx iO hdo hs1 hnext F hF
    ·rename_i hw
     injection hs1 with hs1;subst hs1
     rw [y9 hRx hw];exact ⟨fun f _=>hF.fn f,hnext _ _ _ _ (hRx.set hdo (rfl))⟩
    simp_all
 have hnone:∀j,¬D (Array.replicate ops.size false) j:=fun j=>by
  by_cases hj:j<ops.size<;>simp [D,Array.getD]
 refine main _ _ a w _ _ _ _ (by simp) (by simp [hl0]) (fun j o hj=>absurd hj (hnone j)) (fun j=> ?_) hs0 hr0 hp0 (Rel.rR _ _ hR);simp_all
end
end Go.AM
