/- THE ABSTRACT MACHINE. -/
import Derived.Test.YthphfjcnkinkpaaGreatDoorAmRun
set_option linter.all false
namespace Go.AM
open Go.RowKit
section
variable {P:Program} {h:Hint} {cB:eE}
def jd {q l:St} {x:Operand} (w:∀t,x= .tmp t->q.env t=l.env t) (ty:TypeId):bI P ty q x=bI P ty l x:=by cases x with
 |tmp t=>exact w t rfl
 |_=>rfl
def Ol (P:Program) (q l:St) (x:Operand):Prop:=∀ty w,bI P ty q x=some w->∀id∈w.ids,q.ob id=l.ob id
def xy {q l:St} {v:SV} (z:∀id∈v.ids,q.ob id=l.ob id):elems q v=elems l v:=by cases v with
 |sub id s B w=>grind[elems,SV.ids]
 |row id=>grind[elems,SV.ids]
 |pv x=>cases x<;>rfl
 |_=>rfl
def Tq {w l:St} {v:SV} (z:∀id∈v.ids,w.ob id=l.ob id):lenOf w v=lenOf l v:=by cases v with
 |row id=>grind[lenOf,SV.ids]
 |pv x=>cases x<;>rfl
 |aq _ q=>cases q<;>rfl
 |_=>rfl
def KJ {q l:St} {v:SV} (w:∀id∈v.ids,q.ob id=l.ob id):maps q v=maps l v:=by cases v with
 |row id=>grind[maps,SV.ids]
 |pv x=>cases x<;>rfl
 |_=>rfl
def V8 {z l:St} {v:SV} (B:∀id∈v.ids,z.ob id=l.ob id):nT z v=nT l v:=by cases v with
 |row id=>grind[nT,SV.ids]
 |ag w=>
  have key:∀w:List _,(∀id∈(SV.ag w).ids,z.ob id=l.ob id)->ku z w=ku l w:=by intro w;induction w with
   |nil=>intro _;rfl
   |cons c w D=>grind[SV.ids,ku]
  simp[nT,key _ B]
 |aq id q=>cases q with
  |full=>rfl
  |bs n=>rfl
  |nr i=>grind[nT,SV.ids]
 |_=>rfl
def MH {st st':St} {xs:List Operand} {ts:List TypeId} (l:∀x∈xs,Ol P st st' x) (w:∀x∈xs,∀ty,bI P ty st x=bI P ty st' x):jN P st xs ts=jN P st' xs ts:=by induction xs generalizing ts with
 |nil=>rfl
 |cons x xs B=>
  have z:(bI P (ts.headD 0) st x).bind (nT st)=(bI P (ts.headD 0) st' x).bind (nT st'):=by rw[<-w x ai];cases q:bI P _ _ x with
   |none=>rfl
   |some D=>exact V8 (l x ai _ _ q)
  simp_all[jN]
def Ce {st st':St} {b:Bool}:∀{xs:List Operand} {ts:List TypeId},(∀x∈xs,∀ty,bI P ty st x=bI P ty st' x)->sA P b st xs ts=sA P b st' xs ts
 |[],_,_=>rfl
 |x::xs,ts,l=>by simp[sA,PY];rw[l x ai,Ce (λy q=>l y (by simp[q]))]
theorem tD {w q:St} {ty:Nat->TypeId} {l:List (Nat×Operand)} (z:∀x∈l.map (·.2),∀t,bI P t w x=bI P t q x):partsOf P ty w l=partsOf P ty q l:=by induction l with
 |nil=>rfl
 |cons p l B=>simp_all[partsOf]
theorem A9 {z w:St} {b:Bool} {q:AV} {l:List Operand} (B:∀x∈l,∀t,bI P t z x=bI P t w x):mP P z b q l=mP P w b q l:=by induction l generalizing q with
 |nil=>rfl
 |cons x l D=>simp_all[mP]
def TW {B l:St} {c:Call} (q:∀x∈c.args.toList,Ol P B l x) (G:∀x∈c.args.toList,∀ty,bI P ty B x=bI P ty l x):Bb P c B=Bb P c l:=by
 obtain⟨H,⟨args⟩,tys⟩:=c;unfold Bb;simp at G q⊢;split
 .rename_i x;have z:=G x ai;have w:=q x ai;split
  .rename_i t _;rw[<-z t];cases F:bI P t _ x with
   |none=>simp
   |some I=>have:=Tq (w t _ F);have D:=KJ (w t _ F);grind
  .rfl
 .grind[A9]
 .grind[A9]
 .rfl
def DB {st st':St} {x:Option Operand} (l:∀y,x=some y->∀ty,bI P ty st y=bI P ty st' y):nV P st x=nV P st' x:=by cases x with
 |none=>rfl
 |some y=>simp[nV,l y _]
def WB {D w:St} {o:Oper} (B:TK o.op=false->∀x∈o.op.operands.toList,Ol P D w x) (q:∀x∈o.op.operands.toList,∀ty,bI P ty D x=bI P ty w x):fB P o D=fB P o w:=by obtain⟨dst,op,type,pos,after,guard⟩:=o;simp only at q;cases op with
 |move x=>simp_all[Op.operands,fB]
 |assign x=>simp_all[Op.operands,fB]
 |pick c a b=>simp_all[Op.operands,fB]
 |binOp op t x y t'=>simp_all[Op.operands,fB]
 |unOp op t x=>simp_all[Op.operands,fB]
 |convert s d x=>
  have z:=q x (by simp[Op.operands]);have F:=B rfl x (by simp[Op.operands]) s;have he:(bI P s D x).bind (elems D)=(bI P s w x).bind (elems w):=by rw[<-z s];cases G:bI P s D x with
   |none=>rfl
   |some K=>exact xy (F _ G)
  simp only[fB,z 0,he]
 |nilCheck x=>simp_all[Op.operands,fB]
 |fieldAddr t x f=>simp_all[Op.operands,fB]
 |field t x f=>simp_all[Op.operands,fB]
 |indexAddr t x i=>
  have z:=q x (by simp[Op.operands]);have R:=q i (by simp[Op.operands]);have F:=B rfl x (by simp[Op.operands]) t;have hsl:xB P D t x i=xB P w t x i:=by unfold xB;rw[<-z t,<-R 0];cases G:bI P t D x with
   |none=>simp
   |some K=>have H:=F _ G;grind[isSlice,id,bI,SV.ids]
  simp_all[D2,fB]
 |index t x i=>simp_all[Op.operands,fB]
 |load t x=>have z:=q x (by simp[Op.operands]);have F:=B rfl x (by simp[Op.operands]) 0;simp only[fB];rw[<-z 0];cases G:bI P 0 D x with
  |none=>rfl
  |some K=>have H:=F _ G;grind[id,SV.ids]
 |lookup t x k ok=>
  have z:=q x (by simp[Op.operands]);have hk:=q k (by simp[Op.operands]);have F:=B rfl x (by simp[Op.operands]) t;have O:(bI P t D x).bind (maps D)=(bI P t w x).bind (maps w):=by rw[<-z t];cases G:bI P t D x with
   |none=>rfl
   |some K=>exact KJ (F _ G)
  simp only[fB,O,hk]
 |extract x i=>simp_all[Op.operands,fB]
 |slice t x V U mx=>cases mx with
  |some m=>simp only[fB,XA];cases V with
   |some l=>rfl
   |none=>cases U with
    |none=>rfl
    |some y=>have z:=q x (by simp[Op.operands]);have R:=q y (by simp[Op.operands]);have O:=q m (by simp[Op.operands]);have F:=B rfl x (by simp[Op.operands]) t;simp only;rw[<-R 0,<-O 0,<-z t];cases G:bI P t D x with
     |none=>rfl
     |some K=>have H:=F _ G;grind[id,SV.ids]
  |none=>have z:=q x (by simp[Op.operands]);have hl:=DB (P:=P) (st:=D) (st':=w) (x:=V) (λy e=>by simp_all[Op.operands]);have hh:=DB (P:=P) (st:=D) (st':=w) (x:=U) (λy e=>by simp_all[Op.operands]);have F:=B rfl x (by simp[Op.operands]) t;simp[fB];rw[<-z t];cases G:bI P t _ x with
   |none=>simp
   |some K=>have H:=F _ G;grind[SV.ids]
 |build t S=>grind[tD,Op.operands,fB,zZ]
 |call c=>
  have I:∀x∈c.args.toList,x∈(Op.call c).operands.toList:=λx z=>by simp_all[Op.operands,Call.operands]
  have:=TW (λx z=>B rfl x (I x z)) (λx z=>q x (I x z));assumption
 |_=>simp[fB]
def vJ {D:St}:∀{l:List Operand} {x:Operand} {ty:TypeId} {B:SV} {id:Nat},x∈l->bI P ty D x=some B->id∈B.ids->id∈Nx D l:=by intro l;induction l with
 |nil=>simp
 |cons y l F=>
  intro x ty B id z w q;rcases aN.1 z with rfl|z
  .cases x with
   |tmp t=>simp_all[bI,Nx]
   |const v=>simp[bI] at w;cases G:ofConst P ty v with
    |none=>simp_all
    |some y=>grind[SV.ids]
   |func f=>grind[bI,SV.ids]
   |global g=>simp[bI] at w
  .have:=F z w q;cases y with
   |tmp t=>simp_all[Nx]
   |_=>assumption
def x8 (q:St):∀(n:Nat) (l done:List Nat),∀id∈done,id∈gB q n l done
 |0,l,done,id,h=>by assumption
 |n+1,[],done,id,h=>by assumption
 |n+1,x::l,done,id,h=>by simp only[gB];cases done.contains x with
  |true=>exact x8 _ n _ _ _ h
  |false=>exact x8 _ n _ _ _ (by simp[h])
def oV {w q:St}:∀(n:Nat) (l done:List Nat),(∀id∈gB w n l done,w.ob id=q.ob id)->gB w n l done=gB q n l done
 |0,l,done,h=>by rfl
 |n+1,[],done,h=>by rfl
 |n+1,x::l,done,h=>by simp only[gB] at h⊢;cases z:done.contains x with
  |true=>rw[z] at h;exact oV n _ _ h
  |false=>
   rw[z] at h;have D :=h x (x8 _ n _ _ x ai);have B:CM w x=CM q x:=by simp[CM,D]
   rw[<-B];exact oV n _ _ h
def tB {z w:St} {ids:List Nat} {B:Nat->Nat}:∀{l:List (Nat×Nat)},(∀p∈l,z.ob p.1=w.ob p.1)->jO z ids B l=jO w ids B l
 |[],_=>rfl
 |p::l,h=>by obtain⟨id,F⟩:=p;simp[jO];rw[h (id,F) ai,tB (λq D=>h q (by simp[D]))]
def zX {z l:St}:∀{xs:List Operand} {q:List TypeId},(∀x∈xs,∀ty,bI P ty z x=bI P ty l x)->uv P h z xs q=uv P h l xs q
 |[],q,_=>rfl
 |x::xs,q,w=>by simp[uv,aaZ];rw[w x ai,zX (λy B=>w y (by simp[B]))]
def Ox {st st':St} {c:Call} {f:Operand} (D:bI P 0 st f=bI P 0 st' f) (B:∀x∈c.args.toList,∀ty,bI P ty st x=bI P ty st' x)
  (l:∀g args,uC P h st c f=some (g,args)->∀id∈jA st args,st.ob id=st'.ob id):s9 P h cB st c f=s9 P h cB st' c f:=by
 have e1:uC P h st c f=uC P h st' c f:=by unfold uC;rw[D,zX B]
 unfold s9;rw[<-e1];cases G:uC P h _ c f with
 |none=>rfl
 |some p=>
  obtain⟨g,args⟩:=p;simp only;have q:=l g _ G;have w:jA _ _=jA _ _:=oV _ _ _ q;rw[<-w];have z:jO _ (jA st args) (iD (me (jA st args))) (me (jA st args))=jO _ _ _ _:=
   tB (λp F=>q _ (by
    have:p.1∈(me _).map _:=aD.2 ⟨p,F,rfl⟩
    simp_all[me,tR]))
  rw[z]
def Vv {D q:St} {o:Oper} (H:TK o.op=false->∀id∈DA D o,D.ob id=q.ob id) (R:∀id∈Lr P h o D,D.ob id=q.ob id) (G:∀t∈slotsOf o,D.env t=q.env t):dW P h cB o D=dW P h cB o q:=by
 have K:TK o.op=false->∀x∈o.op.operands.toList,Ol P D q x:=λhn x F ty sv ho id U=>H hn id (vJ F ho U)
 have z:∀x∈o.op.operands.toList,∀ty,bI P ty D x=bI P ty q x:=λx F ty=>jd (λt e=>G t (by
  subst e
  exact e8.2 ⟨.tmp t,F,rfl⟩)) ty
 have I:=WB (P:=P) (o:=o) K z;obtain⟨S,op,type,pos,after,guard⟩:=o;simp only at z;cases op with
 |buildSlice t len O=>
  have hp:∀ty,partsOf P ty D O.toList=partsOf P ty q O.toList:=λty=>tD (λx F=>z x (by simpa[Op.operands] using F))
  simp[dW,kT,hp]
 |call c=>obtain⟨cal,⟨args⟩,⟨tys⟩⟩:=c;cases cal with
  |value f=>
   have w:∀x∈args,x∈(Op.call { callee:=Callee.value f,args:=⟨args⟩,argTypes:=⟨tys⟩ }).operands.toList:=λx F=>by simp_all[Op.operands,Call.operands,iT,bu]
   have hf:=z f (by simp[Op.operands,Call.operands]);have ha:=MH (P:=P) (st:=D) (st':=q) (xs:=args) (ts:=tys) (λx F=>K rfl x (w x F)) (λx F=>z x (w x F));have hr:args.any (kV D)=args.any (kV q):=by
    have key:∀x∈args,kV D x=kV q x:=λx F=>by cases x with
     |tmp t=>have:=z (.tmp t) (w _ F) 0;simp_all[bI,kV]
     |_=>rfl
    clear ha w z I G K H R;induction args with
    |nil=>rfl
    |cons x xs ih=>simp_all
   have V:args.any (λx=>(pE h D x).isSome)=args.any (λx=>(pE h q x).isSome):=by
    have key:∀x∈args,pE h D x=pE h q x:=λx F=>by cases x with
     |tmp t=>have:=z (.tmp t) (w _ F) 0;simp_all[bI,pE]
     |_=>rfl
    clear ha w z I G hr K H R;induction args with
    |nil=>rfl
    |cons x xs ih=>simp_all
   have hwide:wide D { callee:=Callee.value f,args:=⟨args⟩,argTypes:=⟨tys⟩ } f=wide q { callee:=Callee.value f,args:=⟨args⟩,argTypes:=⟨tys⟩ } f:=by
    have kf:VJ D f=VJ q f:=by cases f with
     |tmp t=>simp_all[bI,VJ]
     |_=>rfl
    have key:∀x∈args,Fg D x=Fg q x:=λx F=>by cases x with
     |tmp t=>have:=z (.tmp t) (w _ F) 0;simp_all[bI,Fg]
     |_=>rfl
    have kk:args.any (Fg D)=args.any (Fg q):=by clear ha w z I G hr K H V R;induction args with
     |nil=>rfl
     |cons x xs ih=>simp_all
    simp only[wide,kf,kk]
   cases how:S.any h.owns.contains with
   |true=>simp[dW,how]
   |false=>
   cases hst:S.any h.stay.contains with
   |false=>simp_all[dW]
   |true=>
    have hc:=Ox (P:=P) (h:=h) (cB:=cB) (st:=D) (st':=q) (c:={ callee:=Callee.value f,args:=⟨args⟩,argTypes:=⟨tys⟩ }) (f:=f) (hf 0) (λx F=>z x (w x F)) (λg as hg id U=>R id (by simp_all[Lr,au]));simp_all[dW]
  |_=>assumption
 |makeFunc f first B=>cases f with
  |func g=>
   have hc:uw D B.toList=uw q B.toList:=by
    have key:∀x∈B.toList,∀ty,bI P ty D x=bI P ty q x:=λx F=>z x (by simp_all[Op.operands,iT,bu])
    clear z I G K H;generalize B.toList=l at key;induction l with
    |nil=>rfl
    |cons x xs ih=>cases x with
     |tmp t=>simp_all[bI,uw]
     |_=>rfl
   have VB:qL D B.toList=qL q B.toList:=by
    have key:∀x∈B.toList,∀ty,bI P _ _ x=bI P _ _ x:=λx F=>z x (by simp_all[Op.operands])
    generalize B.toList=l at key;induction l with
    |nil=>rfl
    |cons x xs ih=>cases x with
     |tmp t=>simp_all[bI,qL]
     |_=>rfl
   have hc3:qL D first.toList=qL q first.toList:=by
    have key:∀x∈first.toList,∀ty,bI P _ _ x=bI P _ _ x:=λx F=>z x (by simp_all[Op.operands])
    generalize first.toList=l at key
    induction l with
    |nil=>rfl
    |cons x xs ih=>cases x with
     |tmp t=>simp_all[bI,qL]
     |_=>rfl
   simp[dW,hc,VB,hc3]
  |_=>rfl
 |assign x=>simp[dW,I]
 |lookup t x k ok=>simp[dW,I]
 |build t ps=>grind[tD,Op.operands,dW,zZ]
 |load t x=>simp[dW,I]
 |_=>assumption
def AT {z q:St} {l:Array Oper} {o:Oper} (w:∀t∈fu l o,z.env t=q.env t):qp l o z=qp l o q:=by grind[qp,fu]
theorem ZW {a b:List Nat} {x:Nat} (l:x∈a) (q:x∈b):meets a b=true:=by simp[meets];grind[Nat.beq_refl]
def MU {t:TypeId} {s D:St} {F w:SV} {id:Nat} (l:storeAt P t s F w=some D) (z:targetId F=some id):
  D.env=s.env/\(∀j,j≠id->D.ob j=s.ob j)/\∀x:St,x.ob id=s.ob id->(∀j∈w.ids,x.ob j=s.ob j)->storeAt P t x F w=some { x with ob:=put x.ob id (D.ob id) }:=by
 have H:∀x:St,(∀j∈w.ids,x.ob j=s.ob j)->ot x w=ot s w:=λx B=>by cases w with
  |row j=>simp_all[ot,SV.ids]
  |pv v=>cases v<;>rfl
  |_=>rfl
 cases F with
 |ptr i G=>
  simp[targetId,bg] at z;subst z;simp[storeAt] at l;split at l
  .split at l
   .split at l
    .injection l with l;subst l;refine⟨rfl,λj q=>bS _ _ (λe=>q e.symm),λx B _=> ?_⟩;simp_all[storeAt,cW]
    simp_all
   .split at l
    .injection l with l;subst l;refine⟨rfl,λj q=>bS _ _ (λe=>q e.symm),λx B _=> ?_⟩;simp_all[storeAt,cW]
    simp_all
   .split at l
    .injection l with l;subst l;refine⟨rfl,λj q=>bS _ _ (λe=>q e.symm),λx B I=> ?_⟩;simp[storeAt,cW];simp_all
    simp_all
  simp_all
 |rp i K k G=>
  simp[targetId,bg] at z;subst z;simp[storeAt] at l;split at l
  .split at l
   .split at l
    .injection l with l;subst l;refine⟨rfl,λj q=>bS _ _ (λe=>q e.symm),λx B _=> ?_⟩;simp_all[storeAt,cW]
    simp_all
   simp_all
  simp_all
 |_=>simp[targetId] at z
theorem Ap {id:Nat} {v:SV} (h:v.mentions id=true):id∈v.ids:=by
 have l:∀z:List _,z.any (oF.mentions id)=true->id∈z.filterMap (fun
  | .p j| .r j=>some j
  | .v _=>none):=λz H=>by
  grind[oF.mentions,beq_iff]
 induction v with
 |two s b B w=>
  rcases Bool.or_eq_true_iff.1 h with h|h
  .exact cM _ (B h)
  .exact gz _ (w h)
 |three s b c B w D=>
  rcases Bool.or_eq_true_iff.1 h with h|h
  .rcases Bool.or_eq_true_iff.1 h with h|h
   .exact cM _ (cM _ (B h))
   .exact cM _ (gz _ (w h))
  .exact gz _ (D h)
 |ptr j F=>simp[SV.ids,cz];exact(beq_iff.1 h).symm
 |row j=>simp[SV.ids,cz];exact(beq_iff.1 h).symm
 |rp j G i F=>simp[SV.ids,cz];exact(beq_iff.1 h).symm
 |sub j G K I=>simp[SV.ids,cz];exact(beq_iff.1 h).symm
 |cl f z=>exact l _ h
 |ag z=>exact l _ h
 |aq j q=>simp[SV.mentions] at h;simp[SV.ids];grind[beq_iff]
 |_=>simp[SV.mentions] at h
theorem St.same {x y:St} (l:∀t,x.env t=y.env t) (q:∀t,x.ob t=y.ob t):x=y:=by obtain⟨z,B⟩:=x;have e1 :=funext l;have w :=funext q;simp_all
def TC (p:Nat×Option AV) (v:SV):SV:=match p.2 with
 |none=>v.dG p.1
 |some a=>SV.dr p.1 a v
def jU (l:List (Nat×Option AV)) (v:SV):SV:=l.foldl (λv p=>TC p v) v
def Ob.An (g:SV->SV):Ob->Ob
 | .box t cells=> .box t (cells.map g)
 |o=>o
def fM (f:ga) (q:Nat->Option SV) (w:Nat->Option Ob) (l:List (Nat×Option AV)) (x:St):St:=
 {env:=λt=>if t∈f.ws then q t else(x.env t).map (jU l),ob:=λj=>if j∈f.wo then w j else(x.ob j).map (Ob.An (jU l)) }
def KN (p:Nat×Option AV) (v:SV):∃c:SV,(∀id,c.mentions id=false)/\TC p v=(bif v.mentions p.1 then c else v)/\((∀j,v≠ .row j/\v≠ .ag [.r j])->c= .any):=by obtain⟨id,x⟩:=p;cases x with
 |none=>exact⟨_,λ_=>rfl,rfl,λ_=>rfl⟩
 |some a=>cases v with
  |row j=>exact⟨_,λ_=>rfl,rfl,λh=>absurd rfl (h j).1⟩
  |ag l=>
   by_cases q:∃j,l=[.r j]
   .obtain⟨j,rfl⟩:=q;exact⟨.pv (.agg [a]),λ_=>rfl,by simp[TC,SV.dr,SV.mentions,oF.mentions],λh=>absurd rfl (h j).2⟩
   .have e:TC (id,some a) (.ag l)=(SV.ag l).dG id:=by
     show(SV.ag l).dr id a=_;unfold SV.dr;split
     .rename_i e;cases e
     .rename_i j e;cases e;exact absurd ⟨j,rfl⟩ q
     .rfl
    exact⟨_,λ_=>rfl,e,λ_=>rfl⟩
  |_=>exact⟨_,λ_=>rfl,rfl,λ_=>rfl⟩
theorem PA {p:Nat×Option AV} {v:SV} (h:v.mentions p.1=false):TC p v=v:=by obtain⟨c,_,e,_⟩:=KN p v;simp_all
def mv1_sub {p:Nat×Option AV} {v:SV} {j:Nat} (h:(TC p v).mentions j=true):v.mentions j=true:=by obtain⟨c,l,e,_⟩:=KN p v;grind
theorem adI {p q:Nat×Option AV} (l:p.1≠q.1) (v:SV):TC p (TC q v)=TC q (TC p v):=by obtain⟨c,G,e,k⟩:=KN p v;obtain⟨c',B,F,k'⟩:=KN q v;cases z:v.mentions p.1 with
 |false=>cases w:v.mentions q.1 with
  |false=>simp_all
  |true=>simp_all[PA]
 |true=>rw[e,z,au,PA (G _)];cases w:v.mentions q.1 with
  |false=>simp_all
  |true=>
   rw[F,w,au,PA (B _)]
   have H:∀j,v≠ .row j/\v≠ .ag [.r j]:=λj=>⟨λD=>by
    subst D;exact l ((beq_iff.1 z).symm.trans (beq_iff.1 w)),λD=>by
    subst D;simp only[SV.mentions,wX,List.any_nil,rJ,oF.mentions] at z w
    exact l ((beq_iff.1 z).symm.trans (beq_iff.1 w))⟩
   simp_all
def yT:∀{l:List (Nat×Option AV)} {v:SV},(∀p∈l,v.mentions p.1=false)->jU l v=v
 |[],v,_=>rfl
 |p::l,v,h=>by show jU l (TC p v)=v;rw[PA (h p ai)];exact yT λq w=>h q (by simp[w])
theorem GJ:∀{l:List (Nat×Option AV)} {v:SV} {j:Nat},(jU l v).mentions j=true->v.mentions j=true
 |[],v,j,h=>h
 |p::l,v,j,h=>mv1_sub (GJ h)
def ZX {l:List (Nat×Option AV)} {p:Nat×Option AV}:∀{v:SV},(∀q∈l,p.1≠q.1)->jU l (TC p v)=TC p (jU l v):=by induction l with
 |nil=>intro v _;rfl
 |cons q l w=>intro v h;show jU l _=TC p (jU l _);grind[adI]
theorem D6:∀{l m:List (Nat×Option AV)} (v:SV),(∀p∈l,∀q∈m,p.1≠q.1)->jU l (jU m v)=jU m (jU l v)
 |[],m,v,_=>rfl
 |p::l,m,v,h=>by show jU l (TC p _)=jU m (jU l _);rw[<-ZX (h p ai),D6 _ λr w=>h r (by simp[w])]
def mapS_id {g:SV->SV} {o:Ob} (h:∀v,(∀id,v.mentions id=true->o.mentions id=true)->g v=v):o.An g=o:=by cases o with
 |box t cells=>simp[Ob.An];congr 1;refine(gP λc l=>h c λid q=> ?_).trans (lJ _);grind[Ob.mentions]
 |_=>rfl
theorem wz {l:List (Nat×Option AV)} {o:Ob} (h:∀p∈l,o.mentions p.1=false):o.An (jU l)=o:=
 mapS_id λv w=>yT λp q=>by grind
def adx {l:List (Nat×Option AV)} {o:Ob} {j:Nat} (h:(o.An (jU l)).mentions j=true):o.mentions j=true:=by cases o with
 |box t cells=>grind[Ob.An,Ob.mentions,GJ]
 |_=>exact h
theorem ZV {l m:List (Nat×Option AV)} (o:Ob) (h:∀p∈l,∀q∈m,p.1≠q.1):(o.An (jU m)).An (jU l)=(o.An (jU l)).An (jU m):=by cases o with
 |box t cells=>simp[Ob.An,eG];grind[List.map_congr_left,D6]
 |_=>rfl
theorem B1 (o:Ob):o.An (jU [])=o:=wz λp l=>by cases l
structure JD (sf:St->Option St) (s:St) (f:ga) (ev:Nat->Option SV) (ov:Nat->Option Ob) (l:List (Nat×Option AV)):Prop where
 keys:∀p∈l,p.1∈f.mv
 run:∀x:St,(∀t∈f.rs,x.env t=s.env t)->(∀j∈f.ro,x.ob j=s.ob j)->(∀j∈f.rl,(x.ob j).map Ob.ue=(s.ob j).map Ob.ue)->sf x=some (fM f ev ov l x)
 len:∀j∈f.wo,f.kp j=true->(ov j).map Ob.ue=(s.ob j).map Ob.ue
 adK:∀t∈f.ws,∀v id,ev t=some v->v.mentions id=true->id∈f.men
 adL:∀j∈f.wo,∀o id,ov j=some o->o.mentions id=true->id∈f.men
 mvm:∀id∈f.mv,id∈f.men
structure RI (s:St) (f:ga):Prop where
 inE:∀t∈f.rs,∀v id,s.env t=some v->v.mentions id=true->id∈f.men
 inO:∀j∈f.ro,∀o id,s.ob j=some o->o.mentions id=true->id∈f.men
 we:∀t v id,s.env t=some v->id∈f.mv->v.mentions id=true->f.we t=true
 oe:∀j o id,s.ob j=some o->id∈f.mv->o.mentions id=true->f.oe j=true
def ji {a b:List Nat} {x y:Nat} (h:meets a b=false) (l:x∈a) (q:y∈b):x≠y:=λe=>by grind[ZW]
def N0 (g:SV->SV) (o:Ob):(o.An g).ue=o.ue:=by cases o<;>rfl
def skN {f:ga} {q:Nat->Option SV} {w:Nat->Option Ob} {l:List (Nat×Option AV)} {x:St} {j:Nat} (h:¬j∈f.wo):((fM f q w l x).ob j).map Ob.ue=(x.ob j).map Ob.ue:=by simp[fM,az h];cases x.ob j with
 |none=>rfl
 |some o=>simp[N0]
def skO {f:ga} {w:Nat->Option SV} {q:Nat->Option Ob} {l:List (Nat×Option AV)} {x:St} {j:Nat} (h:j∈f.wo):(fM f w q l x).ob j=q j:=by simp[fM,aB h]
def rl_kp {r w:List Nat} {k:Nat->Bool} {j:Nat} (h:(r.any λj=>w.contains j&& !(k j))=false) (l:j∈r) (q:j∈w):k j=true:=by simp_all
def swapFx {sp si:St->Option St} {s:St} {B G:ga} {U R:Nat->Option SV} {op S:Nat->Option Ob} {lp li:List (Nat×Option AV)} (K:JD sp s B U op lp) (H:RI s B) (I:JD si (fM B U op lp s) G R S li) (hc:B.conflict G=false):
  JD si s G R S li/\JD sp (fM G R S li s) B U op lp/\RI (fM G R S li s) B/\fM B U op lp (fM G R S li s)=fM G R S li (fM B U op lp s):=by
 unfold ga.conflict at hc;simp only[fT] at hc;obtain⟨⟨⟨⟨⟨⟨⟨⟨⟨⟨⟨⟨⟨_,_⟩,d1⟩,d2⟩,d3⟩,d4⟩,d5⟩,d6⟩,d7⟩,d8⟩,d9⟩,d10⟩,d11⟩,d12⟩:=hc;have w9:∀t∈G.rs,B.we t=false:=λt l=>by simp_all
 have w10:∀t∈G.ro,B.oe t=false:=λt l=>by simp_all
 have aE:∀t∈G.rs,(fM B U op lp s).env t=s.env t:=λt l=>by simp only[fM];rw[az λh=>ji d1 h l rfl];cases e:s.env t with
  |none=>rfl
  |some v=>simp only[e9];rw[yT λp F=> ?_];cases w:v.mentions p.1 with
   |false=>rfl
   |true=>have:=H.we t v p.1 e (K.keys p F) w;simp_all
 have aO:∀t∈G.ro,(fM B U op lp s).ob t=s.ob t:=λt l=>by simp only[fM];rw[az λh=>ji d4 h l rfl];cases e:s.ob t with
  |none=>rfl
  |some v=>simp only[e9];rw[wz λp F=> ?_];cases w:v.mentions p.1 with
   |false=>rfl
   |true=>have:=H.oe t v p.1 e (K.keys p F) w;simp_all
 have bE:∀t∈B.rs,(fM G R S li s).env t=s.env t:=λt l=>by simp only[fM];rw[az λh=>ji d2 l h rfl];cases e:s.env t with
  |none=>rfl
  |some v=>simp only[e9];rw[yT λp F=> ?_];cases w:v.mentions p.1 with
   |false=>rfl
   |true=>exact absurd rfl (ji d8 (I.keys p F) (H.inE t l v p.1 e w))
 have bO:∀t∈B.ro,(fM G R S li s).ob t=s.ob t:=λt l=>by simp only[fM];rw[az λh=>ji d5 l h rfl];cases e:s.ob t with
  |none=>rfl
  |some v=>simp only[e9];rw[wz λp F=> ?_];cases w:v.mentions p.1 with
   |false=>rfl
   |true=>exact absurd rfl (ji d8 (I.keys p F) (H.inO t l v p.1 e w))
 have nO:∀t∈B.wo,¬t∈G.wo:=λt D z=>ji d6 D z rfl
 have aL:∀t∈G.rl,((fM _ U op lp s).ob t).map _=(s.ob t).map _:=λt l=>by
  by_cases h:t∈B.wo
  .rw[skO h];exact K.len t h (rl_kp d11 l h)
  .exact skN h
 have bK :=λt l hk=>(I.len t l hk).trans (skN λh=>nO t h l)
 have bL:∀t∈B.rl,((fM _ R S li s).ob t).map Ob.ue=(s.ob t).map Ob.ue:=λt l=>by
  by_cases h:t∈G.wo
  .rw[skO h];simp_all
  .exact skN h
 have hk :=λp F q V=>ji d7 (K.keys p F) (I.mvm _ (I.keys q V))
 refine⟨⟨I.keys,λx D z h3=>I.run x (λt l=>(D t l).trans (aE t l).symm) (λt l=>(z t l).trans (aO t l).symm) (λt l=>(h3 t l).trans (aL t l).symm),bK,I.adK,I.adL,I.mvm⟩,
  ⟨K.keys,λx D z h3=>K.run x (λt l=>(D t l).trans (bE t l)) (λt l=>(z t l).trans (bO t l)) (λt l=>(h3 t l).trans (bL t l)),λt l hk=>(K.len t l hk).trans (skN (nO t l)).symm,K.adK,K.adL,K.mvm⟩,
  ⟨λt l v id e w=>H.inE t l v _ ((bE t l).symm.trans e) w,λt l v id e w=>H.inO t l v _ ((bO t l).symm.trans e) w,λt v id e O w=> ?_,λt v id e O w=> ?_⟩,?_⟩
 .simp[fM] at e;split at e
  .rename_i l;exact absurd rfl (ji d7 O (I.adK t l v _ e w))
  .cases e0:s.env t with
   |none=>simp_all
   |some v0=>rw[e0] at e;simp at e;subst e;exact H.we t _ _ e0 O (GJ w)
 .simp[fM] at e;split at e
  .rename_i l;exact absurd rfl (ji d7 O (I.adL t l v _ e w))
  .cases e0:s.ob t with
   |none=>simp_all
   |some v0=>rw[e0] at e;simp at e;subst e;exact H.oe t _ _ e0 O (adx w)
 .simp[fM,St.mk.injEq];constructor
  .funext t;by_cases D:t∈B.ws
   .rw[aB D,az λz=>ji d3 D z rfl];rw[aB D];cases e:U t with
    |none=>rfl
    |some v=>simp;rw[yT λq V=> ?_];cases w:v.mentions _ with
     |false=>rfl
     |true=>exact absurd rfl (ji d8 (I.keys q V) (K.adK t D v _ e w))
   .rw[az D];by_cases z:t∈G.ws
    .rw[aB z,aB z];cases e:R t with
     |none=>rfl
     |some v=>simp;rw[yT λq V=> ?_];cases w:v.mentions _ with
      |false=>rfl
      |true=>exact absurd rfl (ji d7 (K.keys q V) (I.adK t z v _ e w))
    .rw[az z,az z,az D];cases s.env t with
     |none=>rfl
     |some v=>grind[D6]
  .funext t;by_cases D:t∈B.wo
   .rw[aB D,az λz=>ji d6 D z rfl];rw[aB D];cases e:op t with
    |none=>rfl
    |some v=>simp;rw[wz λq V=> ?_];cases w:v.mentions _ with
     |false=>rfl
     |true=>exact absurd rfl (ji d8 (I.keys q V) (K.adL t D v _ e w))
   .rw[az D];by_cases z:t∈G.wo
    .rw[aB z,aB z];cases e:S t with
     |none=>rfl
     |some v=>simp;rw[wz λq V=> ?_];cases w:v.mentions _ with
      |false=>rfl
      |true=>exact absurd rfl (ji d7 (K.keys q V) (I.adL t z v _ e w))
    .rw[az z,az z,az D];cases s.ob t with
     |none=>rfl
     |some v=>grind[ZV]
def Oj (w:Nat->St->Option St):List (Nat×ga)->St->St->Prop
 |[],s,q=>s=q
 |p::l,s,q=>∃z,w p.1 s=some z/\(p.2.all=false->∃B D m,JD (w p.1) s p.2 B D m/\RI s p.2)/\Oj w l z q
def abk {a b:ga} (h:a.conflict b=false):a.all=false/\b.all=false:=by simp_all[ga.conflict]
def Oj.front {z:Nat->St->Option St} {i:Nat} {f:ga} {post:List (Nat×ga)} {V:St}:∀(pre:List (Nat×ga)) (s:St),Oj z (pre++(i,f)::post) s V->(∀p∈pre,p.2.conflict f=false)->
  ∃w,z i s=some w/\Oj z (pre++post) w V/\(f.all=false->∃ev ov m,JD (z i) s f ev ov m)
 |[],s,⟨U,B,G,D⟩,_=>⟨U,B,D,λH=>by simp_all⟩
 |p::pre,s,⟨U,B,G,D⟩,I=>by
  have l:=I p ai;obtain⟨H,hb⟩:=abk l;obtain⟨ep,op,lp,O,F⟩:=G H;obtain⟨w,k1,k2,k3⟩:=Oj.front _ _ D λq hq=>I q (by simp[hq])
  obtain⟨ei,oi,li,K⟩:=k3 hb;have e1 :=by have:=O.run s (λ_ _=>rfl) (λ_ _=>rfl) (λ_ _=>rfl);rw[B] at this;injection this
  subst e1;obtain⟨R,S,r3,r4⟩:=swapFx O F K l;have e2 :=by have:=K.run _ (λ_ _=>rfl) (λ_ _=>rfl) (λ_ _=>rfl);rw[k1] at this;injection this
  refine⟨_,R.run s (λ_ _=>rfl) (λ_ _=>rfl) (λ_ _=>rfl),⟨w,?_,λ_=>⟨ep,op,lp,S,r3⟩,k2⟩,λ_=>⟨ei,oi,li,R⟩⟩;rw[S.run _ (λ_ _=>rfl) (λ_ _=>rfl) (λ_ _=>rfl),r4,e2]
def qP (P:Program) (h:Hint) (cB:eE) (l:Array Oper) (k:Nat) (q:St):Option St:=
 match l[k]? with
 |some o=>match qp l o q with
  |some true=>step P h cB o q
  |some false=>some (q.set o.dst .undef)
  |none=>none
 |none=>none
def any_ids {id:Nat} {cells:List SV} (h:cells.any (SV.mentions id)=true):id∈cells.flatMap SV.ids:=by grind[Ap]
theorem adT {id:Nat} {o:Ob} (h:o.mentions id=true):id∈o.ids:=by cases o with
 |box t cells=>exact any_ids h
 |_=>cases h
def OQ {G:St->Option St} {s D:St} {f:ga} {l:List (Nat×Option AV)} (K:∀p∈l,p.1∈f.mv) (B:∀x:St,(∀t∈f.rs,x.env t=s.env t)->(∀j∈f.ro,x.ob j=s.ob j)->(∀j∈f.rl,(x.ob j).map Ob.ue=(s.ob j).map Ob.ue)->G x=some (fM f D.env D.ob l x))
  (w:∀j∈f.wo,f.kp j=true->(D.ob j).map Ob.ue=(s.ob j).map Ob.ue):
  ∃H O m,JD G s (f.fill s D) H O m/\RI s (f.fill s D):=by
 have mem:∀{id:Nat} {g:Nat->List _} {l:List _} {t:Nat},t∈l->id∈g t->id∈l.flatMap g:=λF h=>List.mem_flatMap.2 ⟨_,F,h⟩
 refine⟨_,_,l,⟨K,B,w,λt F v id e z=> ?_,λj I o id e z=> ?_,λid q=> ?_⟩,⟨λt F v id e z=> ?_,λj I o id e z=> ?_,λt v id e q z=> ?_,λj o id e q z=> ?_⟩⟩
 .grind[ga.fill,OM,Ap]
 .grind[ga.fill,Yn,adT]
 .simp_all[ga.fill]
 .grind[ga.fill,OM,Ap]
 .grind[ga.fill,Yn,adT]
 .grind[ga.fill]
 grind[ga.fill]
theorem ig {l:Type} {x:Option l} {g:l->l} (h:∀v,g v=v):x.map g=x:=by cases x<;>simp[h]
def aec {f:ga} {s x:St} {d:Option Nat} {v:SV} (l:f.ws=d.toList) (q:f.wo=[]):x.set d v=fM f (s.set d v).env (s.set d v).ob [] x:=by
 refine St.same (λt=> ?_) (λj=> ?_)
 .simp only[fM,l];cases d with
  |none=>exact(ig λ_=>rfl).symm
  |some d=>
   by_cases e:d=t
   .simp_all[St.set,cW]
   .have:¬t∈(some d).toList:=by simp;exact λh=>e h.symm
    rw[az this];simp[St.set,bS _ _ e];exact(ig λ_=>rfl).symm
 .simp[fM,q];rw[ig B1];cases d<;>rfl
def GK {f:ga} {s x:St} {d id:Nat} {o:Ob} {v:SV} (l:f.ws=[d]) (q:f.wo=[id]):(x.new id o).set (some d) v=fM f ((s.new id o).set (some d) v).env ((s.new id o).set (some d) v).ob [(id,none)] x:=by
 refine St.same (λt=> ?_) (λj=> ?_)
 .simp[fM,l,cz];by_cases e:t=d
  .simp_all[St.set,cW]
  .rw[az e];simp[St.set,bS _ _ (λh=>e h.symm)];rfl
 .simp[fM,q,cz];by_cases e:j=id
  .simp_all[St.set,St.new,cW]
  .rw[az e];simp[St.set,St.new,St.dG,bS _ _ (λh=>e h.symm)];rfl
def skip_ok {l:Array Oper} {k:Nat} {o:Oper} {s:St} (B:l[k]? =some o) (D:qp l o s=some false):
  ∃q F m,JD (qP P h cB l k) s ((tN l o).fill s (s.set o.dst .undef)) q F m/\RI s ((tN l o).fill s (s.set o.dst .undef)):=
 OQ (l:=[]) ai (λx w _ _=>by
  simp[qP,B];rw[AT w,D]
  rw[aec (f:=tN _ o) rfl rfl]) λj z _=>by cases z
def jP (z:St->Option St) (s:St) (f:ga) (w:Nat->Option SV) (q:Nat->Option Ob) (l:List (Nat×Option AV)):Prop:=
 (∀p∈l,p.1∈f.mv)/\(∀j∈f.wo,f.kp j=true->(q j).map Ob.ue=(s.ob j).map Ob.ue)/\
  ∀x:St,(∀t∈f.rs,x.env t=s.env t)->(∀j∈f.ro,x.ob j=s.ob j)->(∀j∈f.rl,(x.ob j).map Ob.ue=(s.ob j).map Ob.ue)->z x=some (fM f w q l x)
def jP.imp {H:St->Option St} {s:St} {f q:ga} {D:Nat->Option SV} {G:Nat->Option Ob} {l:List (Nat×Option AV)} (B:jP H s f D G l) (I:∀t∈f.rs,t∈q.rs) (K:∀t∈f.ro,t∈q.ro) (O:∀t∈f.mv,t∈q.mv) (R:∀t,t∈f.ws↔t∈q.ws) (z:∀t,t∈f.wo↔t∈q.wo) (S:∀t∈f.rl,t∈q.rl) (U:∀t∈f.wo,q.kp t=true->f.kp t=true):jP H s q D G l:=
 ⟨λp hp=>O _ (B.1 p hp),λj F V=>B.2.1 j ((z j).2 F) (U j ((z j).2 F) V),λx k1 k2 k3=>by
  rw[B.2.2 x (λt w=>k1 t (I t w)) (λt w=>k2 t (K t w)) (λt w=>k3 t (S t w))]
  simp[fM,R,z]⟩
def jP.at {B:St->Option St} {s z:St} {f:ga} {q:Nat->Option SV} {w:Nat->Option Ob} {l:List (Nat×Option AV)} (D:jP B s f q w l) (h:B s=some z):z=fM f q w l s:=by have:=D.2.2 s (λ_ _=>rfl) (λ_ _=>rfl) (λ_ _=>rfl);simp_all
def YP {U V:St->Option St} {s:St} {w B:ga} {q H:Nat->Option SV} {l I:Nat->Option Ob} {D F:List (Nat×Option AV)} (O:jP U s w q l D) (R:jP V (fM w q l D s) B H I F):
  ∃ev ov,jP (λx=>(U x).bind V) s (w.then B) ev ov (D++F):=by
 refine⟨λt=>if t∈B.ws then H t else(q t).map (jU F),λj=>if j∈B.wo then I j else(l j).map (Ob.An (jU F)),λp hp=> ?_,λj S K=> ?_,λx k1 k2 k3=> ?_⟩
 .simp[ga.then,bu];exact(bu.1 hp).imp (O.1 p) (R.1 p)
 .simp[ga.then,aU,gx,jw,List.contains_eq_mem,aS] at K;simp[ga.then,bu] at S;have G:((fM w q l D s).ob j).map Ob.ue=(s.ob j).map Ob.ue:=by
   by_cases a:j∈w.wo
   .rw[skO a];exact O.2.1 j a (K.1.resolve_right λh=>h a)
   .exact skN a
  by_cases a:j∈B.wo
  .simp[aB a];exact(R.2.1 j a (K.2.resolve_right λh=>h a)).trans G
  .simp[az a];have b :=S.resolve_left a;rw[<-O.2.1 j b (K.1.resolve_right λh=>h b)];cases l j with
   |none=>rfl
   |some o=>simp[N0]
 .have e1:=O.2.2 x (λt z=>k1 t (by simp[ga.then,z])) (λt z=>k2 t (by simp[ga.then,z])) (λt z=>k3 t (by simp[ga.then,z]))
  have e2:=R.2.2 (fM w q l D x) (λt z=>by simp_all[fM,ga.then]) (λt z=>by simp_all[fM,ga.then]) (λt z=>by
   by_cases a:t∈w.wo
   .rw[skO a,skO a]
   simp_all[skN,ga.then])
  simp[e1,kB,e2,bg];have mm:∀v,jU F (jU D v)=jU (D++F) v:=λv=>by simp[jU]
  refine St.same (λt=> ?_) (λj=> ?_)
  .simp[fM,ga.then];by_cases a:t∈B.ws
   .simp_all
   .by_cases b:t∈w.ws
    .simp_all
    .simp[a,b];cases x.env t with
     |none=>rfl
     |some v=>simp_all
  .simp[fM,ga.then];by_cases a:j∈B.wo
   .simp_all
   .by_cases b:j∈w.wo
    .simp_all
    .simp[a,b];cases x.ob j with
     |none=>rfl
     |some o=>cases o with
      |box t cells=>simp_all[Ob.An]
      |_=>rfl
def jP.nil (s:St) (f:ga) (l:f.ws=[]) (q:f.wo=[]):jP some s f (λ_=>none) (λ_=>none) []:=
 ⟨ai,λj w=>(by simp_all),λx _ _ _=>by
  congr 1;refine St.same (λt=> ?_) (λj=> ?_)
  .simp[fM,l];exact(ig λ_=>rfl).symm
  simp_all[fM,ig,B1]⟩
theorem Ee {s H:St} {id:Nat} (q:s.dr id=some H):∃w G l,jP (λx=>x.dr id) s { ro:=[id],wo:=[id],mv:=[id] } w G l:=by
 unfold St.dr at q;split at q
 .rename_i v D F;refine⟨λ_=>none,λ_=>none,[(id,some v)],by simp,λj _ B=>(by cases B),λx _ z _=> ?_⟩;have e:x.ob id=s.ob _:=z _ ai;unfold St.dr;simp[e,D,F,bg];refine St.same (λt=> ?_) (λj=> ?_)
  .rfl
  .simp[fM,cz];by_cases a:j=id
   .subst a;simp[cW]
   .rw[az a,bS _ _ (λh=>a h.symm)];rfl
 simp_all
def Cb:∀{cells:List SV} {s H:St},pq cells s=some H->∃q z l,jP (pq cells) s { ro:=wK cells,wo:=wK cells,mv:=wK cells } q z l
 |[],s,H,_=>⟨_,_,_,jP.nil s _ rfl rfl⟩
 |c::cells,s,H,G=>by
  have other:(∀id,c≠ .row id)->(∀x,pq (c::cells) x=pq cells x)/\wK (c::cells)=wK _:=λD=>by cases c<;>first|exact absurd rfl (D _)|exact⟨λ_=>rfl,rfl⟩
  by_cases I:∃id,c= .row id
  .obtain⟨id,rfl⟩:=I;obtain⟨s1,w,B⟩:=dy.1 G;obtain⟨q,z,l,K⟩:=Ee w;obtain⟨S,ov',l',O⟩:=Cb B;rw[K.at w] at O;obtain⟨U,ov2,r3⟩:=YP K O;exact⟨_,_,_,r3.imp (λt F=>by assumption) (λt F=>by assumption) (λt F=>by assumption) (λt=>by rfl) (λt=>by simp[ga.then,wK,or_comm]) (λt F=>by assumption) (λt _ hk=>by cases hk)⟩
  .obtain⟨e1,R⟩:=other λid h=>I ⟨id,h⟩
   rw[e1] at G;obtain⟨q,z,l,r⟩:=Cb G;refine⟨q,z,l,?_⟩;rw[R];exact⟨r.1,r.2.1,λx w B V=>by rw[e1];exact r.2.2 x w B V⟩
theorem aac {s S:St} {t:Nat} (D:qw s t=some S):∃z B l,jP (λx=>qw x t) s (PO s t) z B l:=by
 unfold qw at D;unfold PO;split at D
 .rename_i id F;obtain⟨z,B,l,r⟩:=Ee D;refine⟨z,B,l,r.1,r.2.1,λx q w G=> ?_⟩;have e :=q t ai;simp[qw,e,F];exact r.2.2 x ai w ai
 .rename_i id F;obtain⟨z,B,l,r⟩:=Ee D;refine⟨z,B,l,r.1,r.2.1,λx q w G=> ?_⟩;have e :=q t ai;simp[qw,e,F];exact r.2.2 x ai w ai
 .rename_i id R F;split at D
  .rename_i U cells I;obtain⟨z,B,l,r⟩:=Cb D;refine⟨z,B,l,r.1,r.2.1,λx q w G=> ?_⟩;have e :=q t ai;have K:x.ob id=s.ob _:=w _ ai;simp[qw,e,F,K,I];exact r.2.2 x ai (λj H=>w j (by simp[H])) ai
  simp_all
 .refine⟨λ_=>none,λ_=>none,[],?_⟩;have O:∀x:St,x.env t=s.env t->qw x t=some x:=λx e=>by
   simp_all[qw]
  refine⟨ai,λj H=>(by simp at H),λx q w G=> ?_⟩;simp only;rw[O x (q t ai)];exact(jP.nil s _ rfl rfl).2.2 x q w G
theorem S7 {w l:St} {t:TypeId} {x z:Operand} (U:∀ty,bI P ty w x=bI P ty l x) (R:∀ty,bI P ty w z=bI P ty l z) (B:∀ty H,bI P ty w x=some H->∀id∈H.ids,(w.ob id).map Ob.ue=(l.ob id).map Ob.ue):xB P w t x z=xB P l t x z:=by
 unfold xB;rw[<-U,<-R];split<;>try rfl
 .rename_i e s id q i hs S hq;have k:=B t _ S id (by simp[SV.ids]);cases e1:w.ob _ with
  |none=>grind
  |some V=>rw[e1] at k;cases I:l.ob _ with
   |none=>simp_all
   |some F=>rw[I] at k;simp at k;cases V with
    |row K sz xs=>cases F with
     |row O G ys=>
      simp[Ob.ue,Ob.row.injEq] at k;obtain⟨_,rfl,D⟩:=k;have :=by simpa using aP List.length D
      simp_all
     |_=>cases k
    |rn K sz q1 q2 q3 xs zs=>cases F with
     |rn O G q4 q5 q6 ys zs2=>
      simp only[Ob.ue,Ob.rn.injEq] at k;obtain⟨_,rfl,_,_,_,D,_⟩:=k;have :=by simpa using aP List.length D
      simp_all
     |_=>cases k
    |_=>cases F<;>first|rfl|cases k
theorem O4 {w l:St} {n:Nat} {e:TypeId} {x q:Operand} (B:∀ty,bI P ty w x=bI P ty l x) (z:∀ty,bI P ty w q=bI P ty l q):D2 P w n e x q=D2 P l n e x q:=by unfold D2;simp_all
def UC {B:Array Oper} {o:Oper} {s:St} {v:SV} (U:dW P h cB o s=some v):jP (step0 P h cB o) s (wj P h B o s) (s.set o.dst v).env (s.set o.dst v).ob []:=
 ⟨ai,λj O=>(by cases O),λx H I K=>by
  have q:dW P h _ o s=dW P h cB o x->step0 P h cB o x=some (fM (wj P h B o s) (s.set _ v).env _ _ x):=λthis=>by rw[U] at this;simp[step0,<-this];rw[aec (f:=wj P h _ o s) rfl rfl]
  cases D:ace o.op with
  |true=>cases w:o.op with
   |indexAddr t a ix=>
    have z:∀y∈o.op.operands.toList,∀ty,bI P ty s y=bI P _ x y:=λy V ty=>jd (λu e=>(H u (by
     subst e
     exact cM _ (e8.2 ⟨_,V,rfl⟩))).symm) _
    have ha:=z a (by rw[w];simp[Op.operands]);have hi:=z ix (by rw[w];simp[Op.operands])
    have hl:∀ty G,bI P ty s a=some G->∀id∈G.ids,(s.ob _).map _=(x.ob _).map _:=λty G e id l=>(K _ (by
     simp[wj,D]
     exact vJ (by rw[w];simp[Op.operands]) e l)).symm
    refine q ?_;simp[dW,w,fB];grind[S7,O4]
   |_=>rw[w] at D;cases D
  |false=>
   have F:∀id∈Lr P h o s,s.ob id=x.ob id:=λid l=>by grind[TK,wj,Lr]
   exact q (Vv (λR id l=>(I _ (by simp[wj,R,D,l])).symm) F (λt S=>(H t (by simp[wj,fu,S])).symm))⟩
def aex {l:Array Oper} {k:Nat} {o:Oper} {s:St} {v:SV} (G:l[k]? =some o) (I:qp l o s=some true) (q:FE h o=[]) (H:dW P h cB o s=some v):
  ∃z K m,JD (qP P h cB l k) s ((wj P h l o s).fill s (s.set o.dst v)) z K m/\RI s ((wj P h l o s).fill s (s.set o.dst v)):=
 OQ (l:=[]) ai (λx w B D=>by
  simp[qP,G];rw[AT w,I];simp[step,q]
  exact(UC H).2.2 x w B D) λj F _=>by cases F
def aaX {o:Oper} {s s':St} {c:Call} {d id:Nat} {x y:Operand} {t R:TypeId} (U:o.op= .call c) (hc:c.callee= .builtin .append) (q:c.args.toList=[x,y]) (V:c.argTypes.toList=[t,R]) (hd:o.dst=some d) (hx:bI P t s x=some (.row id)) (l:step0 P h cB o s=some s'):
  ∃ob:Ob,s'=(s.new id ob).set (some d) (.row id)/\
   ∀x:St,(∀t∈slotsOf o,x.env t=s.env t)->(∀j∈id::DA s o,x.ob j=s.ob j)->step0 P h cB o x=some ((x.new id ob).set (some d) (.row id)):=by
 have hf:∀x:St,dW P h cB o x=none:=λx=>by simp_all[dW,Bb]
 have he:∀F:St,step0 P h cB o F=(match isSlice P t,bI P t F x,bI P R F y with
  |some (e,s),some (.row id),some y=>match F.ob id,elems F y,P.info? e with
   |some (.row I w xs),some (G,B),some i=>
    if t=R/\e=I/\s=w/\w=G/\0<w/\(xs.length+B.length) *i.bytes<=140737488355328/\xs.length+B.length<=4611686018427387904/\i.zero.map (λz=>z.cells.size)=some w/\gC id=true then
     some ((F.new id (.row e w (xs++B))).set (some d) (.row id)) else none
   |some (.rn I w k e2 s2 xs zs),some (G,B),some i=>
    if t=R/\e=I/\s=w/\w=G/\0<w/\(xs.length+B.length) *i.bytes<=140737488355328/\xs.length+B.length<=4611686018427387904/\i.zero.map (λz=>z.cells.size)=some w/\gC id=true/\B.all (qF k)=true then
     some ((F.new id (.rn e w k e2 s2 (xs++B.map λc=>c.set k .hole) (zs++B.map λ_=>some []))).set (some d) (.row id)) else none
   |_,_,_=>none
  |some (e,s),some (.aq id .full),some y=>match F.ob id,elems F y,P.info? e with
   |some (.row I w xs),some (G,B),some i=>
    if t=R/\e=I/\s=w/\w=G/\0<w/\(xs.length+B.length) *i.bytes<=140737488355328/\xs.length+B.length<=4611686018427387904/\i.zero.map (λz=>z.cells.size)=some w/\gC id=true/\B.isEmpty=false then
     some ((F.new id (.row e w (xs++B))).set (some d) (.row id)) else none
   |_,_,_=>none
  |_,_,_=>none):=λF=>by
  simp only[step0,hf,ni,U,hc,hd,q,V];rfl
 rw[he] at l;split at l
 .rename_i e sz0 id2 sy hs O hy;rw[hx] at O;simp only[bg,SV.row.injEq] at O;subst O;split at l
  .rename_i I w xs G B i sV hel hi;split at l
   .rename_i S;injection l with l;refine⟨.row e w (xs++B),l.symm,λF K H=> ?_⟩
    have D:∀z∈[x,y],∀ty,bI P ty F z=bI P ty s z:=λz hz ty=>jd (λu e=>K u (by
     subst e;refine e8.2 ⟨.tmp u,?_,rfl⟩;rw[U];simp only[Op.operands,Call.operands,hc,iT,bu];right
     rw[q];exact hz)) ty
    rw[he,D x ai t,D y ai R,hx,hy,hs];have e1:F.ob id=s.ob id:=H id ai
    have e2:elems F sy=elems s sy:=xy (λj hj=>H j (dz _ (vJ (P:=P) (x:=y) (ty:=R) (by
     rw[U];simp only[Op.operands,Call.operands,hc,iT,bu];right
     rw[q];simp) hy hj)))
    grind
   .cases l
  .rename_i I w k e3 s3 xs zs G B i sV hel hi;split at l
   .rename_i S;injection l with l;refine⟨.rn e w k e3 s3 (xs++B.map λc=>c.set k .hole) (zs++B.map λ_=>some []),l.symm,λF K H=> ?_⟩
    have D:∀z∈[x,y],∀ty,bI P ty _ z=bI P _ s z:=λz hz ty=>jd (λu e=>K u (by
     subst e;refine e8.2 ⟨.tmp u,?_,rfl⟩;rw[U];simp only[Op.operands,Call.operands,iT,bu];right
     rw[q];exact hz)) _
    rw[he,D x ai t,D y ai _,hx,hy,hs];have e1:F.ob id=s.ob _:=H _ ai
    have e2 :=xy (λj hj=>H j (dz _ (vJ (by
     rw[U];simp only[Op.operands,Call.operands,iT]
     rw[q];simp) hy hj)))
    grind
   .cases l
  .cases l
 .simp_all
 simp_all
def Y8 {o:Oper} {s s':St} {c:Call} {d id:Nat} {x y:Operand} {t K:TypeId} (O:o.op= .call c) (hc:c.callee= .builtin .append) (w:c.args.toList=[x,y]) (I:c.argTypes.toList=[t,K]) (hd:o.dst=some d) (hx:bI P t s x=some (.aq id .full)) (l:step0 P h cB o s=some s'):
  ∃ob:Ob,s'=(s.new id ob).set (some d) (.row id)/\
   ∀x:St,(∀t∈slotsOf o,x.env t=s.env t)->(∀j∈id::DA s o,x.ob j=s.ob j)->step0 P h cB o x=some ((x.new id ob).set (some d) (.row id)):=by
 have hf:∀x:St,dW P h cB o x=none:=λx=>by simp_all[dW,Bb]
 have he:∀D:St,step0 P h cB o D=(match isSlice P t,bI P t D x,bI P K D y with
  |some (e,s),some (.row id),some y=>match D.ob id,elems D y,P.info? e with
   |some (.row H q xs),some (F,B),some i=>
    if t=K/\e=H/\s=q/\q=F/\0<q/\(xs.length+B.length) *i.bytes<=140737488355328/\xs.length+B.length<=4611686018427387904/\i.zero.map (λz=>z.cells.size)=some q/\gC id=true then
     some ((D.new id (.row e q (xs++B))).set (some d) (.row id)) else none
   |some (.rn H q k U s2 xs zs),some (F,B),some i=>
    if t=K/\e=H/\s=q/\q=F/\0<q/\(xs.length+B.length) *i.bytes<=140737488355328/\xs.length+B.length<=4611686018427387904/\i.zero.map (λz=>z.cells.size)=some q/\gC id=true/\B.all (qF k)=true then
     some ((D.new id (.rn e q k U s2 (xs++B.map λc=>c.set k .hole) (zs++B.map λ_=>some []))).set (some d) (.row id)) else none
   |_,_,_=>none
  |some (e,s),some (.aq id .full),some y=>match D.ob id,elems D y,P.info? e with
   |some (.row H q xs),some (F,B),some i=>
    if t=K/\e=H/\s=q/\q=F/\0<q/\(xs.length+B.length) *i.bytes<=140737488355328/\xs.length+B.length<=4611686018427387904/\i.zero.map (λz=>z.cells.size)=some q/\gC id=true/\B.isEmpty=false then
     some ((D.new id (.row e q (xs++B))).set (some d) (.row id)) else none
   |_,_,_=>none
  |_,_,_=>none):=λD=>by
  simp only[step0,hf,ni,O,hc,hd,w,I];rfl
 rw[he] at l;split at l
 .simp_all
 .rename_i e sz0 id2 sy hs G hy;rw[hx] at G;simp at G;subst G;split at l
  .split at l
   .injection l with l;refine⟨_,l.symm,λD S R=> ?_⟩
    have V:∀z∈[x,y],∀ty,bI P ty _ z=bI P _ s z:=λz hz ty=>jd (λu e=>S u (by
     subst e;refine e8.2 ⟨.tmp u,?_,rfl⟩;rw[O];simp only[Op.operands,Call.operands,iT,bu];right
     rw[w];exact hz)) _
    have U :=xy (λj hj=>R j (dz _ (vJ (by
     rw[O];simp only[Op.operands,Call.operands,iT]
     rw[w];simp) hy hj)))
    grind
   .cases l
  .cases l
 simp_all
def kp_E0 {q:Array Oper} {o:Oper} {s:St} (w:¬∃t x,o.op= .load t x) (z:¬∃t a x id B i l j,o.op= .store t a x/\bI P 0 s a=some (.rp id B i l)/\bI P t s x=some (.row j)) (j:Nat):(lz P h q o s).kp j=false:=by
 unfold lz Fa CK OU;split
 .split
  .grind
  .rfl
  .split<;>rfl
 .cases h.rows.contains _<;>rfl
 .cases h.fq.contains _<;>cases h.rows.contains _<;>rfl
 .cases h.rows.contains _ with
  |false=>rfl
  |true=>simp only[au,BW];split<;>rfl
 .rfl
 .split
  .split
   .split<;>rfl
   .rfl
  .cases(o.dst.any _&& !(o.dst.any _)) with
   |true=>rfl
   |false=>rename_i c _ _ f _;cases(!(o.dst.any _)&&(!(o.dst.any _)&&wide s c f)) with
    |false=>cases o.dst.any h.owns.contains with
     |false=>rfl
     |true=>
      simp only[au,aA,E9];split
      .split
       .split
        .rfl
        .rfl
       .rfl
      .rfl
    |true=>simp[wh];split<;>rfl
  .rfl
 .simp_all
 .rfl
def take_fx {D:Array Oper} {o:Oper} {s s':St} {t:TypeId} {a:Operand} (ho:o.op= .load t a) (l:step0 P h cB o s=some s') (q:(lz P h D o s).all=false):
  ∃ev ov m,jP (step0 P h cB o) s (lz P h D o s) ev ov m:=by
 obtain⟨F,w⟩:∃F,lz P h D o s=F:=⟨_,rfl⟩
 rw[w] at q⊢;unfold lz at w;rw[ho] at w;cases H:o.dst with
 |none=>rw[H] at w;subst w;cases q
 |some d=>rw[H] at w;simp only at w;cases I:h.take.contains d with
  |false=>rw[I] at w;subst w;cases q
  |true=>
   rw[I] at w;simp[au,SM] at w;split at w
   .rename_i id sz i B V;split at w
    .rename_i e R k e' s2 xs ys z;subst w;have he:∀x:St,bI P 0 x a=some (.rp id sz i B)->x.ob id=some (.rn e R k e' s2 xs ys)->step0 P h cB o x=xP P x t a d:=λx h1 h2=>by
      simp_all[dW,step0,ni]
     rw[he s V z] at l;unfold xP at l;rw[V] at l;split at l
     .rename_i id2 sz2 i2 off2 e1 G;obtain⟨rfl,rfl,rfl,rfl⟩:=e1;rw[z] at l;simp at l;split at l
      .rename_i zs hy;cases hb:(Nat.beq sz R&&Nat.beq B k&& !(Nat.beq id d)&&Nat.blt id 10000) with
       |false=>simp_all
       |true=>
       rw[hb] at l;simp at l;have U:id≠d:=λe=>by simp_all
       refine⟨s'.env,s'.ob,[(d,none)],by simp,λj hj hk=> ?_,λx h1 h2 _=> ?_⟩<;>subst l
       rotate_left
       .have O:bI P 0 x a=some (.rp id sz i B):=by
         rw[<-V]
         exact jd (λu e=>h1 u (by
          subst e
          exact cM _ (e8.2 ⟨.tmp u,by rw[ho];simp[Op.operands],rfl⟩))) 0
        have K :=(h2 _ ai).trans z;rw[he x O K];unfold xP;rw[O,G];simp only[K,hy,hb];refine aP _ (St.same (λu=> ?_) (λu=> ?_))
        .simp[fM,cz];by_cases e:u=d
         .simp_all[St.set,cW]
         .rw[az e];simp[St.set,bS _ _ (λh=>e h.symm)];rfl
        .simp[fM,aN,nC,pQ];by_cases e:u=d
         .simp_all[St.set,St.new,cW]
         .by_cases e2:u=id
          .subst e2;simp[true_or,gV,St.set,St.new,St.dG,bS _ _ (λh=>e h.symm),cW]
          .rw[az af];simp[St.set,St.new,St.dG,bS _ _ (λh=>e h.symm),bS _ _ (λh=>e2 h.symm)];rfl
       .have S :=by
         simp only[aU] at hk;exact beq_iff.1 hk.1
        subst S;rw[z];simp[St.set,St.new,St.dG,bS _ _ (λh=>U h.symm),cW,e9,Ob.dG,Ob.ue]
      simp_all
     simp_all
    .subst w;cases q
   .subst w;cases q
theorem xq {R:Type} {b:Bool} {x:Option R} {r:R} (l:(bif b then x else none)=some r):b=true/\x=some r:=by grind
def ou:∀(l:List Nat) (q:St) (t:Nat),(fD l q).env t=(q.env t).map (jU (l.map λi=>(i,none)))
 |[],q,t=>by exact(ig λ_=>rfl).symm
 |id::l,q,t=>by simp[fD];rw[ou l _ t];simp[St.dG,Option.map_map];rfl
def sC:∀(l:List Nat) (q:St) (j:Nat),j∉l->(fD l q).ob j=(q.ob j).map (Ob.An (jU (l.map λi=>(i,none))))
 |[],q,j,_=>by simp_all[fD,ig,B1]
 |id::l,q,j,w=>by simp at w;simp[fD];rw[sC l _ j w.2];simp only[St.dG,bS _ _ (λh=>w.1 h.symm)];cases q.ob j with
  |none=>rfl
  |some o=>cases o<;>simp only[e9,Ob.dG,Ob.An,eG]<;>rfl
theorem qk:∀(l:List Nat) (w q:St) (j:Nat),w.ob j=q.ob j->(fD l w).ob j=(fD l q).ob j
 |[],w,q,j,h=>h
 |id::l,w,q,j,h=>by
  refine qk l _ _ j ?_;by_cases e:id=j
  .simp_all[St.dG,cW]
  simp_all[St.dG,bS]
theorem back_mem {names:List Nat} {F:Nat->Nat}:∀{m:List (Nat×Nat)} {w l:List (Nat×Ob)},mH names F m w=some l->∀{j:Nat} {o:Ob},find l j=some o->j∈m.map (·.1)
 |[],[],l,h,j,o,q=>by simp[mH,bg] at h;subst h;cases q
 |[],_::_,l,h,_,_,_=>by simp[mH] at h
 |_::_,[],l,h,_,_,_=>by simp[mH] at h
 |(id,G)::m,(D,H)::w,l,h,j,o,q=>by obtain⟨_,h⟩:=xq h;simp at h;obtain⟨r,B,rfl⟩:=h;simp[find] at q;cases z:Nat.beq id j with
  |true=>simp_all
  |false=>rw[z] at q;exact dz _ (back_mem B q)
def many_fx {B:Array Oper} {o:Oper} {s s':St} {c:Call} {f:Operand} (ho:o.op= .call c) (hc:c.callee= .value f) (how:o.dst.any h.owns.contains=false) (U:o.dst.any h.stay.contains=false) (hw:wide s c f=true)
  (w:step0 P h cB o s=some s') (F:(wh P h B o s c f).all=false):∃ev ov m,jP (step0 P h cB o) s (wh P h B o s c f) ev ov m:=by
 have hox:∀x:St,(∀t∈fu B o,x.env t=s.env t)->∀y∈o.op.operands.toList,∀ty,bI P ty x y=bI P ty s y:=λx h1 y hy' ty=>jd (λu e=>h1 u (by
  subst e
  exact cM _ (e8.2 ⟨.tmp u,hy',rfl⟩))) ty
 have G:∀x∈c.args.toList,x∈o.op.operands.toList:=λx hx=>by simp_all[Op.operands,Call.operands,iT,bu]
 have hfo:f∈o.op.operands.toList:=by rw[ho];simp[Op.operands,Call.operands,hc]
 have hwide:∀x:St,(∀t∈fu B o,x.env t=s.env t)->wide x c f=wide s c f:=λx h1=>by
  have henv:∀y∈o.op.operands.toList,∀u,y= .tmp u->x.env u=s.env u:=λy hy u e=>h1 u (by
   subst e
   exact cM _ (e8.2 ⟨.tmp u,hy,rfl⟩))
  have e1:VJ x f=VJ s f:=by cases f with
   |tmp u=>simp only[VJ,henv _ hfo u rfl]
   |_=>rfl
  have e2:∀l:List Operand,(∀y∈l,y∈o.op.operands.toList)->l.any (Fg x)=l.any (Fg s):=by intro l;induction l with
   |nil=>simp
   |cons y l ih=>intro hl;simp only[wX];rw[ih λz hz=>hl z (by simp[hz])];cases y with
    |tmp u=>simp only[Fg,henv _ (hl (.tmp u) ai) u rfl]
    |_=>rfl
  unfold wide;rw[e1,e2 _ G]
 have he:∀x:St,(∀t∈fu B o,x.env t=s.env t)->step0 P h cB o x=jT P h cB x c f o.dst:=λx h1=>by
  have hwx:=(hwide x h1).trans hw;have hfn:dW P h cB o x=none:=by simp only[dW,ho,hc,how,U,hwx,aA,pR,uP,au]
  unfold step0;rw[hfn];cases O:o.dst with
  |none=>simp only[ni,ho,hc,O,hwx,Option.any_none,aA,pR,au]
  |some d=>rw[O] at how U;simp only[ni,ho,hc,O,how,U,hwx,aA,pR,au]
 rw[he s λ_ _=>rfl] at w;have hr0:∃g args,uC P h s c f=some (g,args):=by
  unfold wh at F;split at F
  .simp_all
  .cases F
 obtain⟨g,args,hra⟩:=hr0;have hF:wh P h B o s c f={ rs:=fu B o,ws:=o.dst.toList,ro:=jA s args,wo:=jA s args,mv:=(jA s args).filter (gZ false s (qy args)) }:=by unfold wh;rw[hra]
 rw[hF];have D:=hra;unfold uC at D;split at D
 .rename_i g0 pre q V hfn hvs;simp only[bg,cD] at D;obtain⟨rfl,rfl⟩:=D;unfold jT at w;rw[hfn,hvs] at w;simp only[U] at w;obtain⟨K,w⟩:=xq w;split at w
  .rename_i cG S;split at w
   .rename_i r sW I;split at w
    .rename_i back H;obtain⟨hns,w⟩:=xq w;injection w with w;generalize R:gB s 200 ((pre++(V++q)).flatMap SV.ids) []=ids at K S I H w;have hro:jA s (pre++(V++q))=ids:=R;rw[hro];have hfst:(iP (gZ false s (qy (pre++(V++q)))) 0 ids).map (·.1)=ids:=tR _ _ _;refine⟨s'.env,s'.ob,(ids.filter (gZ false s (qy (pre++(V++q))))).map λi=>(i,none),λp hp=> ?_,λj _ hk=>(by cases hk),λx h1 h2 _=> ?_⟩
     .obtain⟨i,hi,rfl⟩:=aD.1 hp;exact hi
     .have k1:bI P 0 x f=bI P 0 s f:=hox x h1 f hfo 0;have k2:uv P h x c.args.toList c.argTypes.toList=uv P h s c.args.toList c.argTypes.toList:=zX λy hy ty=>hox x h1 y (G y hy) ty
      have k3:gB x 200 ((pre++(V++q)).flatMap SV.ids) []=ids:=by rw[<-R];exact(oV 200 _ _ λid hid=>(h2 id (by rw[R] at hid;exact hid)).symm).symm
      have k4:∀id∈ids,gZ false x (qy (pre++(V++q))) id=gZ false s (qy (pre++(V++q))) id:=λid hid=>by simp only[gZ,O7,h2 id hid]
      have k5:∀(l:List Nat) (n:Nat),(∀id∈l,id∈ids)->iP (gZ false x (qy (pre++(V++q)))) n l=iP (gZ false s (qy (pre++(V++q)))) n l:=by intro l;induction l with
       |nil=>intro n _;rfl
       |cons i l ih=>simp_all[iP]
      have k6:=k5 ids 0 λ_ h=>h
      have k7:jO x ids (iD (iP (gZ false s (qy (pre++(V++q)))) 0 ids)) (iP (gZ false s (qy (pre++(V++q)))) 0 ids)=some cG:=by
       rw[<-S];exact tB λp hp=>h2 p.1 (by grind)
      have k8 :=lI λi hi=>k4 i hi
      rw[he x h1];unfold jT;rw[k1,k2,hfn,hvs];simp only[U,k3,k6,K,k7,I,H,hns];refine aP _ (St.same (λt=> ?_) (λj=> ?_))
      .simp[fM];cases O:o.dst with
       |none=>simp_all[St.set,ou]
       |some d=>
        by_cases e:d=t
        .subst e;rw[<-w,O];simp[St.set,cW]
        .rw[az (by grind)];simp_all[St.set,bS,ou]
      .have ab2:∀(y) (v),(St.set y o.dst v).ob=y.ob:=λy v=>by cases o.dst<;>rfl
       simp[fM,ab2];by_cases e:j∈ids
       .grind[qk]
       .have hb:find back j=none:=by
         cases hf:find _ j with
         |none=>rfl
         |some o'=>grind[back_mem]
        simp_all[sC]
    simp_all
   simp_all
  simp_all
 simp_all
def HU {d:Nat}:∀{l:List (Nat×Ob)} {k:Nat} {p:Nat×Nat},p∈newNames d k l->k+l.length<=8->p.1∈oh d
 |[],k,p,h,_=>by cases h
 |x::l,k,p,h,q=>by
  simp[newNames,aN,bz] at h q;rcases h with rfl|h
  .exact aD.2 ⟨k,gQ.2 af,rfl⟩
  .exact HU h af
def Ft {d:Nat}:∀{l:List (Nat×Ob)} {k:Nat},(newNames d k l).length=l.length
 |[],k=>rfl
 |x::l,k=>by simp[newNames,Ft]
theorem Hz {B l:St} {w:List Nat} {d:Nat}:∀{xs:List Operand} {q:List TypeId} {j:Nat},(∀x∈xs,∀ty,bI P ty B x=bI P ty l x)->Dh P w d B j xs q=Dh P w d l j xs q
 |[],_,_,_=>rfl
 |x::xs,q,j,z=>by unfold Dh argG;rw[z x ai,Hz λy D=>z y (by simp[D])]
def Fc {d:Nat}:∀{xs:List Operand} {l:List TypeId} {j:Nat},mO P [] d j xs l=[]
 |[],_,_=>rfl
 |x::xs,l,j=>by simp[mO,Fc]
def R4 {F:St} {g:Nat} {args:List SV} {w q:Nat->Nat} {d:Option Nat} (z:∀i∈jA F args,w i=q i):ki cB F g args w d=ki cB F g args q d:=by
 unfold ki;simp only[];generalize D:gB F 200 (args.flatMap SV.ids) []=ids;have G:jA F args=ids:=D;rw[G] at z;have R:∀(l:List Nat) (n:Nat),(∀i∈l,i∈ids)->qu w n l=qu q n l:=by intro l;induction l with
  |nil=>intro n _;rfl
  |cons i l S=>simp_all[qu,dz,gm]
 have U:=R ids 0 λ_ h=>h
 have H:∀i∈ids,given w i=given q i:=λi B=>by simp[given,z i B]
 have K:∀i∈ids,(!(stays w i))= !(stays q i):=λi B=>by simp[stays,z i B]
 have k7:(qu q 0 _).filter (λp=> !(given _ _))=(qu _ 0 _).filter _:=lI λp I=>by rw[H _ (ri _ 0 _ p I).1]
 have V :=lI K;have k9:ids.all (λi=> !(given w i))=ids.all (λi=> !(given q i)):=by rw[iU,cI,cI];exact⟨λh i B=>by simp_all,λh i B=>by simp_all⟩
 have O:ids.all (λi=> !(given w i)||iC i)=ids.all (λi=> !(given q i)||iC i):=by rw[iU,cI,cI];exact⟨λh i B=>by simp_all,λh i B=>by simp_all⟩
 simp_all
def gen_fx {F:Array Oper} {o:Oper} {s s':St} {c:Call} {f:Operand} (ho:o.op= .call c) (hc:c.callee= .value f) (how:o.dst.any h.owns.contains=true)
  (q:step0 P h cB o s=some s') (D:(E9 P h F o s c f).all=false):∃ev ov m,jP (step0 P h cB o) s (E9 P h F o s c f) ev ov m:=by
 have hox:∀x:St,(∀t∈fu F o,x.env t=s.env t)->∀y∈o.op.operands.toList,∀ty,bI P ty x y=bI P ty s y:=λx h1 y hy' ty=>jd (λu e=>h1 u (by
  subst e
  exact cM _ (e8.2 ⟨.tmp u,hy',rfl⟩))) ty
 have hargs:∀x∈c.args.toList,x∈o.op.operands.toList:=λx hx=>by simp_all[Op.operands,Call.operands,iT,bu]
 have hfo:f∈o.op.operands.toList:=by rw[ho];simp[Op.operands,Call.operands,hc]
 have he:∀x,step0 P h cB o x=iA P h cB x c f o.dst:=λx=>by
  have hfn:dW P h cB o x=none:=by simp only[dW,ho,hc,how,au]
  unfold step0;rw[hfn];cases G:o.dst with
  |none=>rw[G] at how;cases how
  |some d=>rw[G] at how;simp only[ni,ho,hc,G,how,au]
 rw[he] at q;unfold E9 at D⊢;split at D
 .rename_i d G;split at D
  .rename_i key hgv;split at D
   .rename_i g pre R vs hf hvs;generalize hkr:wu [] 0 vs=kr;have key:∀x:St,(∀t∈fu F o,x.env t=s.env t)->iA P h cB x c f (some d)=ki cB x g (pre++(vs++R)) (Kt x (gZ false x kr)) (some d):=λx h1=>by
     unfold iA;simp only[hgv];unfold Dk;simp only[Fc,iB,List.all_nil,au];grind[Hz]
    rw[G,key s λ_ _=>rfl] at q;generalize pre++(vs++R)=args at key q;generalize hcls:Kt s (gZ false s kr)=l at q⊢;have U:jA s args=gB s 200 (args.flatMap SV.ids) []:=rfl;unfold ki at q;simp only[] at q;generalize S:gB s 200 (args.flatMap SV.ids) []=ids at q U;rw[U];obtain⟨A4,q⟩:=xq q;split at q
    .rename_i cG SZ;split at q
     .rename_i r K xA;simp only[rK] at q;obtain⟨z,q⟩:=xq q;generalize hmB:(qu l 0 ids).filter (λp=> !(given l p.1))=mB at q z;generalize hnw:newNames d 0 (K.drop mB.length)=I at q z;have hlen:(K.drop mB.length).length<=8:=by
       simp only[aU] at z;have:=fF z.1.1.1.1;rwa[<-hnw,Ft] at this
      have hin:∀j∈I.map (·.1),j∈oh d:=λj H=>by obtain⟨p,O,rfl⟩:=aD.1 H;rw[<-hnw] at O;exact HU O af
      have hinB:∀j∈mB.map (·.1),j∈ids:=λj H=>by obtain⟨p,O,rfl⟩:=aD.1 H;rw[<-hmB] at O;exact(ri l 0 ids p (cT.1 O).1).1
      split at q
      .rename_i B hb;have Ds:∀{j:Nat} {o':Ob},find B j=some o'->j∈ids++oh d:=λ{j o'} hf=>by
        have:=back_mem hb hf;grind
       have hx:∀x:St,(∀t∈fu F o,x.env t=s.env t)->(∀j∈ids++oh d,x.ob j=s.ob j)->∀w,(match(generalizing:=false) r with
         | .gU [.gU [.self 0, .qh,y]]=>bif(wk y).closed ((mB++I).map (·.2)) then
           some (St.set { env:=(fD (ids.filter (λi=> !(stays l i))++I.map (·.1)) x).env,ob:=λi=>(find B i).orElse λ_=>(fD (ids.filter (λi=> !(stays l i))++I.map (·.1)) x).ob i } (some d) (Ld (find B) ((wk y).oI (iD (swap (mB++I))))))
          else none
         |r=>bif r.jG then
           some (St.set { env:=(fD (ids.filter (λi=> !(stays l i))++I.map (·.1)) x).env,ob:=λi=>(find B i).orElse λ_=>(fD (ids.filter (λi=> !(stays l i))++I.map (·.1)) x).ob i } (some d) (.pv r))
          else none)=w->iA P h cB x c f (some d)=w:=λx h1 h2 w hw=>by
        have V:∀j∈ids,x.ob j=s.ob j:=λj H=>h2 j (cM _ H)
        have k3:gB x 200 (args.flatMap SV.ids) []=ids:=by rw[<-S];exact(oV 200 _ _ λid hid=>(V id (by rw[S] at hid;exact hid)).symm).symm
        have k4:∀i∈jA x args,Kt x (gZ false x kr) i=l i:=λi hi=>by
         have hi':i∈ids:=by
          have:jA x args=ids:=k3
          rwa[this] at hi
         rw[<-hcls];simp only[Kt,Fq,VL,gZ,O7,V i hi']
        have k7:jO x ids (iD (qu l 0 ids)) (qu l 0 ids)=some cG:=by rw[<-SZ];exact tB λp O=>V p.1 (ri l 0 ids p O).1
        rw[key x h1,R4 k4];unfold ki;simp only[k3,A4,au,k7,xA,rK,hmB,hnw,z,hb];omega
       have go:∀v:SV,s'=St.set { env:=(fD (ids.filter (λi=> !(stays l i))++I.map (·.1)) s).env,ob:=λi=>(find B i).orElse λ_=>(fD (ids.filter (λi=> !(stays l i))++I.map (·.1)) s).ob i } (some d) v->
         (∀x:St,(∀t∈fu F o,x.env t=s.env t)->(∀j∈ids++oh d,x.ob j=s.ob j)->iA P h cB x c f (some d)=some (St.set { env:=(fD (ids.filter (λi=> !(stays l i))++I.map (·.1)) x).env,ob:=λi=>(find B i).orElse λ_=>(fD (ids.filter (λi=> !(stays l i))++I.map (·.1)) x).ob i } (some d) v))->
         ∃ev ov m,jP (step0 P h cB o) s { rs:=fu F o,ws:=[d],ro:=ids++oh d,wo:=ids++oh d,mv:=ids.filter (λi=> !(stays l i))++oh d } ev ov m:=λv hs' hx=>by
        refine⟨s'.env,s'.ob,(ids.filter (λi=> !(stays l i))++I.map (·.1)).map λi=>(i,none),λp O=> ?_,λj _ hk=>(by cases hk),λx h1 h2 _=> ?_⟩
        .obtain⟨i,hi,rfl⟩:=aD.1 O;rcases bu.1 hi with hi|hi
         .exact cM _ hi
         .exact gz _ (hin i hi)
        .rw[he,G,hx x h1 h2,hs'];refine aP _ (St.same (λt=> ?_) (λj=> ?_))
         .simp[fM,cz];by_cases e:t=d
          .subst e;simp[St.set,cW]
          .rw[az e];simp[St.set,bS _ _ (λh=>e h.symm),ou]
         .have ab2:∀(y) (v),(St.set y (some d) v).ob=y.ob:=λy v=>rfl
          simp only[fM,ab2];by_cases e:j∈ids++oh d
          .rw[aB e,qk _ _ _ _ (h2 j e)]
          .rw[az e];have hb0:find B j=none:=by
            cases hf:find _ j with
            |none=>rfl
            |some o'=>exact absurd (Ds hf) e
           have H:j∉ids.filter (λi=> !(stays l i))++I.map _:=λH=>e (by
            rcases bu.1 H with H|H
            .exact cM _ (cT.1 H).1
            .exact gz _ (hin j H))
           rw[hb0,sC _ _ _ H];rfl
       grind
      simp_all
     simp_all
    simp_all
   .cases D
  .cases D
 simp_all
def put_fx {G:Array Oper} {o:Oper} {s s':St} {t:TypeId} {a y:Operand} {id R i w j:Nat} (ho:o.op= .store t a y) (V:bI P 0 s a=some (.rp id R i w)) (hy:bI P t s y=some (.row j)) (l:step0 P h cB o s=some s') (D:(lz P h G o s).all=false):
  ∃ev ov m,jP (step0 P h cB o) s (lz P h G o s) ev ov m:=by
 obtain⟨F,B⟩:∃F,lz P h G o s=F:=⟨_,rfl⟩
 rw[B] at D⊢;unfold lz at B;rw[ho] at B;cases I:o.dst with
 |some d=>rw[I] at B;subst B;cases D
 |none=>
  rw[I] at B;simp[Fa,V,hy] at B;subst B;have he:∀x:St,bI P 0 x a=some (.rp id R i w)->bI P t x y=some (.row j)->step0 P h cB o x=Ia P x t id R i w j:=λx h1 U=>by simp_all[dW,fB,step0,ni]
  rw[he s V hy] at l;unfold Ia at l;split at l
  .rename_i e sz' k e' s2 xs ys S s3 zs H hsz sV K;cases hb:(Nat.beq R sz'&&Nat.beq w k&&Nat.blt id 10000&&Nat.blt j 10000&&Nat.beq e' S&&Nat.beq s2 s3&&Nat.blt i ys.length&& !(Nat.beq id j)) with
   |false=>simp_all
   |true=>
   rw[hb] at l;simp at l;refine⟨s'.env,s'.ob,[(j,none),(id+40000,none)],by simp,λq hq hk=> ?_,λx h1 U _=> ?_⟩<;>subst l
   .simp_all[cW,Ob.ue]
   .have O:∀z∈o.op.operands.toList,∀ty,bI P ty x z=bI P _ s z:=λz hz ty=>jd (λu e=>h1 u (by
     subst e
     exact cM _ (e8.2 ⟨_,hz,rfl⟩))) _
    have k1:=O a (by rw[ho];simp[Op.operands]) 0;have k2:=O y (by rw[ho];simp[Op.operands]) t;have x1 :=(U _ ai).trans sV;have x2 :=(U j ai).trans K;rw[he x (k1.trans V) (k2.trans hy)];unfold Ia;simp only[H,hsz,x1,x2,hb];refine aP _ (St.same (λu=> ?_) (λu=> ?_))
    .exact ou [j,id+40000] x u
    .simp[fM];by_cases e:u=id
     .simp_all[cW]
     .simp[bS _ _ (λh=>e h.symm)];by_cases S:u=j
      .rw[aB (.inr (.inl S))];exact qk [j,id+40000] x s u (by simp_all)
      .by_cases e3:u=id+40000
       .simp_all[St.dG,cW]
       .rw[az af];exact sC [j,id+40000] x u (by simp_all)
  simp_all
def wD (w:List (Nat×Nat×TypeId×Nat)):∀(l:List (Nat×TypeId×Nat)) (q:St) (t:Nat),(iB w l q).env t=(q.env t).map (jU (l.map λx=>(x.1,none)))
 |[],q,t=>by exact(ig λ_=>rfl).symm
 |(id,e,s)::l,q,t=>by simp[iB];rw[wD _ l _ t];simp[St.new,St.dG];rfl
def Dz (z:List (Nat×Nat×TypeId×Nat)):∀(l:List (Nat×TypeId×Nat)) (q:St) (j:Nat),j∉l.map (·.1)->(iB z l q).ob j=(q.ob j).map (Ob.An (jU (l.map λx=>(x.1,none))))
 |[],q,j,_=>by grind[iB,ig,B1]
 |(id,e,s)::l,q,j,w=>by simp only[bH,aN,not_or] at w;simp[iB];rw[Dz _ l _ j w.2];simp only[St.new,St.dG,bS _ _ (λh=>w.1 h.symm)];cases q.ob j with
  |none=>rfl
  |some o=>cases o<;>simp only[e9,Ob.dG,Ob.An,eG]<;>rfl
theorem uz (w:List (Nat×Nat×TypeId×Nat)):∀(l:List (Nat×TypeId×Nat)) (z q:St) (j:Nat),z.ob j=q.ob j->(iB w l z).ob j=(iB w l q).ob j
 |[],z,q,j,h=>h
 |(id,e,s)::l,z,q,j,h=>by
  refine uz _ l _ _ j ?_;by_cases e:id=j
  .simp_all[St.new,cW]
  simp_all[St.new,St.dG,bS]
def Tz {v:AV}:∀l:List (Nat×Option AV),jU l (.pv v)= .pv v
 |[]=>rfl
 |p::l=>by
  obtain⟨c,_,e,_⟩:=KN p _;have e:TC p (.pv v)= .pv v:=by rw[e];rfl
  show jU l (TC p _)= .pv v;rw[e,Tz l]
def Fu {q:List (Nat×Nat×TypeId×Nat)} {l:List (Nat×TypeId×Nat)} {w:St} {t:TypeId} {y:Operand} {v:AV} (z:bI P t w y=some (.pv v)):bI P t (iB q l w) y=some (.pv v):=by cases y with
 |tmp i=>simp_all[bI,wD,Tz]
 |_=>exact z
theorem Z8 {q l:St} {v:AV}:GL q (.pv v)=GL l (.pv v):=by cases v<;>rfl
def FA {ty:Nat->TypeId} {K st1 st2:St}:∀{l:List (Nat×Operand)} {q:List (Nat×AV)},(∀y∈l.map (·.2),∀t v,bI P t K y=some (.pv v)->bI P t st1 y=some (.pv v)/\bI P t st2 y=some (.pv v))->partsOf P ty K l=some q->
  qG P ty st1 l=qG P ty st2 l/\∀D,qG P ty st1 l=some D->∀p∈D,∀c∈p.2,∃v,c= .pv v
 |[],_,_,_=>⟨rfl,λD h p F=>by simp_all[qG]⟩
 |(i,y)::l,q,V,I=>by
  unfold partsOf at I;split at I
  .rename_i v vs R H;obtain⟨sv,O,G⟩:=dy.1 R;cases sv with
   |pv v'=>
    obtain⟨k1,k2⟩:=FA (λz hz=>V z (by simp_all)) H;refine⟨?_,λD B p F c hc=> ?_⟩
    .simp[qG];grind[Z8]
    .unfold qG at B;split at B
     .rename_i w ws S U;injection B with B;subst B;rcases aN.1 F with rfl|F
      .unfold GL at S;grind
      grind
     simp_all
   |_=>simp[kM] at G
  simp_all
def Nl {Q:SV->Prop} {place:Nat->Option (Nat×Nat)}:∀{l:List (Nat×List SV)} {cells r:List SV},HG place cells l=some r->(∀c∈cells,Q c)->(∀p∈l,∀c∈p.2,Q c)->∀c∈r,Q c
 |[],cells,r,h,w,_=>by simp_all[HG]
 |(i,v)::l,cells,r,h,w,z=>by
  unfold HG at h;split at h
  .cases h
  .split at h
   .refine Nl h (λc q=> ?_) λp B=>z p (dz _ B)
    rcases bu.1 q with q|q
    .rcases bu.1 q with q|q
     .grind
     simp_all
    grind
   grind
def BQ {I:List Nat} {d:Nat}:∀(j:Nat) (F:List TypeId) (G:List Value) (w:List SV) (l:List (Nat×TypeId×Nat)),nR P I d j F G=some (w,l)->∀c∈w,(∃v,c= .pv v)\/∃id∈l.map (·.1),c= .row id
 |j,[],[],w,l,q,c,z=>by simp[nR] at q;simp_all
 |j,[],_::_,w,l,q,c,z=>by simp[nR] at q
 |j,_::_,[],w,l,q,c,z=>by simp[nR] at q
 |j,t::F,v::G,w,l,q,c,z=>by
  unfold nR at q;split at q
  .rename_i D K B;split at q
   .obtain⟨_,q⟩:=xq q;obtain⟨rfl,rfl⟩:=q;rcases aN.1 z with rfl|z
    .simp
    .rcases BQ _ _ _ _ _ B c z with h|⟨id,H,h⟩
     .simp_all
     simp_all
   .simp at q;obtain⟨a,_,rfl,rfl⟩:=q;rcases aN.1 z with rfl|z
    .simp
    .exact BQ _ _ _ _ _ B c z
  simp_all
def Dl {w q:St}:∀{l:List SV},(∀c∈l,ot w c=ot q c)->xx w l=xx q l
 |[],_=>rfl
 |c::l,h=>by unfold xx aba;rw[h c (gm ..),Dl λx z=>h x (dz _ z)]
def rows_fx {R:Array Oper} {o:Oper} {s s':St} {d:Nat} {t:TypeId} {w:Array (Nat×Operand)} (ho:o.op= .build t w) (hdd:o.dst=some d) (hrw:h.rows.contains d=true) (z:step0 P h cB o s=some s')
  (B:(BW P h R o s d t w.toList).all=false):∃ev ov m,jP (step0 P h cB o) s (BW P h R o s d t w.toList) ev ov m:=by
 have he:∀x,step0 P h cB o x=vI P h x d t w.toList:=λx=>by simp_all[dW,step0,ni]
 rw[he] at z;unfold BW at B⊢;split at B
 .rename_i svs l q hz hq;unfold vI at z;rw[hz] at z;split at z
  .rename_i fs svs' l' hu e1;injection e1 with e1;injection e1 with e1 e2;subst e1;subst e2;obtain⟨hfs,z⟩:=xq z;split at z
   .rename_i ps H;split at z
    .rename_i cs V;injection z with z;obtain⟨sv,D,U⟩:=dy.1 V;obtain⟨vs,_,F⟩:=dy.1 hz;refine⟨s'.env,s'.ob,l.map λx=>(x.1,none),λp hp=> ?_,λj _ hk=>(by cases hk),λx h1 h2 _=> ?_⟩
     .grind
     .have hox:∀y∈w.toList.map (·.2),∀ty,bI P ty x y=bI P _ s y:=λy hy ty=>jd (λu e=>h1 u (by
       exact cM _ (e8.2 ⟨.tmp u,by simp_all[Op.operands],rfl⟩))) _
      have K:=FA (st1:=iB h.nest l s) (st2:=iB h.nest l x) (λy hy ty v hv=>⟨Fu hv,Fu ((hox y hy _).trans hv)⟩) hq;have I:qG P (I3 P t) (iB h.nest l x) w.toList=some ps:=by rw[<-K.1];exact H
      have G:∀c∈sv,ot (iB h.nest l x) c=ot (iB h.nest l s) c:=λc S=>by
       rcases Nl D (BQ 0 _ _ _ _ F) (λp hp c S=> .inl (K.2 _ H p hp c S)) c S with⟨v,rfl⟩|⟨id,hid,rfl⟩
       .cases v<;>rfl
       grind[ot,uz]
      rw[he];unfold vI;rw[hz];simp[hu,hfs,I,D,kB];rw[Dl G,U];refine aP _ (St.same (λu=> ?_) (λj=> ?_))
      .simp[fM,cz];by_cases e:u=d
       .subst e;rw[<-z];simp[St.set,cW]
       .rw[az e];simp[St.set,bS _ _ (λh=>e h.symm),wD]
      .have O:∀(y) (v),(St.set y (some d) v).ob=y.ob:=λy v=>rfl
       simp[fM,O];by_cases e:j∈l.map (·.1)
       .rw[aB e,uz _ l x s j (h2 j e),<-z];rfl
       simp_all[Dz]
    simp_all
   simp_all
  simp_all
 .cases B
def Vn {H:Array Oper} {o:Oper} {s s':St} (q:step0 P h cB o s=some s') (B:(lz P h H o s).all=false):
  ∃ev ov m,jP (step0 P h cB o) s (lz P h H o s) ev ov m:=by
 by_cases hld:∃t x,o.op= .load t x
 .obtain⟨t,a,ho⟩:=hld;exact take_fx ho q B
 by_cases hpt:∃t a x id sz i off j,o.op= .store t a x/\bI P 0 s a=some (.rp id sz i off)/\bI P t s x=some (.row j)
 .obtain⟨t,a,x,id,sz,i,off,j,ho,ha,hx⟩:=hpt;exact put_fx ho ha hx q B
 by_cases hct:∃t a x id off j sz lo hi,o.op= .store t a x/\bI P 0 s a=some (.ptr id off)/\bI P t s x=some (.sub j sz lo hi)
 .obtain⟨t,a,x,id,off,j,sz,lo,hi,ho,ha,hx⟩:=hct;unfold lz at B;rw[ho] at B;cases G:o.dst with
  |some d=>rw[G] at B;cases B
  |none=>rw[G] at B;simp only[Fa,ha,hx] at B;cases B
 have go:∀{l:List (Nat×Option AV)},(∀p∈l,p.1∈(lz P h H o s).mv)->(∀t∈fu H o,t∈(lz P h H o s).rs)->(∀x:St,(∀t∈(lz P h H o s).rs,x.env t=s.env t)->(∀j∈(lz P h H o s).ro,x.ob j=s.ob j)->step0 P h cB o x=some (fM (lz P h H o s) s'.env s'.ob l x))->
   ∃ev ov m,jP (step0 P h cB o) s (lz P h H o s) ev ov m:=λhk _ O=>⟨_,_,_,hk,λj _ hj=>(by rw[kp_E0 hld hpt] at hj;cases hj),λx K U _=>O x K U⟩
 obtain⟨F,D⟩:∃F,lz P h H o s=F:=⟨_,rfl⟩
 rw[D] at B go⊢;unfold lz at D;split at D
 ·
  rename_i t ax ay w hdn;replace D:CK P H o s ax=F:=by
   rw[<-D];unfold Fa;split
   .rename_i K U;exact absurd ⟨_,_,_,_,_,_,_,_,w,K,U⟩ hpt
   .rename_i K U;exact absurd ⟨_,_,_,_,_,_,_,_,_,w,K,U⟩ hct
   .rfl
  unfold CK at D;split at D
  .rename_i id hx;subst D;obtain⟨sa,hsa,htg⟩:=dy.1 hx;have R:∀x,dW P h cB o x=none:=λx=>by simp[dW,w,fB]
   have V:=q;unfold step0 at V;rw[R] at V;simp only[ni,hdn,w,hsa] at V;split at V
   .rename_i K U;injection K with K;subst K;exact absurd ⟨_,_,_,_,_,_,_,_,w,hsa,U⟩ hpt
   .rename_i K U;injection K with K;subst K;exact absurd ⟨_,_,_,_,_,_,_,_,_,w,hsa,U⟩ hct
   .rename_i sa' sv _ hnr e1 hy;injection e1 with e1;subst e1;obtain⟨l1,l2,l3⟩:=MU V htg;refine go (l:=[]) ai (λt ht=>ht) λx K U=> ?_
    have hox:∀y∈o.op.operands.toList,∀ty,bI P ty x y=bI P ty s y:=λy hy' ty=>jd (λu e=>K u (by
     subst e
     exact cM _ (e8.2 ⟨.tmp u,hy',rfl⟩))) ty
    have k1:=hox ax (by rw[w];simp[Op.operands]) 0;have k2:=hox ay (by rw[w];simp[Op.operands]) t;unfold step0;rw[R];have hsel:ni P h cB o x=storeAt P t x sa sv:=by simp only[ni,hdn,w,k1,k2,hsa,hy]
    simp only;rw[hsel,l3 x (U id ai) λj hj=>U j (dz _ (vJ (P:=P) (x:=ay) (ty:=t) (by rw[w];simp[Op.operands]) hy hj))];congr 1;refine St.same (λu=> ?_) (λu=> ?_)
    .simp only[fM,nC,gG];exact(ig λ_=>rfl).symm
    .simp only[fM,cz];by_cases e:u=id
     .subst e;simp[cW]
     .rw[az e,bS _ _ (λh=>e h.symm)];exact(ig B1).symm
   .cases V
  .subst D;cases B
 ·
  rename_i t d w G;cases S:h.rows.contains d with
  |true=>rw[S] at D;subst D;cases B
  |false=>
   rw[S] at D;simp only[aA] at D;subst D;have he:∀x,step0 P h cB o x=match Oe P h (some d) t with
    |some z=>some ((x.new d (.box t (z.map .pv))).set (some d) (.ptr d 0))
    |none=>none:=λx=>by
    have R:dW P h cB o x=none:=by simp[dW,w,fB]
    unfold step0;rw[R];simp only[ni,G,w,S,aA];rfl
   rw[he] at q;split at q
   .rename_i z hz;injection q with q;subst q;refine go (l:=[(d,none)]) ai (λt ht=>ht) λx K U=> ?_
    rw[he,hz];simp only;rw[GK (f:={ rs:=fu H o,ws:=[d],wo:=[d],mv:=[d] }) (s:=s) rfl rfl]
   .cases q
 ·
  rename_i t len I d w G;cases hby:h.fq.contains d&& !h.rows.contains d with
  |true=>rw[hby] at D;subst D;cases B
  |false=>
  rw[hby] at D;simp only[aA] at D;cases S:h.rows.contains d with
  |false=>rw[S] at D;subst D;cases B
  |true=>
   rw[S] at D;simp only[au] at D;subst D;have he:∀x,step0 P h cB o x=match kT P t len I.toList x with
    |some (e,s,xs)=>match find h.nest d with
     |none=>some ((x.new d (.row e s xs)).set (some d) (.row d))
     |some (k,e',s')=>bif Nat.blt k s&&xs.all (qF k) then some ((x.new d (.rn e s k e' s' (xs.map λc=>c.set k .hole) (xs.map λ_=>some []))).set (some d) (.row d)) else none
    |none=>none:=λx=>by
    have R:dW P h cB o x=none:=by simp only[dW,w,G,uQ,S,uP,au]
    unfold step0;rw[R];simp only[ni,G,w,hby,aA];rfl
   have hl:∀x:St,(∀t∈fu H o,x.env t=s.env t)->kT P t len I.toList x=kT P t len I.toList s:=λx K=>by
    unfold kT
    have hp:∀ty,partsOf P ty x I.toList=partsOf P ty s I.toList:=λty=>tD (λy hy t=>jd (λu e=>K u (by
     subst e
     exact cM _ (e8.2 ⟨.tmp u,by rw[w];simpa[Op.operands] using hy,rfl⟩))) t)
    simp only[hp]
   rw[he] at q;obtain⟨ob,hs',O⟩:∃ob:Ob,s'=(s.new d ob).set (some d) (.row d)/\∀x:St,kT P t len I.toList x=kT P t len I.toList s->step0 P h cB o x=some ((x.new d ob).set (some d) (.row d)):=by
    split at q
    .rename_i e sz xs hlit;split at q
     .rename_i hn;injection q with q;exact⟨_,q.symm,λx hx=>by rw[he,hx,hlit];simp only[hn]⟩
     .rename_i k e' s2 hn;obtain⟨hb,q⟩:=xq q;injection q with q;exact⟨_,q.symm,λx hx=>by rw[he,hx,hlit];simp only[hn,hb,au]⟩
    .cases q
   subst hs';refine go (l:=[(d,none)]) ai (λt ht=>ht) λx K U=> ?_
   rw[O x (hl x K),GK (f:={ rs:=fu H o,ws:=[d],wo:=[d],mv:=[d] }) (s:=s) rfl rfl]
 ·
  rename_i t I d w G;cases S:h.rows.contains d with
  |false=>rw[S] at D;subst D;cases B
  |true=>rw[S] at D;simp only[au] at D;subst D;exact rows_fx w G S q B
 ·
  rename_i t l c d w G;subst D;have R:∀x,dW P h cB o x=none:=λx=>by simp[dW,w,fB]
  obtain⟨ob,hs',O⟩:∃ob:Ob,s'=(s.new d ob).set (some d) (.row d)/\∀x:St,(∀y∈o.op.operands.toList,∀ty,bI P ty x y=bI P ty s y)->step0 P h cB o x=some ((x.new d ob).set (some d) (.row d)):=by
   unfold step0 at q;rw[R] at q;simp only[ni,G,w] at q;split at q
   .rename_i e sz k1 nl k2 nc K U h3;split at q
    .rename_i z i hz hi;split at q
     .rename_i hc;injection q with q;refine⟨_,q.symm,λx hx=> ?_⟩;unfold step0;rw[R];simp only[ni,G,w,hx l (by rw[w];simp[Op.operands]) 0,hx c (by rw[w];simp[Op.operands]) 0,K,U,h3,hz,hi];rw[aB hc]
     .cases q
    .cases q
   .cases q
  subst hs';refine go (l:=[(d,none)]) ai (λt ht=>ht) λx K U=> ?_
  rw[O x (λy hy ty=>jd (λu e=>K u (by subst e;exact cM _ (e8.2 ⟨.tmp u,hy,rfl⟩))) ty),GK (f:={ rs:=fu H o,ws:=[d],wo:=[d],mv:=[d] }) (s:=s) rfl rfl]
 .rename_i c w;split at D
  ·
   rename_i hc;unfold OU at D;split at D
   .rename_i x y t t' d hargs O3 G;split at D
    .rename_i id hx;subst D;obtain⟨ob,hs',O⟩:=aaX w hc hargs O3 G hx q;subst hs';refine go (l:=[(id,none)]) ai (λt ht=>ht) λx K U=> ?_
     rw[O x (λt ht=>K t (by simp[fu,ht])) U,GK (f:={ rs:=fu H o,ws:=[d],ro:=id::DA s o,wo:=[id],mv:=[id] }) (s:=s) rfl rfl]
    .rename_i id hx;subst D;obtain⟨ob,hs',O⟩:=Y8 w hc hargs O3 G hx q;subst hs';refine go (l:=[(id,none)]) ai (λt ht=>ht) λx K U=> ?_
     rw[O x (λt ht=>K t (by simp[fu,ht])) U,GK (f:={ rs:=fu H o,ws:=[d],ro:=id::DA s o,wo:=[id],mv:=[id] }) (s:=s) rfl rfl]
    .subst D;cases B
   .subst D;cases B
  ·
   rename_i f hc;cases how2:(o.dst.any h.owns.contains&& !(o.dst.any (λd=>(xF h d).isSome))) with
   |false=>rw[how2] at D;simp only[aA] at D;cases hmn:(!(o.dst.any h.owns.contains)&&(!(o.dst.any h.stay.contains)&&wide s c f)) with
    |false=>rw[hmn] at D;simp only[aA] at D;cases how3:o.dst.any h.owns.contains with
     |false=>rw[how3] at D;subst D;cases B
     |true=>rw[how3] at D;simp only[au] at D;subst D;exact gen_fx w hc how3 q B
    |true=>rw[hmn] at D;simp only[au] at D;rw[<-D] at B⊢;simp only[aU,jw] at hmn;exact many_fx w hc hmn.1 hmn.2.1 hmn.2.2 q B
   |true=>
    rw[how2] at D;simp only[au] at D;subst D;obtain⟨how,Kv⟩:=lH.1 how2;have he:∀x,step0 P h cB o x=iA P h cB x c f o.dst:=λx=>by
     have R:dW P h cB o x=none:=by simp only[dW,w,hc,how,au]
     unfold step0;rw[R];cases G:o.dst with
     |none=>rw[G] at how;cases how
     |some d=>rw[G] at how;simp only[ni,w,hc,G,how,au]
    have hox:∀x:St,(∀t∈fu H o,x.env t=s.env t)->∀y∈o.op.operands.toList,∀ty,bI P ty x y=bI P ty s y:=λx K y hy' ty=>jd (λu e=>K u (by
     subst e
     exact cM _ (e8.2 ⟨.tmp u,hy',rfl⟩))) ty
    rw[he] at q;unfold iA at q;split at q
    .rename_i d G;have hn:(xF h d).isSome=false:=by simpa[G] using Kv
     have hgv:find h.rE d=none:=by cases hg:find h.rE d with
      |none=>rfl
      |some gv=>simp[xF,hg] at hn
     rw[hn,hgv] at q;simp only[] at q;split at q
     .rename_i g caps vs hf hvs;split at q
      rotate_left
      .rename_i cs' hr
       have:xF h d=none:=by simpa using hn
       rw[this] at q;cases q
      .cases q
      rename_i e sz xs hr;injection q with q;subst q;refine go (l:=[(d,none)]) (by simp[G]) (λt ht=>ht) λx K U=> ?_
      have k1:=hox x K f (by rw[w];simp[Op.operands,Call.operands,hc]) 0;have k2:=Ce (P:=P) (b:=false) (st:=x) (st':=s) (xs:=c.args.toList) (ts:=c.argTypes.toList) (λy hy=>hox x K y (by rw[w];simp only[Op.operands,Call.operands,iT,bu];exact .inr hy));rw[he];unfold iA;rw[G];simp only[hgv,hn,k1,k2,hf,hvs,hr,aA];exact aP some (GK (f:={ rs:=fu H o,ws:=(some d).toList,wo:=(some d).toList,mv:=(some d).toList }) (s:=s) rfl rfl)
     .cases q
    .cases q
  .subst D;cases B
 .rename_i hq _;exact absurd ⟨_,_,hq⟩ hld
 .subst D;cases B
def SL {ops:Array Oper} {o:Oper}:∀{l:List Nat} {s s':St},(mT l s).bind (step0 P h cB o)=some s'->(Nr P h ops o l s).all=false->∃ev ov m,jP (λx=>(mT l x).bind (step0 P h cB o)) s (Nr P h ops o l s) ev ov m
 |[],s,s',q,w=>by simp only[mT,kB] at q⊢;simp only[Nr] at w⊢;cases z:isF h s o with
  |false=>simp_all[aA,Vn]
  |true=>rw[z] at w;simp only[au] at w⊢;cases S:(isW o.op||isWc s o.op) with
   |false=>rw[S] at w;cases w
   |true=>simp only[au];cases D:dW P h cB o s with
    |some v=>exact⟨_,_,_,UC D⟩
    |none=>exfalso;unfold step0 at q;rw[D] at q;simp only at q;cases B:o.op with
     |buildSlice t len R=>
      simp only[isF,B] at z;obtain⟨z,G⟩:o.dst.any h.rows.contains=false/\o.dst.any h.fq.contains=false:=by simpa using z
      simp only[dW,B,z,G,Bool.or_self,aA,Option.map_eq_none_iff] at D;cases H:o.dst with
      |none=>simp[ni,B,H] at q
      |some d=>rw[H] at G;simp only[uQ] at G;simp only[ni,B,H,G,pR,aA,D] at q;cases q
     |build t R=>
      simp only[isF,B] at z;have z:o.dst.any h.rows.contains=false:=by simpa using z
      cases H:o.dst with
      |none=>simp[ni,B,H] at q
      |some d=>simp_all[ni,aA]
     |load t x=>
      simp only[isF,B] at z;have z:o.dst.any h.take.contains=false:=by simpa using z
      cases H:o.dst with
      |none=>simp[ni,B,H] at q
      |some d=>simp_all[ni,aA]
     |call c=>simp only[isW,B,pO,isWc] at S;cases hc:c.callee with
      |value f=>
       rw[hc] at S;simp only[jw] at S;have U:∀x∈c.args.toList,kV s x=false:=λx hx=>by grind
       have hag:c.args.toList.any (zn s)=false:=by rw[zq];intro x hx ha;have F:=U x hx;cases x with
        |tmp i=>simp only[zn] at ha;simp only[kV] at F;grind
        |_=>cases ha
       have oD:∀l:List Operand,(∀x∈l,kV s x=false)->ni.ia s l=some s:=by intro l;induction l with
        |nil=>intro _;rfl
        |cons x l ih=>
         intro hl;have F:=hl x ai;have h2:=ih λy hy=>hl y (by simp[hy])
         cases x with
         |tmp i=>simp only[ni.ia];simp only[kV] at F;grind
         |_=>exact h2
       have hpa:ni.jH s c.args.toList=some s:=by unfold ni.jH;rw[hag];exact oD _ U
       simp only[isF,B,hc,aU,jw,gx] at z;obtain⟨how,z⟩:=z
       have he:ni P h cB o s=(bif o.dst.any h.owns.contains then iA P h cB s c f o.dst else bif o.dst.any h.stay.contains&&wide s c f then none else bif wide s c f then jT P h cB s c f o.dst else bif c.args.toList.any (λx=>(pE h s x).isSome) then qe P h cB s c f o.dst else
        match ni.jH s c.args.toList with
        |some I=>match bI P 0 I f,jN P I c.args.toList c.argTypes.toList with
         |some (.pv (.fn g K)),some vs=>match cB g ((vs++K).map .pv) [] with
          |some (r,[])=>bif c.args.toList.any (kV I)|| !r.jG then none else some (I.set o.dst (.pv r))
          |_=>none
         |_,_=>none
        |none=>none):=by
        cases H:o.dst<;>simp only[ni,B,hc,H]<;>rfl
       rw[he,how] at q;simp only[aA] at q;rcases z with z|z
       .simp_all
       .obtain⟨ZL,hrf⟩:=(fT).1 z;rw[ZL,hrf,hpa] at q;simp only at q;simp only[dW,B,hc] at D;rw[how,ZL,hrf] at D;split at q
        .rename_i g K vs F h2;rw[F,h2] at D;simp only at D;split at q
         .rename_i r hr;rw[hr] at D;simp[S] at D q;cases V:r.jG with
          |true=>rw[V] at D;cases D
          |false=>rw[V] at q;cases q
         simp_all
        simp_all
      |_=>simp_all
     |_=>simp[isW,isWc,B] at S
 |t::l,s,s',q,w=>by simp[mT] at q;cases F:qw s t with
  |none=>simp_all
  |some s1=>
   rw[F] at q;simp[Nr,F] at w⊢;have O :=by simp[ga.then,fT] at w;exact w.2
   obtain⟨ev,ov,m,r1⟩:=aac F;obtain⟨ev',ov',m',r2⟩:=SL q O;have e1:=r1.at F;rw[e1] at r2;obtain⟨ev2,ov2,r3⟩:=YP r1 r2;rw[<-e1] at r3;refine⟨ev2,_,_,r3.1,r3.2.1,λx k1 k2 k3=> ?_⟩;rw[<-r3.2.2 x k1 k2 k3];grind[mT]
theorem Zv {l:Array Oper} {k:Nat} {o:Oper} {s F:St} (U:l[k]? =some o) (V:qp l o s=some true) (B:step P h cB o s=some F) (w:((uK P h l o s).fill s F).all=false):
  ∃G O m,JD (qP P h cB l k) s ((uK P h l o s).fill s F) G O m/\RI s ((uK P h l o s).fill s F):=by
 have z :=by simp[uK,ga.then,rJ] at w;exact w
 obtain⟨G,O,m,r⟩:=SL B z;have D:jP (step P h _ o) s (uK P h l o s) _ _ m:=r.imp (λt q=>by simp[uK,ga.then,q]) (λt q=>by simp[uK,ga.then,q]) (λt q=>by simp[uK,ga.then,q]) (λt=>by rfl) (λt=>by rfl) (λt q=>by simp[uK,ga.then,q]) (λt q K=>by simp_all[uK,ga.then]);have e:=D.at B;refine OQ D.1 (λx H R S=> ?_) λj I K=> ?_
 rotate_left
 .rw[e,skO I];exact D.2.1 j I K
 simp[qP,U];rw[AT λt q=>H t (by simp[uK,ga.then,q]),V];simp only;rw[D.2.2 x H R S,e];congr 1;refine St.same (λt=> ?_) (λj=> ?_)
 .simp[fM];simp_all
 .simp[fM];simp_all
def run_of {w:Array Oper}:∀(l:List Oper) (i:Nat) (z:List (Nat×ga)) (B s:St),(∀k o,l[k]? =some o->w[i+k]? =some o)->jZ P h cB w i l z B=some s->
  ∃F:List (Nat×ga),F.length=l.length/\(∀j,j∈F.map (·.1)↔i<=j/\j<i+l.length)/\F.Pairwise (λp q=>p.1<q.1)/\Oj (qP P h cB w) F B s/\
   (∀p∈z,∀q∈F,p.2.conflict q.2=true->reach w 12 q.1 p.1=true)/\F.Pairwise (λp q=>p.2.conflict q.2=true->reach w 12 q.1 p.1=true):=by
 intro l;induction l with
 |nil=>intro i z B s _ D;simp only[jZ,bg] at D;exact⟨[],rfl,by simp, .nil,D,by simp, .nil⟩
 |cons o l ih=>
  intro i z B s R D;have V:w[i]? =some o:=by simpa using R 0 o ai
  have H:∀(f:ga) (G:St),qP P h cB w i B=some G->(f.all=false->∃ev ov m,JD (qP P h cB w i) B f ev ov m/\RI B f)->yb w z i f=true->jZ P h cB w (i+1) l ((i,f)::z) G=some s->
    ∃F:List (Nat×ga),F.length=(o::l).length/\(∀j,j∈F.map (·.1)↔i<=j/\j<i+(o::l).length)/\F.Pairwise (λp q=>p.1<q.1)/\Oj (qP P h cB w) F B s/\
     (∀p∈z,∀q∈F,p.2.conflict q.2=true->reach w 12 q.1 p.1=true)/\F.Pairwise (λp q=>p.2.conflict q.2=true->reach w 12 q.1 p.1=true):=λf G h1 h2 h3 h4=>by
   obtain⟨F,k0,k1,k2,k3,k4,k5⟩:=ih (i+1) ((i,f)::z) G s (λk o' hk=>by
    have:=R (k+1) o' (by assumption)
    grind) h4
   refine⟨(i,f)::F,by simp[k0],λj=> ?_, .cons (λq O=> ?_) k2,⟨G,h1,h2,k3⟩,λp hp q O K=> ?_, .cons (λq O=>k4 (i,f) ai q O) k5⟩
   .simp only[bH,aN,k1,bz];omega
   .have:=(k1 q.1).1 (aD.2 ⟨q,O,rfl⟩);omega
   .rcases aN.1 O with rfl|O
    .have:=cI.1 h3 p hp;simpa[K] using this
    grind
  simp only[jZ] at D;split at D
  .cases D
  .rename_i b hw;cases b with
   |false=>simp only[aA] at D;cases I:yb w z i ((tN w o).fill B (B.set o.dst .undef)) with
    |false=>simp[I] at D
    |true=>simp only[I,au] at D;exact H _ _ (by simp only[qP,V,hw]) (λ_=>skip_ok V hw) I D
   |true=>cases hF:(isF h B o&&(FE h o).isEmpty) with
    |true=>
     have S :=by simp only[aU] at hF;exact zz.1 hF.2
     simp[hF] at D;cases U:dW P h cB o B with
     |none=>simp[U] at D
     |some v=>simp[U] at D;cases K:yb w z i ((wj P h w o B).fill B (B.set o.dst v)) with
      |false=>simp[K] at D
      |true=>simp[K] at D;exact H _ _ (by simp[qP,V,hw,step,S,mT,kB,step0,U]) (λ_=>aex V hw S U) K D
    |false=>cases hs:step P h cB o B with
     |none=>simp_all
     |some G=>cases K:yb w z i ((uK P h w o B).fill B G) with
      |false=>simp_all
      |true=>grind[qP,Zv]
def Zq:∀{l:List Oper} {i:Nat},td i l=true->∀(p:Nat) (o:Oper),l[p]? =some o->∀e∈o.after.toList,Region.binds .any e=true->e.on<i+p:=by intro l;induction l with
 |nil=>simp
 |cons x l D=>intro i w p o q e z B;simp only[td,aU] at w;cases p with
  |zero=>simp at q;subst q;have:=cI.1 w.1 e z;simp_all
  |succ p=>grind
def P4 {l:Array Oper} {D:Nat->Prop} (w:∀j o,D j->l[j]? =some o->∀e∈o.after.toList,Region.binds .any e=true->D e.on):
  ∀(n i j:Nat),(∀o,l[i]? =some o->∀e∈o.after.toList,Region.binds .any e=true->D e.on)->reach l n i j=true->D j:=by
 intro n;induction n with
 |zero=>simp_all[reach]
 |succ n B=>intro i j q h;simp[reach] at h;cases z:l[i]? with
  |none=>grind
  |some o=>
   simp[z,gx] at h;rcases h with h|h
   .simp[abr] at h;grind[beq_iff]
   grind
theorem Rel.dG {N:Nat} {w0:World} {μ0:Mu} {L:s7} {μ:Mu} {F:Nat->Value} {z:St} {a:Act} {w:World} (H:Rel N w0 μ0 L μ F z a w) (id:Nat):Rel N w0 μ0 L μ F (z.dG id) a w:=by
 have l:∀j o,(z.dG id).ob j=some o->∃G,z.ob j=some G/\o=G.dG id:=λj o q=>by
  simp[St.dG] at q;by_cases e:id=j
  .subst e;simp[cW] at q
  .simp[bS _ _ e] at q;cases B:z.ob j with
   |none=>simp_all
   |some G=>simp_all
 refine { H with env:=λi sv I=> ?_,obs:=λj o q=> ?_,apart:=λi j oi oj hi hj=> ?_ }
 .simp[St.dG] at I;cases B:z.env i with
  |none=>simp_all
  |some s=>simp[B] at I;subst I;obtain⟨v,hv,hs⟩:=H.env i s B;simp_all[iK]
 .obtain⟨G,D,rfl⟩:=l j o q;have:=H.obs j _ D;cases G with
  |row e sz xs=>exact this
  |mp k e ks R=>exact this
  |rn e s k e' s' xs ys=>exact this
  |lp s=>exact this
  |box t cells=>obtain⟨b,R,B,h2,S,h4,U,V⟩:=this;refine⟨b,R,B,h2,S,h4,?_,V⟩;clear S V D q;induction cells generalizing R with
   |nil=>exact U
   |cons c cs ih=>obtain⟨u,us,rfl,k1,k2⟩:=U;exact⟨u,us,rfl,iK k1,ih _ k2⟩
 .obtain⟨oi',K,_⟩:=l i _ hi;obtain⟨oj',O,_⟩:=l j _ hj;exact H.apart i j _ _ K O
def Rel.sB {N:Nat} {w0:World} {μ0:Mu} {L:s7} {D:Mu} {q:Nat->Value} {a:Act} {w:World}:∀(l:List Nat) (B:St),Rel N w0 μ0 L D q B a w->Rel N w0 μ0 L D q (AM.sB l B) a w
 |[],_,z=>z
 |p::l,B,z=>Rel.sB l _ (z.dG p)
end
section
variable {P:Program} {N:Nat} {w0:World} {μ0:Mu} {L:s7} {h:Hint} {cB:eE} {Q:Exit->Act->World->Prop}
def Vk (xA:ic L.q μ0 P cB) {z:Array Oper} {st stF:St} (hedges:td 0 z.toList=true)
  (hrun:jZ P h cB z 0 z.toList [] (sB (yE z.toList) st)=some stF) (hd:∀o∈z.toList,∀i,o.dst=some i->i<N)
  (hQ:∀a' w' μ' O,Rel N w0 μ0 L μ' O stF a' w'->Q .normal a' w') {μ:Mu} {loc:Nat->Value} {a:Act} {w:World} (hR:Rel N w0 μ0 L μ loc st a w) {F:Fence} (hF:Wd F):
  wpAnyIn F 0 P .any z Q z.size (Array.replicate z.size false) a w:=by
 obtain⟨fs0,hl0,hm0,hs0,hr0,_,hp0⟩:=run_of z.toList 0 [] _ _ (λk o hk=>by simp_all) hrun;let D:Array Bool->Nat->Prop:=λl j=>l.getD j false=true
 have main:∀(B:Nat) (l:Array Bool) (a:Act) (w:World) (μ:Mu) (loc:Nat->Value) (fs:List (Nat×ga)) (x:St),l.size=z.size->fs.length<=B->
   (∀j o,D l j->z[j]? =some o->∀e∈o.after.toList,Region.binds .any e=true->D l e.on)->
   (∀j,j∈fs.map (·.1)↔j<z.size/\¬D l j)->fs.Pairwise (λp q=>p.1<q.1)->Oj (qP P h cB z) fs x stF->fs.Pairwise (λp q=>p.2.conflict q.2=true->reach z 12 q.1 p.1=true)->Rel N w0 μ0 L μ loc x a w->
   wpAnyIn F 0 P .any z Q B l a w:=by
  intro B;induction B with
  |zero=>intro l a w μ loc fs x hsz hle hcl G _ I _ R;have Kv:fs=[]:=lS af;subst Kv;have hx:x=stF:=I;subst hx;refine⟨?_,hQ _ _ _ _ R⟩;unfold Region.ready;apply zy.2;grind
  |succ B ih=>
   intro l a w μ loc fs x hsz hle hcl G K I HP R;have hready:∀i,i∈Region.ready .any z l->∃o,z[i]? =some o/\i<z.size/\¬D l i/\∀e∈o.after.toList,Region.binds .any e=true->D l e.on:=by
    intro i hi;unfold Region.ready at hi;simp only[cT,gQ,aU,jw] at hi;obtain⟨U,hnl,H⟩:=hi;have ho:z[i]? =some (z[i]'U):=Ew U;refine⟨_,ho,U,?_,?_⟩
    .have hl':i<l.size:=by omega
     have:l[i]=false:=by simpa[Array.getD,hl'] using hnl
     simp[D,Array.getD,hl',this]
    .intro e he hb;simp only[ho,e9,rK] at H;have:=Ey.1 H e (by simpa using he);simpa[hb,D] using this
   have ab2:∀i,i<z.size->∀j,D (l.setIfInBounds i true) j↔(D l j\/j=i):=by
    intro i hi j;have hl':i<l.size:=by omega
    by_cases S:j<l.size
    .by_cases e:i=j
     .subst e;simp[D,Array.getD,S]
     .have e':j≠i:=λh=>e h.symm
      simp[D,Array.getD,S,e,e',Array.getElem_setIfInBounds]
    .have e':j≠i:=λh=>by subst h;exact S hl'
     have h1:(l.setIfInBounds i true).getD j false=false:=by simp[Array.getD,S]
     have h2:l.getD j false=false:=by simp[Array.getD,S]
     simp only[D,h1,h2,e',pQ]
   refine⟨λKv=> ?_,λi hi=> ?_⟩
   ·
    cases fs with
    |nil=>have hx:x=stF:=I;subst hx;exact hQ _ _ _ _ R
    |cons p fs=>
     exfalso;have hp:=(G p.1).1 ai;have hlow:∀k,k<p.1->D l k:=λk hk=>ff λhn=>by
      have:=(G k).2 ⟨af,hn⟩;simp only[bH,aN] at this;rcases this with e|hk'
      .omega
      .obtain⟨q,hq,rfl⟩:=aD.1 hk';have:=(dN.1 K).1 q hq;omega
     have ho:z[p.1]? =some (z[p.1]'hp.1):=Ew hp.1;have hs2:=Zq hedges p.1 (z[p.1]'hp.1) ai;have hl':p.1<l.size:=by omega
     have hmem':p.1∈Region.ready .any z l:=by
      unfold Region.ready;simp only[cT,gQ,aU,jw];refine⟨hp.1,?_,?_⟩
      .grind
      .simp only[ho,e9,rK];apply Ey.2;intro e he;cases hb:Region.binds .any e with
       |false=>rfl
       |true=>have:=hlow e.on (by simpa using hs2 e (by simpa using he) hb);simpa[D] using this
     rw[Kv] at hmem';cases hmem'
   .obtain⟨o,ho,U,hnD,H⟩:=hready i hi;obtain⟨p,hpm,hpe⟩:=aD.1 ((G i).2 ⟨U,hnD⟩);obtain⟨pre,post,rfl⟩:=Ez hpm;subst hpe;have hpre:∀q∈pre,q.2.conflict p.2=false:=λq hq=>by
     cases hc:q.2.conflict p.2 with
     |false=>rfl
     |true=>have hr:=(rL.1 HP).2.2 q hq p ai hc;have:=P4 hcl 12 p.1 q.1 (λo' ho'=>by rw[ho] at ho';injection ho' with ho';subst ho';exact H) hr;exact absurd this ((G q.1).1 (by simp only[cE,bu];exact .inl (aD.2 ⟨q,hq,rfl⟩))).2
    obtain⟨s1,V,hruns',_⟩:=Oj.front (i:=p.1) (f:=p.2) pre x I hpre;have hnext:∀a' w' μ' O,Rel N w0 μ0 L μ' O s1 a' w'->wpAnyIn F 0 P .any z Q B (l.setIfInBounds p.1 true) a' w':=λa' w' μ' O hR'=>by
     have hnp:∀q∈pre++post,q.1≠p.1:=λq hq e=>by
      rcases bu.1 hq with h1|h1
      .have:=(rL.1 K).2.2 q h1 p (by simp);omega
      .have:=(dN.1 (rL.1 K).2.1).1 q h1;omega
     refine ih _ a' w' μ' O (pre++post) s1 (by simp[hsz]) (by simp at hle⊢;omega) (λj oj S hoj e he hb=> ?_) (λj=> ?_) (K.sublist ai) hruns' (HP.sublist ai) hR'
     .grind
     .rw[ab2 _ U];have:=G j;simp only[cE,bH,bu,aN] at this⊢;constructor
      .intro S;obtain⟨k1,k2⟩:=this.1 (S.elim .inl λh=> .inr (.inr h));refine⟨k1,λh=>h.elim k2 λe=> ?_⟩;subst e;rcases S with S|S<;>obtain⟨q,hq,e⟩:=aD.1 S<;>exact hnp q (by simp[hq]) e
      .rintro⟨k1,k2⟩;rcases this.2 ⟨k1,λh=>k2 (.inl h)⟩ with h1|h1|h1
       .exact .inl h1
       .exact absurd (.inr h1) k2
       .exact .inr h1
    have hdo :=hd o (by grind);unfold wpOpIn;simp[ho];simp[qP,ho] at V;split at V
    .rename_i hw;rw[AU R hw];exact LC R xA hdo V hnext F hF
    .rename_i hw;injection V with V;subst V;rw[AU R hw];exact⟨λf _=>hF.fn f,hnext _ _ _ _ (R.set hdo (rfl))⟩
    simp_all
 have hnone:∀j,¬D (Array.replicate z.size false) j:=λj=>by by_cases S:j<z.size<;>simp[D,Array.getD]
 refine main _ _ a w _ _ _ _ ai (by simp[hl0]) (λj o S=>absurd S (hnone j)) (λj=> ?_) hs0 hr0 hp0 (Rel.sB _ _ hR);simp_all
end
