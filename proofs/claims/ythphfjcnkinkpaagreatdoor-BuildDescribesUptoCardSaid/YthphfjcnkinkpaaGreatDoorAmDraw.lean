/- THE ABSTRACT MACHINE. -/
import Derived.Test.YthphfjcnkinkpaaGreatDoorAmRun
set_option linter.all false
namespace Go.AM
open Go.RowKit
section
variable {P:Program} {h:Hint} {cB:eN}
def jg {q l:St} {x:Operand} (w:∀t,x= .tmp t->q.env t=l.env t) (ty:TypeId):bP P ty q x=bP P ty l x:=by cases x with
 |tmp t=>exact w t rfl
 |_=>rfl
def NV (P:Program) (q l:St) (x:Operand):Prop:=∀ty w,bP P ty q x=some w->∀id∈w.ids,q.ob id=l.ob id
def wZ {q l:St} {v:SV} (z:∀id∈v.ids,q.ob id=l.ob id):elems q v=elems l v:=by cases v with
 |sub id s B w=>grind[elems,SV.ids]
 |row id=>grind[elems,SV.ids]
 |pv x=>cases x<;>rfl
 |_=>rfl
def Tb {w l:St} {v:SV} (z:∀id∈v.ids,w.ob id=l.ob id):lenOf w v=lenOf l v:=by cases v with
 |row id=>grind[lenOf,SV.ids]
 |pv x=>cases x<;>rfl
 |aq _ q=>cases q<;>rfl
 |_=>rfl
theorem Kh {q l:St} {v:SV} (w:∀id∈v.ids,q.ob id=l.ob id):maps q v=maps l v:=by cases v with
 |row id=>grind[maps,SV.ids]
 |pv x=>cases x<;>rfl
 |_=>rfl
def V1 {z l:St} {v:SV} (B:∀id∈v.ids,z.ob id=l.ob id):nX z v=nX l v:=by cases v with
 |row id=>grind[nX,SV.ids]
 |ag w=>
  have key:∀w:List _,(∀id∈(SV.ag w).ids,z.ob id=l.ob id)->kq z w=kq l w:=by intro w;induction w with
   |nil=>intro _;rfl
   |cons c w D=>grind[SV.ids,kq]
  simp[nX,key _ B]
 |aq id q=>cases q with
  |full=>rfl
  |bs n=>rfl
  |nr i=>grind[nX,SV.ids]
 |_=>rfl
def Mj {st st':St} {xs:List Operand} {ts:List TypeId} (l:∀x∈xs,NV P st st' x) (w:∀x∈xs,∀ty,bP P ty st x=bP P ty st' x):jO P st xs ts=jO P st' xs ts:=by induction xs generalizing ts with
 |nil=>rfl
 |cons x xs B=>
  have z:(bP P (ts.headD 0) st x).bind (nX st)=(bP P (ts.headD 0) st' x).bind (nX st'):=by rw[<-w x ai];cases q:bP P _ _ x with
   |none=>rfl
   |some D=>exact V1 (l x ai _ _ q)
  simp_all[jO]
def BT {st st':St} {b:Bool}:∀{xs:List Operand} {ts:List TypeId},(∀x∈xs,∀ty,bP P ty st x=bP P ty st' x)->sD P b st xs ts=sD P b st' xs ts
 |[],_,_=>rfl
 |x::xs,ts,l=>by simp[sD,PE];rw[l x ai,BT (λy q=>l y (by simp[q]))]
theorem tH {w q:St} {ty:Nat->TypeId} {l:List (Nat×Operand)} (z:∀x∈l.map (·.2),∀t,bP P t w x=bP P t q x):partsOf P ty w l=partsOf P ty q l:=by induction l with
 |nil=>rfl
 |cons p l B=>simp_all[partsOf]
theorem AF {z w:St} {b:Bool} {q:AV} {l:List Operand} (B:∀x∈l,∀t,bP P t z x=bP P t w x):mT P z b q l=mT P w b q l:=by induction l generalizing q with
 |nil=>rfl
 |cons x l D=>simp_all[mT]
theorem TC {B l:St} {c:Call} (q:∀x∈c.args.toList,NV P B l x) (G:∀x∈c.args.toList,∀ty,bP P ty B x=bP P ty l x):AH P c B=AH P c l:=by
 obtain⟨H,⟨args⟩,tys⟩:=c;unfold AH;simp at G q⊢;split
 .rename_i x;have z:=G x ai;have w:=q x ai;split
  .rename_i t _;rw[<-z t];cases F:bP P t _ x with
   |none=>simp
   |some I=>have:=Tb (w t _ F);have D:=Kh (w t _ F);grind
  .rfl
 .grind[AF]
 .grind[AF]
 .rfl
def C8 {st st':St} {x:Option Operand} (l:∀y,x=some y->∀ty,bP P ty st y=bP P ty st' y):nZ P st x=nZ P st' x:=by cases x with
 |none=>rfl
 |some y=>simp[nZ,l y _]
def Wx {D w:St} {o:Oper} (B:Tu o.op=false->∀x∈o.op.operands.toList,NV P D w x) (q:∀x∈o.op.operands.toList,∀ty,bP P ty D x=bP P ty w x):fB P o D=fB P o w:=by obtain⟨dst,op,type,pos,after,guard⟩:=o;simp only at q;cases op with
 |move x=>simp_all[Op.operands,fB]
 |assign x=>simp_all[Op.operands,fB]
 |pick c a b=>simp_all[Op.operands,fB]
 |binOp op t x y t'=>simp_all[Op.operands,fB]
 |unOp op t x=>simp_all[Op.operands,fB]
 |convert s d x=>
  have z:=q x (by simp[Op.operands]);have F:=B rfl x (by simp[Op.operands]) s;have he:(bP P s D x).bind (elems D)=(bP P s w x).bind (elems w):=by rw[<-z s];cases G:bP P s D x with
   |none=>rfl
   |some K=>exact wZ (F _ G)
  simp only[fB,z 0,he]
 |nilCheck x=>simp_all[Op.operands,fB]
 |fieldAddr t x f=>simp_all[Op.operands,fB]
 |field t x f=>simp_all[Op.operands,fB]
 |indexAddr t x i=>
  have z:=q x (by simp[Op.operands]);have R:=q i (by simp[Op.operands]);have F:=B rfl x (by simp[Op.operands]) t;have hsl:w8 P D t x i=w8 P w t x i:=by unfold w8;rw[<-z t,<-R 0];cases G:bP P t D x with
   |none=>simp
   |some K=>have H:=F _ G;grind[isSlice,id,bP,SV.ids]
  simp_all[Dz,fB]
 |index t x i=>simp_all[Op.operands,fB]
 |load t x=>have z:=q x (by simp[Op.operands]);have F:=B rfl x (by simp[Op.operands]) 0;simp only[fB];rw[<-z 0];cases G:bP P 0 D x with
  |none=>rfl
  |some K=>have H:=F _ G;grind[id,SV.ids]
 |lookup t x k ok=>
  have z:=q x (by simp[Op.operands]);have hk:=q k (by simp[Op.operands]);have F:=B rfl x (by simp[Op.operands]) t;have O:(bP P t D x).bind (maps D)=(bP P t w x).bind (maps w):=by rw[<-z t];cases G:bP P t D x with
   |none=>rfl
   |some K=>exact Kh (F _ G)
  simp only[fB,O,hk]
 |extract x i=>simp_all[Op.operands,fB]
 |slice t x V U mx=>cases mx with
  |some m=>simp only[fB,Xr];cases V with
   |some l=>rfl
   |none=>cases U with
    |none=>rfl
    |some y=>have z:=q x (by simp[Op.operands]);have R:=q y (by simp[Op.operands]);have O:=q m (by simp[Op.operands]);have F:=B rfl x (by simp[Op.operands]) t;simp only;rw[<-R 0,<-O 0,<-z t];cases G:bP P t D x with
     |none=>rfl
     |some K=>have H:=F _ G;grind[id,SV.ids]
  |none=>have z:=q x (by simp[Op.operands]);have hl:=C8 (P:=P) (st:=D) (st':=w) (x:=V) (λy e=>by simp_all[Op.operands]);have hh:=C8 (P:=P) (st:=D) (st':=w) (x:=U) (λy e=>by simp_all[Op.operands]);have F:=B rfl x (by simp[Op.operands]) t;simp[fB];rw[<-z t];cases G:bP P t _ x with
   |none=>simp
   |some K=>have H:=F _ G;grind[SV.ids]
 |build t S=>grind[tH,Op.operands,fB,zD]
 |call c=>
  have I:∀x∈c.args.toList,x∈(Op.call c).operands.toList:=λx z=>by simp_all[Op.operands,Call.operands]
  have:=TC (λx z=>B rfl x (I x z)) (λx z=>q x (I x z));assumption
 |_=>simp[fB]
def vD {D:St}:∀{l:List Operand} {x:Operand} {ty:TypeId} {B:SV} {id:Nat},x∈l->bP P ty D x=some B->id∈B.ids->id∈M8 D l:=by intro l;induction l with
 |nil=>simp
 |cons y l F=>
  intro x ty B id z w q;rcases aS.1 z with rfl|z
  .cases x with
   |tmp t=>simp_all[bP,M8]
   |const v=>simp[bP] at w;cases G:ofConst P ty v with
    |none=>simp_all
    |some y=>grind[SV.ids]
   |func f=>grind[bP,SV.ids]
   |global g=>simp[bP] at w
  .have:=F z w q;cases y with
   |tmp t=>simp_all[M8]
   |_=>assumption
def xO (q:St):∀(n:Nat) (l done:List Nat),∀id∈done,id∈gI q n l done
 |0,l,done,id,h=>by assumption
 |n+1,[],done,id,h=>by assumption
 |n+1,x::l,done,id,h=>by simp only[gI];cases done.contains x with
  |true=>exact xO _ n _ _ _ h
  |false=>exact xO _ n _ _ _ (by simp[h])
def pg {w q:St}:∀(n:Nat) (l done:List Nat),(∀id∈gI w n l done,w.ob id=q.ob id)->gI w n l done=gI q n l done
 |0,l,done,h=>by rfl
 |n+1,[],done,h=>by rfl
 |n+1,x::l,done,h=>by simp only[gI] at h⊢;cases z:done.contains x with
  |true=>rw[z] at h;exact pg n _ _ h
  |false=>
   rw[z] at h;have D :=h x (xO _ n _ _ x ai);have B:Cv w x=Cv q x:=by simp[Cv,D]
   rw[<-B];exact pg n _ _ h
def tE {z w:St} {ids:List Nat} {B:Nat->Nat}:∀{l:List (Nat×Nat)},(∀p∈l,z.ob p.1=w.ob p.1)->jP z ids B l=jP w ids B l
 |[],_=>rfl
 |p::l,h=>by obtain⟨id,F⟩:=p;simp[jP];rw[h (id,F) ai,tE (λq D=>h q (by simp[D]))]
def zA {z l:St}:∀{xs:List Operand} {q:List TypeId},(∀x∈xs,∀ty,bP P ty z x=bP P ty l x)->ur P h z xs q=ur P h l xs q
 |[],q,_=>rfl
 |x::xs,q,w=>by simp[ur,aaG];rw[w x ai,zA (λy B=>w y (by simp[B]))]
def Oa {st st':St} {c:Call} {f:Operand} (D:bP P 0 st f=bP P 0 st' f) (B:∀x∈c.args.toList,∀ty,bP P ty st x=bP P ty st' x)
  (l:∀g args,uA P h st c f=some (g,args)->∀id∈jB st args,st.ob id=st'.ob id):tf P h cB st c f=tf P h cB st' c f:=by
 have e1:uA P h st c f=uA P h st' c f:=by unfold uA;rw[D,zA B]
 unfold tf;rw[<-e1];cases G:uA P h _ c f with
 |none=>rfl
 |some p=>
  obtain⟨g,args⟩:=p;simp only;have q:=l g _ G;have w:jB _ _=jB _ _:=pg _ _ _ q;rw[<-w];have z:jP _ (jB st args) (iN (mw (jB st args))) (mw (jB st args))=jP _ _ _ _:=
   tE (λp F=>q _ (by
    have:p.1∈(mw _).map _:=aG.2 ⟨p,F,rfl⟩
    simp_all[mw,tT]))
  rw[z]
def Vl {D q:St} {o:Oper} (H:Tu o.op=false->∀id∈C7 D o,D.ob id=q.ob id) (R:∀id∈KX P h o D,D.ob id=q.ob id) (G:∀t∈slotsOf o,D.env t=q.env t):ey P h cB o D=ey P h cB o q:=by
 have K:Tu o.op=false->∀x∈o.op.operands.toList,NV P D q x:=λhn x F ty sv ho id U=>H hn id (vD F ho U)
 have z:∀x∈o.op.operands.toList,∀ty,bP P ty D x=bP P ty q x:=λx F ty=>jg (λt e=>G t (by
  subst e
  exact fe.2 ⟨.tmp t,F,rfl⟩)) ty
 have I:=Wx (P:=P) (o:=o) K z;obtain⟨S,op,type,pos,after,guard⟩:=o;simp only at z;cases op with
 |buildSlice t len O=>
  have hp:∀ty,partsOf P ty D O.toList=partsOf P ty q O.toList:=λty=>tH (λx F=>z x (by simpa[Op.operands] using F))
  simp[ey,kY,hp]
 |call c=>obtain⟨cal,⟨args⟩,⟨tys⟩⟩:=c;cases cal with
  |value f=>
   have w:∀x∈args,x∈(Op.call { callee:=Callee.value f,args:=⟨args⟩,argTypes:=⟨tys⟩ }).operands.toList:=λx F=>by simp_all[Op.operands,Call.operands,iY,bu]
   have hf:=z f (by simp[Op.operands,Call.operands]);have ha:=Mj (P:=P) (st:=D) (st':=q) (xs:=args) (ts:=tys) (λx F=>K rfl x (w x F)) (λx F=>z x (w x F));have hr:args.any (lu D)=args.any (lu q):=by
    have key:∀x∈args,lu D x=lu q x:=λx F=>by cases x with
     |tmp t=>have:=z (.tmp t) (w _ F) 0;simp_all[bP,lu]
     |_=>rfl
    clear ha w z I G K H R;induction args with
    |nil=>rfl
    |cons x xs ih=>simp_all
   have V:args.any (λx=>(pK h D x).isSome)=args.any (λx=>(pK h q x).isSome):=by
    have key:∀x∈args,pK h D x=pK h q x:=λx F=>by cases x with
     |tmp t=>have:=z (.tmp t) (w _ F) 0;simp_all[bP,pK]
     |_=>rfl
    clear ha w z I G hr K H R;induction args with
    |nil=>rfl
    |cons x xs ih=>simp_all
   have hwide:wide D { callee:=Callee.value f,args:=⟨args⟩,argTypes:=⟨tys⟩ } f=wide q { callee:=Callee.value f,args:=⟨args⟩,argTypes:=⟨tys⟩ } f:=by
    have kf:VA D f=VA q f:=by cases f with
     |tmp t=>simp_all[bP,VA]
     |_=>rfl
    have key:∀x∈args,EK D x=EK q x:=λx F=>by cases x with
     |tmp t=>have:=z (.tmp t) (w _ F) 0;simp_all[bP,EK]
     |_=>rfl
    have kk:args.any (EK D)=args.any (EK q):=by clear ha w z I G hr K H V R;induction args with
     |nil=>rfl
     |cons x xs ih=>simp_all
    simp only[wide,kf,kk]
   cases how:S.any h.owns.contains with
   |true=>simp[ey,how]
   |false=>
   cases hst:S.any h.stay.contains with
   |false=>simp_all[ey]
   |true=>
    have hc:=Oa (P:=P) (h:=h) (cB:=cB) (st:=D) (st':=q) (c:={ callee:=Callee.value f,args:=⟨args⟩,argTypes:=⟨tys⟩ }) (f:=f) (hf 0) (λx F=>z x (w x F)) (λg as hg id U=>R id (by simp_all[KX,ak]));simp_all[ey]
  |_=>assumption
 |makeFunc f first B=>cases f with
  |func g=>
   have hc:uu D B.toList=uu q B.toList:=by
    have key:∀x∈B.toList,∀ty,bP P ty D x=bP P ty q x:=λx F=>z x (by simp_all[Op.operands,iY,bu])
    clear z I G K H;generalize B.toList=l at key;induction l with
    |nil=>rfl
    |cons x xs ih=>cases x with
     |tmp t=>simp_all[bP,uu]
     |_=>rfl
   have Vr:qP D B.toList=qP q B.toList:=by
    have key:∀x∈B.toList,∀ty,bP P _ _ x=bP P _ _ x:=λx F=>z x (by simp_all[Op.operands])
    generalize B.toList=l at key;induction l with
    |nil=>rfl
    |cons x xs ih=>cases x with
     |tmp t=>simp_all[bP,qP]
     |_=>rfl
   have hc3:qP D first.toList=qP q first.toList:=by
    have key:∀x∈first.toList,∀ty,bP P _ _ x=bP P _ _ x:=λx F=>z x (by simp_all[Op.operands])
    generalize first.toList=l at key
    induction l with
    |nil=>rfl
    |cons x xs ih=>cases x with
     |tmp t=>simp_all[bP,qP]
     |_=>rfl
   simp[ey,hc,Vr,hc3]
  |_=>rfl
 |assign x=>simp[ey,I]
 |lookup t x k ok=>simp[ey,I]
 |build t ps=>grind[tH,Op.operands,ey,zD]
 |load t x=>simp[ey,I]
 |_=>assumption
def Aq {z q:St} {l:Array Oper} {o:Oper} (w:∀t∈fA l o,z.env t=q.env t):qq l o z=qq l o q:=by grind[qq,fA]
theorem ZK {a b:List Nat} {x:Nat} (l:x∈a) (q:x∈b):meets a b=true:=by simp[meets];grind[Nat.beq_refl]
def Mx {t:TypeId} {s D:St} {F w:SV} {id:Nat} (l:storeAt P t s F w=some D) (z:targetId F=some id):
  D.env=s.env/\(∀j,j≠id->D.ob j=s.ob j)/\∀x:St,x.ob id=s.ob id->(∀j∈w.ids,x.ob j=s.ob j)->storeAt P t x F w=some { x with ob:=put x.ob id (D.ob id) }:=by
 have H:∀x:St,(∀j∈w.ids,x.ob j=s.ob j)->ow x w=ow s w:=λx B=>by cases w with
  |row j=>simp_all[ow,SV.ids]
  |pv v=>cases v<;>rfl
  |_=>rfl
 cases F with
 |ptr i G=>
  simp[targetId,bq] at z;subst z;simp[storeAt] at l;split at l
  .split at l
   .split at l
    .injection l with l;subst l;refine⟨rfl,λj q=>bZ _ _ (λe=>q e.symm),λx B _=> ?_⟩;simp_all[storeAt,de]
    simp_all
   .split at l
    .injection l with l;subst l;refine⟨rfl,λj q=>bZ _ _ (λe=>q e.symm),λx B _=> ?_⟩;simp_all[storeAt,de]
    simp_all
   .split at l
    .injection l with l;subst l;refine⟨rfl,λj q=>bZ _ _ (λe=>q e.symm),λx B I=> ?_⟩;simp[storeAt,de];simp_all
    simp_all
  simp_all
 |rp i K k G=>
  simp[targetId,bq] at z;subst z;simp[storeAt] at l;split at l
  .split at l
   .split at l
    .injection l with l;subst l;refine⟨rfl,λj q=>bZ _ _ (λe=>q e.symm),λx B _=> ?_⟩;simp_all[storeAt,de]
    simp_all
   simp_all
  simp_all
 |_=>simp[targetId] at z
theorem zT {id:Nat} {v:SV} (h:v.mentions id=true):id∈v.ids:=by
 have l:∀z:List _,z.any (oJ.mentions id)=true->id∈z.filterMap (fun
  | .p j| .r j=>some j
  | .v _=>none):=λz H=>by
  grind[oJ.mentions,beq_iff]
 induction v with
 |two s b B w=>
  rcases Bool.or_eq_true_iff.1 h with h|h
  .exact cO _ (B h)
  .exact gG _ (w h)
 |three s b c B w D=>
  rcases Bool.or_eq_true_iff.1 h with h|h
  .rcases Bool.or_eq_true_iff.1 h with h|h
   .exact cO _ (cO _ (B h))
   .exact cO _ (gG _ (w h))
  .exact gG _ (D h)
 |ptr j F=>simp[SV.ids,cQ];exact(beq_iff.1 h).symm
 |row j=>simp[SV.ids,cQ];exact(beq_iff.1 h).symm
 |rp j G i F=>simp[SV.ids,cQ];exact(beq_iff.1 h).symm
 |sub j G K I=>simp[SV.ids,cQ];exact(beq_iff.1 h).symm
 |cl f z=>exact l _ h
 |ag z=>exact l _ h
 |aq j q=>simp[SV.mentions] at h;simp[SV.ids];grind[beq_iff]
 |_=>simp[SV.mentions] at h
theorem St.same {x y:St} (l:∀t,x.env t=y.env t) (q:∀t,x.ob t=y.ob t):x=y:=by obtain⟨z,B⟩:=x;have e1 :=funext l;have w :=funext q;simp_all
def Tn (p:Nat×Option AV) (v:SV):SV:=match p.2 with
 |none=>v.dH p.1
 |some a=>SV.dy p.1 a v
def jU (l:List (Nat×Option AV)) (v:SV):SV:=l.foldl (λv p=>Tn p v) v
def Ob.zR (g:SV->SV):Ob->Ob
 | .box t cells=> .box t (cells.map g)
 |o=>o
def fP (f:gw) (q:Nat->Option SV) (w:Nat->Option Ob) (l:List (Nat×Option AV)) (x:St):St:=
 {env:=λt=>if t∈f.ws then q t else(x.env t).map (jU l),ob:=λj=>if j∈f.wo then w j else(x.ob j).map (Ob.zR (jU l)) }
def Kl (p:Nat×Option AV) (v:SV):∃c:SV,(∀id,c.mentions id=false)/\Tn p v=(bif v.mentions p.1 then c else v)/\((∀j,v≠ .row j/\v≠ .ag [.r j])->c= .any):=by obtain⟨id,x⟩:=p;cases x with
 |none=>exact⟨_,λ_=>rfl,rfl,λ_=>rfl⟩
 |some a=>cases v with
  |row j=>exact⟨_,λ_=>rfl,rfl,λh=>absurd rfl (h j).1⟩
  |ag l=>
   by_cases q:∃j,l=[.r j]
   .obtain⟨j,rfl⟩:=q;exact⟨.pv (.agg [a]),λ_=>rfl,by simp[Tn,SV.dy,SV.mentions,oJ.mentions],λh=>absurd rfl (h j).2⟩
   .have e:Tn (id,some a) (.ag l)=(SV.ag l).dH id:=by
     show(SV.ag l).dy id a=_;unfold SV.dy;split
     .rename_i e;cases e
     .rename_i j e;cases e;exact absurd ⟨j,rfl⟩ q
     .rfl
    exact⟨_,λ_=>rfl,e,λ_=>rfl⟩
  |_=>exact⟨_,λ_=>rfl,rfl,λ_=>rfl⟩
theorem Pj {p:Nat×Option AV} {v:SV} (h:v.mentions p.1=false):Tn p v=v:=by obtain⟨c,_,e,_⟩:=Kl p v;simp_all
def mv1_sub {p:Nat×Option AV} {v:SV} {j:Nat} (h:(Tn p v).mentions j=true):v.mentions j=true:=by obtain⟨c,l,e,_⟩:=Kl p v;grind
theorem adB {p q:Nat×Option AV} (l:p.1≠q.1) (v:SV):Tn p (Tn q v)=Tn q (Tn p v):=by obtain⟨c,G,e,k⟩:=Kl p v;obtain⟨c',B,F,k'⟩:=Kl q v;cases z:v.mentions p.1 with
 |false=>cases w:v.mentions q.1 with
  |false=>simp_all
  |true=>simp_all[Pj]
 |true=>rw[e,z,ak,Pj (G _)];cases w:v.mentions q.1 with
  |false=>simp_all
  |true=>
   rw[F,w,ak,Pj (B _)]
   have H:∀j,v≠ .row j/\v≠ .ag [.r j]:=λj=>⟨λD=>by
    subst D;exact l ((beq_iff.1 z).symm.trans (beq_iff.1 w)),λD=>by
    subst D;simp only[SV.mentions,wL,List.any_nil,rN,oJ.mentions] at z w
    exact l ((beq_iff.1 z).symm.trans (beq_iff.1 w))⟩
   simp_all
def yz:∀{l:List (Nat×Option AV)} {v:SV},(∀p∈l,v.mentions p.1=false)->jU l v=v
 |[],v,_=>rfl
 |p::l,v,h=>by show jU l (Tn p v)=v;rw[Pj (h p ai)];exact yz λq w=>h q (by simp[w])
theorem Gh:∀{l:List (Nat×Option AV)} {v:SV} {j:Nat},(jU l v).mentions j=true->v.mentions j=true
 |[],v,j,h=>h
 |p::l,v,j,h=>mv1_sub (Gh h)
def ZL {l:List (Nat×Option AV)} {p:Nat×Option AV}:∀{v:SV},(∀q∈l,p.1≠q.1)->jU l (Tn p v)=Tn p (jU l v):=by induction l with
 |nil=>intro v _;rfl
 |cons q l w=>intro v h;show jU l _=Tn p (jU l _);grind[adB]
theorem DE:∀{l m:List (Nat×Option AV)} (v:SV),(∀p∈l,∀q∈m,p.1≠q.1)->jU l (jU m v)=jU m (jU l v)
 |[],m,v,_=>rfl
 |p::l,m,v,h=>by show jU l (Tn p _)=jU m (jU l _);rw[<-ZL (h p ai),DE _ λr w=>h r (by simp[w])]
def mapS_id {g:SV->SV} {o:Ob} (h:∀v,(∀id,v.mentions id=true->o.mentions id=true)->g v=v):o.zR g=o:=by cases o with
 |box t cells=>simp[Ob.zR];congr 1;refine(iE λc l=>h c λid q=> ?_).trans (pY _);grind[Ob.mentions]
 |_=>rfl
def wg {l:List (Nat×Option AV)} {o:Ob} (h:∀p∈l,o.mentions p.1=false):o.zR (jU l)=o:=
 mapS_id λv w=>yz λp q=>by grind
def adq {l:List (Nat×Option AV)} {o:Ob} {j:Nat} (h:(o.zR (jU l)).mentions j=true):o.mentions j=true:=by cases o with
 |box t cells=>grind[Ob.zR,Ob.mentions,Gh]
 |_=>exact h
theorem ZJ {l m:List (Nat×Option AV)} (o:Ob) (h:∀p∈l,∀q∈m,p.1≠q.1):(o.zR (jU m)).zR (jU l)=(o.zR (jU l)).zR (jU m):=by cases o with
 |box t cells=>simp[Ob.zR,e8];grind[List.map_congr_left,DE]
 |_=>rfl
theorem BI (o:Ob):o.zR (jU [])=o:=wg λp l=>by cases l
structure Jd (sf:St->Option St) (s:St) (f:gw) (ev:Nat->Option SV) (ov:Nat->Option Ob) (l:List (Nat×Option AV)):Prop where
 keys:∀p∈l,p.1∈f.mv
 run:∀x:St,(∀t∈f.rs,x.env t=s.env t)->(∀j∈f.ro,x.ob j=s.ob j)->(∀j∈f.rl,(x.ob j).map Ob.uc=(s.ob j).map Ob.uc)->sf x=some (fP f ev ov l x)
 len:∀j∈f.wo,f.kp j=true->(ov j).map Ob.uc=(s.ob j).map Ob.uc
 adE:∀t∈f.ws,∀v id,ev t=some v->v.mentions id=true->id∈f.men
 adF:∀j∈f.wo,∀o id,ov j=some o->o.mentions id=true->id∈f.men
 mvm:∀id∈f.mv,id∈f.men
structure RA (s:St) (f:gw):Prop where
 inE:∀t∈f.rs,∀v id,s.env t=some v->v.mentions id=true->id∈f.men
 inO:∀j∈f.ro,∀o id,s.ob j=some o->o.mentions id=true->id∈f.men
 we:∀t v id,s.env t=some v->id∈f.mv->v.mentions id=true->f.we t=true
 oe:∀j o id,s.ob j=some o->id∈f.mv->o.mentions id=true->f.oe j=true
def jm {a b:List Nat} {x y:Nat} (h:meets a b=false) (l:x∈a) (q:y∈b):x≠y:=λe=>by grind[ZK]
def NA (g:SV->SV) (o:Ob):(o.zR g).uc=o.uc:=by cases o<;>rfl
def skN {f:gw} {q:Nat->Option SV} {w:Nat->Option Ob} {l:List (Nat×Option AV)} {x:St} {j:Nat} (h:¬j∈f.wo):((fP f q w l x).ob j).map Ob.uc=(x.ob j).map Ob.uc:=by simp[fP,az h];cases x.ob j with
 |none=>rfl
 |some o=>simp[NA]
def skO {f:gw} {w:Nat->Option SV} {q:Nat->Option Ob} {l:List (Nat×Option AV)} {x:St} {j:Nat} (h:j∈f.wo):(fP f w q l x).ob j=q j:=by simp[fP,aB h]
def rl_kp {r w:List Nat} {k:Nat->Bool} {j:Nat} (h:(r.any λj=>w.contains j&& !(k j))=false) (l:j∈r) (q:j∈w):k j=true:=by simp_all
def swapFx {sp si:St->Option St} {s:St} {B G:gw} {U R:Nat->Option SV} {op S:Nat->Option Ob} {lp li:List (Nat×Option AV)} (K:Jd sp s B U op lp) (H:RA s B) (I:Jd si (fP B U op lp s) G R S li) (hc:B.conflict G=false):
  Jd si s G R S li/\Jd sp (fP G R S li s) B U op lp/\RA (fP G R S li s) B/\fP B U op lp (fP G R S li s)=fP G R S li (fP B U op lp s):=by
 unfold gw.conflict at hc;simp only[gi] at hc;obtain⟨⟨⟨⟨⟨⟨⟨⟨⟨⟨⟨⟨⟨_,_⟩,d1⟩,d2⟩,d3⟩,d4⟩,d5⟩,d6⟩,d7⟩,d8⟩,d9⟩,d10⟩,d11⟩,d12⟩:=hc;have w9:∀t∈G.rs,B.we t=false:=λt l=>by simp_all
 have w10:∀t∈G.ro,B.oe t=false:=λt l=>by simp_all
 have aE:∀t∈G.rs,(fP B U op lp s).env t=s.env t:=λt l=>by simp only[fP];rw[az λh=>jm d1 h l rfl];cases e:s.env t with
  |none=>rfl
  |some v=>simp only[ff];rw[yz λp F=> ?_];cases w:v.mentions p.1 with
   |false=>rfl
   |true=>have:=H.we t v p.1 e (K.keys p F) w;simp_all
 have aO:∀t∈G.ro,(fP B U op lp s).ob t=s.ob t:=λt l=>by simp only[fP];rw[az λh=>jm d4 h l rfl];cases e:s.ob t with
  |none=>rfl
  |some v=>simp only[ff];rw[wg λp F=> ?_];cases w:v.mentions p.1 with
   |false=>rfl
   |true=>have:=H.oe t v p.1 e (K.keys p F) w;simp_all
 have bE:∀t∈B.rs,(fP G R S li s).env t=s.env t:=λt l=>by simp only[fP];rw[az λh=>jm d2 l h rfl];cases e:s.env t with
  |none=>rfl
  |some v=>simp only[ff];rw[yz λp F=> ?_];cases w:v.mentions p.1 with
   |false=>rfl
   |true=>exact absurd rfl (jm d8 (I.keys p F) (H.inE t l v p.1 e w))
 have bO:∀t∈B.ro,(fP G R S li s).ob t=s.ob t:=λt l=>by simp only[fP];rw[az λh=>jm d5 l h rfl];cases e:s.ob t with
  |none=>rfl
  |some v=>simp only[ff];rw[wg λp F=> ?_];cases w:v.mentions p.1 with
   |false=>rfl
   |true=>exact absurd rfl (jm d8 (I.keys p F) (H.inO t l v p.1 e w))
 have nO:∀t∈B.wo,¬t∈G.wo:=λt D z=>jm d6 D z rfl
 have aL:∀t∈G.rl,((fP _ U op lp s).ob t).map _=(s.ob t).map _:=λt l=>by
  by_cases h:t∈B.wo
  .rw[skO h];exact K.len t h (rl_kp d11 l h)
  .exact skN h
 have bK :=λt l hk=>(I.len t l hk).trans (skN λh=>nO t h l)
 have bL:∀t∈B.rl,((fP _ R S li s).ob t).map Ob.uc=(s.ob t).map Ob.uc:=λt l=>by
  by_cases h:t∈G.wo
  .rw[skO h];simp_all
  .exact skN h
 have hk :=λp F q V=>jm d7 (K.keys p F) (I.mvm _ (I.keys q V))
 refine⟨⟨I.keys,λx D z h3=>I.run x (λt l=>(D t l).trans (aE t l).symm) (λt l=>(z t l).trans (aO t l).symm) (λt l=>(h3 t l).trans (aL t l).symm),bK,I.adE,I.adF,I.mvm⟩,
  ⟨K.keys,λx D z h3=>K.run x (λt l=>(D t l).trans (bE t l)) (λt l=>(z t l).trans (bO t l)) (λt l=>(h3 t l).trans (bL t l)),λt l hk=>(K.len t l hk).trans (skN (nO t l)).symm,K.adE,K.adF,K.mvm⟩,
  ⟨λt l v id e w=>H.inE t l v _ ((bE t l).symm.trans e) w,λt l v id e w=>H.inO t l v _ ((bO t l).symm.trans e) w,λt v id e O w=> ?_,λt v id e O w=> ?_⟩,?_⟩
 .simp[fP] at e;split at e
  .rename_i l;exact absurd rfl (jm d7 O (I.adE t l v _ e w))
  .cases e0:s.env t with
   |none=>simp_all
   |some v0=>rw[e0] at e;simp at e;subst e;exact H.we t _ _ e0 O (Gh w)
 .simp[fP] at e;split at e
  .rename_i l;exact absurd rfl (jm d7 O (I.adF t l v _ e w))
  .cases e0:s.ob t with
   |none=>simp_all
   |some v0=>rw[e0] at e;simp at e;subst e;exact H.oe t _ _ e0 O (adq w)
 .simp[fP,St.mk.injEq];constructor
  .funext t;by_cases D:t∈B.ws
   .rw[aB D,az λz=>jm d3 D z rfl];rw[aB D];cases e:U t with
    |none=>rfl
    |some v=>simp;rw[yz λq V=> ?_];cases w:v.mentions _ with
     |false=>rfl
     |true=>exact absurd rfl (jm d8 (I.keys q V) (K.adE t D v _ e w))
   .rw[az D];by_cases z:t∈G.ws
    .rw[aB z,aB z];cases e:R t with
     |none=>rfl
     |some v=>simp;rw[yz λq V=> ?_];cases w:v.mentions _ with
      |false=>rfl
      |true=>exact absurd rfl (jm d7 (K.keys q V) (I.adE t z v _ e w))
    .rw[az z,az z,az D];cases s.env t with
     |none=>rfl
     |some v=>grind[DE]
  .funext t;by_cases D:t∈B.wo
   .rw[aB D,az λz=>jm d6 D z rfl];rw[aB D];cases e:op t with
    |none=>rfl
    |some v=>simp;rw[wg λq V=> ?_];cases w:v.mentions _ with
     |false=>rfl
     |true=>exact absurd rfl (jm d8 (I.keys q V) (K.adF t D v _ e w))
   .rw[az D];by_cases z:t∈G.wo
    .rw[aB z,aB z];cases e:S t with
     |none=>rfl
     |some v=>simp;rw[wg λq V=> ?_];cases w:v.mentions _ with
      |false=>rfl
      |true=>exact absurd rfl (jm d7 (K.keys q V) (I.adF t z v _ e w))
    .rw[az z,az z,az D];cases s.ob t with
     |none=>rfl
     |some v=>grind[ZJ]
def NU (w:Nat->St->Option St):List (Nat×gw)->St->St->Prop
 |[],s,q=>s=q
 |p::l,s,q=>∃z,w p.1 s=some z/\(p.2.all=false->∃B D m,Jd (w p.1) s p.2 B D m/\RA s p.2)/\NU w l z q
def aa5 {a b:gw} (h:a.conflict b=false):a.all=false/\b.all=false:=by simp_all[gw.conflict]
def NU.front {z:Nat->St->Option St} {i:Nat} {f:gw} {post:List (Nat×gw)} {V:St}:∀(pre:List (Nat×gw)) (s:St),NU z (pre++(i,f)::post) s V->(∀p∈pre,p.2.conflict f=false)->
  ∃w,z i s=some w/\NU z (pre++post) w V/\(f.all=false->∃ev ov m,Jd (z i) s f ev ov m)
 |[],s,⟨U,B,G,D⟩,_=>⟨U,B,D,λH=>by simp_all⟩
 |p::pre,s,⟨U,B,G,D⟩,I=>by
  have l:=I p ai;obtain⟨H,hb⟩:=aa5 l;obtain⟨ep,op,lp,O,F⟩:=G H;obtain⟨w,k1,k2,k3⟩:=NU.front _ _ D λq hq=>I q (by simp[hq])
  obtain⟨ei,oi,li,K⟩:=k3 hb;have e1 :=by have:=O.run s (λ_ _=>rfl) (λ_ _=>rfl) (λ_ _=>rfl);rw[B] at this;injection this
  subst e1;obtain⟨R,S,r3,r4⟩:=swapFx O F K l;have e2 :=by have:=K.run _ (λ_ _=>rfl) (λ_ _=>rfl) (λ_ _=>rfl);rw[k1] at this;injection this
  refine⟨_,R.run s (λ_ _=>rfl) (λ_ _=>rfl) (λ_ _=>rfl),⟨w,?_,λ_=>⟨ep,op,lp,S,r3⟩,k2⟩,λ_=>⟨ei,oi,li,R⟩⟩;rw[S.run _ (λ_ _=>rfl) (λ_ _=>rfl) (λ_ _=>rfl),r4,e2]
def qT (P:Program) (h:Hint) (cB:eN) (l:Array Oper) (k:Nat) (q:St):Option St:=
 match l[k]? with
 |some o=>match qq l o q with
  |some true=>step P h cB o q
  |some false=>some (q.set o.dst .undef)
  |none=>none
 |none=>none
def any_ids {id:Nat} {cells:List SV} (h:cells.any (SV.mentions id)=true):id∈cells.flatMap SV.ids:=by grind[zT]
theorem adO {id:Nat} {o:Ob} (h:o.mentions id=true):id∈o.ids:=by cases o with
 |box t cells=>exact any_ids h
 |_=>cases h
def Ox {G:St->Option St} {s D:St} {f:gw} {l:List (Nat×Option AV)} (K:∀p∈l,p.1∈f.mv) (B:∀x:St,(∀t∈f.rs,x.env t=s.env t)->(∀j∈f.ro,x.ob j=s.ob j)->(∀j∈f.rl,(x.ob j).map Ob.uc=(s.ob j).map Ob.uc)->G x=some (fP f D.env D.ob l x))
  (w:∀j∈f.wo,f.kp j=true->(D.ob j).map Ob.uc=(s.ob j).map Ob.uc):
  ∃H O m,Jd G s (f.fill s D) H O m/\RA s (f.fill s D):=by
 have mem:∀{id:Nat} {g:Nat->List _} {l:List _} {t:Nat},t∈l->id∈g t->id∈l.flatMap g:=λF h=>List.mem_flatMap.2 ⟨_,F,h⟩
 refine⟨_,_,l,⟨K,B,w,λt F v id e z=> ?_,λj I o id e z=> ?_,λid q=> ?_⟩,⟨λt F v id e z=> ?_,λj I o id e z=> ?_,λt v id e q z=> ?_,λj o id e q z=> ?_⟩⟩
 .grind[gw.fill,Ot,zT]
 .grind[gw.fill,Yg,adO]
 .simp_all[gw.fill]
 .grind[gw.fill,Ot,zT]
 .grind[gw.fill,Yg,adO]
 .grind[gw.fill]
 grind[gw.fill]
theorem iA {l:Type} {x:Option l} {g:l->l} (h:∀v,g v=v):x.map g=x:=by cases x<;>simp[h]
def ad4 {f:gw} {s x:St} {d:Option Nat} {v:SV} (l:f.ws=d.toList) (q:f.wo=[]):x.set d v=fP f (s.set d v).env (s.set d v).ob [] x:=by
 refine St.same (λt=> ?_) (λj=> ?_)
 .simp only[fP,l];cases d with
  |none=>exact(iA λ_=>rfl).symm
  |some d=>
   by_cases e:d=t
   .simp_all[St.set,de]
   .have:¬t∈(some d).toList:=by simp;exact λh=>e h.symm
    rw[az this];simp[St.set,bZ _ _ e];exact(iA λ_=>rfl).symm
 .simp[fP,q];rw[iA BI];cases d<;>rfl
theorem Gi {f:gw} {s x:St} {d id:Nat} {o:Ob} {v:SV} (l:f.ws=[d]) (q:f.wo=[id]):(x.new id o).set (some d) v=fP f ((s.new id o).set (some d) v).env ((s.new id o).set (some d) v).ob [(id,none)] x:=by
 refine St.same (λt=> ?_) (λj=> ?_)
 .simp[fP,l,cQ];by_cases e:t=d
  .simp_all[St.set,de]
  .rw[az e];simp[St.set,bZ _ _ (λh=>e h.symm)];rfl
 .simp[fP,q,cQ];by_cases e:j=id
  .simp_all[St.set,St.new,de]
  .rw[az e];simp[St.set,St.new,St.dH,bZ _ _ (λh=>e h.symm)];rfl
def skip_ok {l:Array Oper} {k:Nat} {o:Oper} {s:St} (B:l[k]? =some o) (D:qq l o s=some false):
  ∃q F m,Jd (qT P h cB l k) s ((tQ l o).fill s (s.set o.dst .undef)) q F m/\RA s ((tQ l o).fill s (s.set o.dst .undef)):=
 Ox (l:=[]) ai (λx w _ _=>by
  simp[qT,B];rw[Aq w,D]
  rw[ad4 (f:=tQ _ o) rfl rfl]) λj z _=>by cases z
def jQ (z:St->Option St) (s:St) (f:gw) (w:Nat->Option SV) (q:Nat->Option Ob) (l:List (Nat×Option AV)):Prop:=
 (∀p∈l,p.1∈f.mv)/\(∀j∈f.wo,f.kp j=true->(q j).map Ob.uc=(s.ob j).map Ob.uc)/\
  ∀x:St,(∀t∈f.rs,x.env t=s.env t)->(∀j∈f.ro,x.ob j=s.ob j)->(∀j∈f.rl,(x.ob j).map Ob.uc=(s.ob j).map Ob.uc)->z x=some (fP f w q l x)
def jQ.imp {H:St->Option St} {s:St} {f q:gw} {D:Nat->Option SV} {G:Nat->Option Ob} {l:List (Nat×Option AV)} (B:jQ H s f D G l) (I:∀t∈f.rs,t∈q.rs) (K:∀t∈f.ro,t∈q.ro) (O:∀t∈f.mv,t∈q.mv) (R:∀t,t∈f.ws↔t∈q.ws) (z:∀t,t∈f.wo↔t∈q.wo) (S:∀t∈f.rl,t∈q.rl) (U:∀t∈f.wo,q.kp t=true->f.kp t=true):jQ H s q D G l:=
 ⟨λp hp=>O _ (B.1 p hp),λj F V=>B.2.1 j ((z j).2 F) (U j ((z j).2 F) V),λx k1 k2 k3=>by
  rw[B.2.2 x (λt w=>k1 t (I t w)) (λt w=>k2 t (K t w)) (λt w=>k3 t (S t w))]
  simp[fP,R,z]⟩
def jQ.at {B:St->Option St} {s z:St} {f:gw} {q:Nat->Option SV} {w:Nat->Option Ob} {l:List (Nat×Option AV)} (D:jQ B s f q w l) (h:B s=some z):z=fP f q w l s:=by have:=D.2.2 s (λ_ _=>rfl) (λ_ _=>rfl) (λ_ _=>rfl);simp_all
def YI {U V:St->Option St} {s:St} {w B:gw} {q H:Nat->Option SV} {l I:Nat->Option Ob} {D F:List (Nat×Option AV)} (O:jQ U s w q l D) (R:jQ V (fP w q l D s) B H I F):
  ∃ev ov,jQ (λx=>(U x).bind V) s (w.then B) ev ov (D++F):=by
 refine⟨λt=>if t∈B.ws then H t else(q t).map (jU F),λj=>if j∈B.wo then I j else(l j).map (Ob.zR (jU F)),λp hp=> ?_,λj S K=> ?_,λx k1 k2 k3=> ?_⟩
 .simp[gw.then,bu];exact(bu.1 hp).imp (O.1 p) (R.1 p)
 .simp[gw.then,aV,gE,jx,List.contains_eq_mem,aQ] at K;simp[gw.then,bu] at S;have G:((fP w q l D s).ob j).map Ob.uc=(s.ob j).map Ob.uc:=by
   by_cases a:j∈w.wo
   .rw[skO a];exact O.2.1 j a (K.1.resolve_right λh=>h a)
   .exact skN a
  by_cases a:j∈B.wo
  .simp[aB a];exact(R.2.1 j a (K.2.resolve_right λh=>h a)).trans G
  .simp[az a];have b :=S.resolve_left a;rw[<-O.2.1 j b (K.1.resolve_right λh=>h b)];cases l j with
   |none=>rfl
   |some o=>simp[NA]
 .have e1:=O.2.2 x (λt z=>k1 t (by simp[gw.then,z])) (λt z=>k2 t (by simp[gw.then,z])) (λt z=>k3 t (by simp[gw.then,z]))
  have e2:=R.2.2 (fP w q l D x) (λt z=>by simp_all[fP,gw.then]) (λt z=>by simp_all[fP,gw.then]) (λt z=>by
   by_cases a:t∈w.wo
   .rw[skO a,skO a]
   simp_all[skN,gw.then])
  simp[e1,kA,e2,bq];have mm:∀v,jU F (jU D v)=jU (D++F) v:=λv=>by simp[jU]
  refine St.same (λt=> ?_) (λj=> ?_)
  .simp[fP,gw.then];by_cases a:t∈B.ws
   .simp_all
   .by_cases b:t∈w.ws
    .simp_all
    .simp[a,b];cases x.env t with
     |none=>rfl
     |some v=>simp_all
  .simp[fP,gw.then];by_cases a:j∈B.wo
   .simp_all
   .by_cases b:j∈w.wo
    .simp_all
    .simp[a,b];cases x.ob j with
     |none=>rfl
     |some o=>cases o with
      |box t cells=>simp_all[Ob.zR]
      |_=>rfl
def jQ.nil (s:St) (f:gw) (l:f.ws=[]) (q:f.wo=[]):jQ some s f (λ_=>none) (λ_=>none) []:=
 ⟨ai,λj w=>(by simp_all),λx _ _ _=>by
  congr 1;refine St.same (λt=> ?_) (λj=> ?_)
  .simp[fP,l];exact(iA λ_=>rfl).symm
  simp_all[fP,iA,BI]⟩
theorem DM {s H:St} {id:Nat} (q:s.dy id=some H):∃w G l,jQ (λx=>x.dy id) s { ro:=[id],wo:=[id],mv:=[id] } w G l:=by
 unfold St.dy at q;split at q
 .rename_i v D F;refine⟨λ_=>none,λ_=>none,[(id,some v)],by simp,λj _ B=>(by cases B),λx _ z _=> ?_⟩;have e:x.ob id=s.ob _:=z _ ai;unfold St.dy;simp[e,D,F,bq];refine St.same (λt=> ?_) (λj=> ?_)
  .rfl
  .simp[fP,cQ];by_cases a:j=id
   .subst a;simp[de]
   .rw[az a,bZ _ _ (λh=>a h.symm)];rfl
 simp_all
def BR:∀{cells:List SV} {s H:St},pJ cells s=some H->∃q z l,jQ (pJ cells) s { ro:=wC cells,wo:=wC cells,mv:=wC cells } q z l
 |[],s,H,_=>⟨_,_,_,jQ.nil s _ rfl rfl⟩
 |c::cells,s,H,G=>by
  have other:(∀id,c≠ .row id)->(∀x,pJ (c::cells) x=pJ cells x)/\wC (c::cells)=wC _:=λD=>by cases c<;>first|exact absurd rfl (D _)|exact⟨λ_=>rfl,rfl⟩
  by_cases I:∃id,c= .row id
  .obtain⟨id,rfl⟩:=I;obtain⟨s1,w,B⟩:=dA.1 G;obtain⟨q,z,l,K⟩:=DM w;obtain⟨S,ov',l',O⟩:=BR B;rw[K.at w] at O;obtain⟨U,ov2,r3⟩:=YI K O;exact⟨_,_,_,r3.imp (λt F=>by assumption) (λt F=>by assumption) (λt F=>by assumption) (λt=>by rfl) (λt=>by simp[gw.then,wC,or_comm]) (λt F=>by assumption) (λt _ hk=>by cases hk)⟩
  .obtain⟨e1,R⟩:=other λid h=>I ⟨id,h⟩
   rw[e1] at G;obtain⟨q,z,l,r⟩:=BR G;refine⟨q,z,l,?_⟩;rw[R];exact⟨r.1,r.2.1,λx w B V=>by rw[e1];exact r.2.2 x w B V⟩
theorem ZZ {s S:St} {t:Nat} (D:qx s t=some S):∃z B l,jQ (λx=>qx x t) s (Pw s t) z B l:=by
 unfold qx at D;unfold Pw;split at D
 .rename_i id F;obtain⟨z,B,l,r⟩:=DM D;refine⟨z,B,l,r.1,r.2.1,λx q w G=> ?_⟩;have e :=q t ai;simp[qx,e,F];exact r.2.2 x ai w ai
 .rename_i id F;obtain⟨z,B,l,r⟩:=DM D;refine⟨z,B,l,r.1,r.2.1,λx q w G=> ?_⟩;have e :=q t ai;simp[qx,e,F];exact r.2.2 x ai w ai
 .rename_i id R F;split at D
  .rename_i U cells I;obtain⟨z,B,l,r⟩:=BR D;refine⟨z,B,l,r.1,r.2.1,λx q w G=> ?_⟩;have e :=q t ai;have K:x.ob id=s.ob _:=w _ ai;simp[qx,e,F,K,I];exact r.2.2 x ai (λj H=>w j (by simp[H])) ai
  simp_all
 .refine⟨λ_=>none,λ_=>none,[],?_⟩;have O:∀x:St,x.env t=s.env t->qx x t=some x:=λx e=>by
   simp_all[qx]
  refine⟨ai,λj H=>(by simp at H),λx q w G=> ?_⟩;simp only;rw[O x (q t ai)];exact(jQ.nil s _ rfl rfl).2.2 x q w G
theorem SP {w l:St} {t:TypeId} {x z:Operand} (U:∀ty,bP P ty w x=bP P ty l x) (R:∀ty,bP P ty w z=bP P ty l z) (B:∀ty H,bP P ty w x=some H->∀id∈H.ids,(w.ob id).map Ob.uc=(l.ob id).map Ob.uc):w8 P w t x z=w8 P l t x z:=by
 unfold w8;rw[<-U,<-R];split<;>try rfl
 .rename_i e s id q i hs S hq;have k:=B t _ S id (by simp[SV.ids]);cases e1:w.ob _ with
  |none=>grind
  |some V=>rw[e1] at k;cases I:l.ob _ with
   |none=>simp_all
   |some F=>rw[I] at k;simp at k;cases V with
    |row K sz xs=>cases F with
     |row O G ys=>
      simp[Ob.uc,Ob.row.injEq] at k;obtain⟨_,rfl,D⟩:=k;have :=by simpa using aU List.length D
      simp_all
     |_=>cases k
    |rn K sz q1 q2 q3 xs zs=>cases F with
     |rn O G q4 q5 q6 ys zs2=>
      simp only[Ob.uc,Ob.rn.injEq] at k;obtain⟨_,rfl,_,_,_,D,_⟩:=k;have :=by simpa using aU List.length D
      simp_all
     |_=>cases k
    |_=>cases F<;>first|rfl|cases k
theorem OJ {w l:St} {n:Nat} {e:TypeId} {x q:Operand} (B:∀ty,bP P ty w x=bP P ty l x) (z:∀ty,bP P ty w q=bP P ty l q):Dz P w n e x q=Dz P l n e x q:=by unfold Dz;simp_all
def Ur {B:Array Oper} {o:Oper} {s:St} {v:SV} (U:ey P h cB o s=some v):jQ (step0 P h cB o) s (vU P h B o s) (s.set o.dst v).env (s.set o.dst v).ob []:=
 ⟨ai,λj O=>(by cases O),λx H I K=>by
  have q:ey P h _ o s=ey P h cB o x->step0 P h cB o x=some (fP (vU P h B o s) (s.set _ v).env _ _ x):=λthis=>by rw[U] at this;simp[step0,<-this];rw[ad4 (f:=vU P h _ o s) rfl rfl]
  cases D:abW o.op with
  |true=>cases w:o.op with
   |indexAddr t a ix=>
    have z:∀y∈o.op.operands.toList,∀ty,bP P ty s y=bP P _ x y:=λy V ty=>jg (λu e=>(H u (by
     subst e
     exact cO _ (fe.2 ⟨_,V,rfl⟩))).symm) _
    have ha:=z a (by rw[w];simp[Op.operands]);have hi:=z ix (by rw[w];simp[Op.operands])
    have hl:∀ty G,bP P ty s a=some G->∀id∈G.ids,(s.ob _).map _=(x.ob _).map _:=λty G e id l=>(K _ (by
     simp[vU,D]
     exact vD (by rw[w];simp[Op.operands]) e l)).symm
    refine q ?_;simp[ey,w,fB];grind[SP,OJ]
   |_=>rw[w] at D;cases D
  |false=>
   have F:∀id∈KX P h o s,s.ob id=x.ob id:=λid l=>by grind[Tu,vU,KX]
   exact q (Vl (λR id l=>(I _ (by simp[vU,R,D,l])).symm) F (λt S=>(H t (by simp[vU,fA,S])).symm))⟩
def aer {l:Array Oper} {k:Nat} {o:Oper} {s:St} {v:SV} (G:l[k]? =some o) (I:qq l o s=some true) (q:E7 h o=[]) (H:ey P h cB o s=some v):
  ∃z K m,Jd (qT P h cB l k) s ((vU P h l o s).fill s (s.set o.dst v)) z K m/\RA s ((vU P h l o s).fill s (s.set o.dst v)):=
 Ox (l:=[]) ai (λx w B D=>by
  simp[qT,G];rw[Aq w,I];simp[step,q]
  exact(Ur H).2.2 x w B D) λj F _=>by cases F
def aaF {o:Oper} {s s':St} {c:Call} {d id:Nat} {x y:Operand} {t R:TypeId} (U:o.op= .call c) (hc:c.callee= .builtin .append) (q:c.args.toList=[x,y]) (V:c.argTypes.toList=[t,R]) (hd:o.dst=some d) (hx:bP P t s x=some (.row id)) (l:step0 P h cB o s=some s'):
  ∃ob:Ob,s'=(s.new id ob).set (some d) (.row id)/\
   ∀x:St,(∀t∈slotsOf o,x.env t=s.env t)->(∀j∈id::C7 s o,x.ob j=s.ob j)->step0 P h cB o x=some ((x.new id ob).set (some d) (.row id)):=by
 have hf:∀x:St,ey P h cB o x=none:=λx=>by simp_all[ey,AH]
 have he:∀F:St,step0 P h cB o F=(match isSlice P t,bP P t F x,bP P R F y with
  |some (e,s),some (.row id),some y=>match F.ob id,elems F y,P.info? e with
   |some (.row I w xs),some (G,B),some i=>
    if t=R/\e=I/\s=w/\w=G/\0<w/\(xs.length+B.length) *i.bytes<=140737488355328/\xs.length+B.length<=4611686018427387904/\i.zero.map (λz=>z.cells.size)=some w/\gJ id=true then
     some ((F.new id (.row e w (xs++B))).set (some d) (.row id)) else none
   |some (.rn I w k e2 s2 xs zs),some (G,B),some i=>
    if t=R/\e=I/\s=w/\w=G/\0<w/\(xs.length+B.length) *i.bytes<=140737488355328/\xs.length+B.length<=4611686018427387904/\i.zero.map (λz=>z.cells.size)=some w/\gJ id=true/\B.all (qJ k)=true then
     some ((F.new id (.rn e w k e2 s2 (xs++B.map λc=>c.set k .hole) (zs++B.map λ_=>some []))).set (some d) (.row id)) else none
   |_,_,_=>none
  |some (e,s),some (.aq id .full),some y=>match F.ob id,elems F y,P.info? e with
   |some (.row I w xs),some (G,B),some i=>
    if t=R/\e=I/\s=w/\w=G/\0<w/\(xs.length+B.length) *i.bytes<=140737488355328/\xs.length+B.length<=4611686018427387904/\i.zero.map (λz=>z.cells.size)=some w/\gJ id=true/\B.isEmpty=false then
     some ((F.new id (.row e w (xs++B))).set (some d) (.row id)) else none
   |_,_,_=>none
  |_,_,_=>none):=λF=>by
  simp only[step0,hf,nC,U,hc,hd,q,V];rfl
 rw[he] at l;split at l
 .rename_i e sz0 id2 sy hs O hy;rw[hx] at O;simp only[bq,SV.row.injEq] at O;subst O;split at l
  .rename_i I w xs G B i sY hel hi;split at l
   .rename_i S;injection l with l;refine⟨.row e w (xs++B),l.symm,λF K H=> ?_⟩
    have D:∀z∈[x,y],∀ty,bP P ty F z=bP P ty s z:=λz hz ty=>jg (λu e=>K u (by
     subst e;refine fe.2 ⟨.tmp u,?_,rfl⟩;rw[U];simp only[Op.operands,Call.operands,hc,iY,bu];right
     rw[q];exact hz)) ty
    rw[he,D x ai t,D y ai R,hx,hy,hs];have e1:F.ob id=s.ob id:=H id ai
    have e2:elems F sy=elems s sy:=wZ (λj hj=>H j (dB _ (vD (P:=P) (x:=y) (ty:=R) (by
     rw[U];simp only[Op.operands,Call.operands,hc,iY,bu];right
     rw[q];simp) hy hj)))
    grind
   .cases l
  .rename_i I w k e3 s3 xs zs G B i sY hel hi;split at l
   .rename_i S;injection l with l;refine⟨.rn e w k e3 s3 (xs++B.map λc=>c.set k .hole) (zs++B.map λ_=>some []),l.symm,λF K H=> ?_⟩
    have D:∀z∈[x,y],∀ty,bP P ty _ z=bP P _ s z:=λz hz ty=>jg (λu e=>K u (by
     subst e;refine fe.2 ⟨.tmp u,?_,rfl⟩;rw[U];simp only[Op.operands,Call.operands,iY,bu];right
     rw[q];exact hz)) _
    rw[he,D x ai t,D y ai _,hx,hy,hs];have e1:F.ob id=s.ob _:=H _ ai
    have e2 :=wZ (λj hj=>H j (dB _ (vD (by
     rw[U];simp only[Op.operands,Call.operands,iY]
     rw[q];simp) hy hj)))
    grind
   .cases l
  .cases l
 .simp_all
 simp_all
theorem YZ {o:Oper} {s s':St} {c:Call} {d id:Nat} {x y:Operand} {t K:TypeId} (O:o.op= .call c) (hc:c.callee= .builtin .append) (w:c.args.toList=[x,y]) (I:c.argTypes.toList=[t,K]) (hd:o.dst=some d) (hx:bP P t s x=some (.aq id .full)) (l:step0 P h cB o s=some s'):
  ∃ob:Ob,s'=(s.new id ob).set (some d) (.row id)/\
   ∀x:St,(∀t∈slotsOf o,x.env t=s.env t)->(∀j∈id::C7 s o,x.ob j=s.ob j)->step0 P h cB o x=some ((x.new id ob).set (some d) (.row id)):=by
 have hf:∀x:St,ey P h cB o x=none:=λx=>by simp_all[ey,AH]
 have he:∀D:St,step0 P h cB o D=(match isSlice P t,bP P t D x,bP P K D y with
  |some (e,s),some (.row id),some y=>match D.ob id,elems D y,P.info? e with
   |some (.row H q xs),some (F,B),some i=>
    if t=K/\e=H/\s=q/\q=F/\0<q/\(xs.length+B.length) *i.bytes<=140737488355328/\xs.length+B.length<=4611686018427387904/\i.zero.map (λz=>z.cells.size)=some q/\gJ id=true then
     some ((D.new id (.row e q (xs++B))).set (some d) (.row id)) else none
   |some (.rn H q k U s2 xs zs),some (F,B),some i=>
    if t=K/\e=H/\s=q/\q=F/\0<q/\(xs.length+B.length) *i.bytes<=140737488355328/\xs.length+B.length<=4611686018427387904/\i.zero.map (λz=>z.cells.size)=some q/\gJ id=true/\B.all (qJ k)=true then
     some ((D.new id (.rn e q k U s2 (xs++B.map λc=>c.set k .hole) (zs++B.map λ_=>some []))).set (some d) (.row id)) else none
   |_,_,_=>none
  |some (e,s),some (.aq id .full),some y=>match D.ob id,elems D y,P.info? e with
   |some (.row H q xs),some (F,B),some i=>
    if t=K/\e=H/\s=q/\q=F/\0<q/\(xs.length+B.length) *i.bytes<=140737488355328/\xs.length+B.length<=4611686018427387904/\i.zero.map (λz=>z.cells.size)=some q/\gJ id=true/\B.isEmpty=false then
     some ((D.new id (.row e q (xs++B))).set (some d) (.row id)) else none
   |_,_,_=>none
  |_,_,_=>none):=λD=>by
  simp only[step0,hf,nC,O,hc,hd,w,I];rfl
 rw[he] at l;split at l
 .simp_all
 .rename_i e sz0 id2 sy hs G hy;rw[hx] at G;simp at G;subst G;split at l
  .split at l
   .injection l with l;refine⟨_,l.symm,λD S R=> ?_⟩
    have V:∀z∈[x,y],∀ty,bP P ty _ z=bP P _ s z:=λz hz ty=>jg (λu e=>S u (by
     subst e;refine fe.2 ⟨.tmp u,?_,rfl⟩;rw[O];simp only[Op.operands,Call.operands,iY,bu];right
     rw[w];exact hz)) _
    have U :=wZ (λj hj=>R j (dB _ (vD (by
     rw[O];simp only[Op.operands,Call.operands,iY]
     rw[w];simp) hy hj)))
    grind
   .cases l
  .cases l
 simp_all
def kp_E0 {q:Array Oper} {o:Oper} {s:St} (w:¬∃t x,o.op= .load t x) (z:¬∃t a x id B i l j,o.op= .store t a x/\bP P 0 s a=some (.rp id B i l)/\bP P t s x=some (.row j)) (j:Nat):(lC P h q o s).kp j=false:=by
 unfold lC EE Ct OA;split
 .split
  .grind
  .rfl
  .split<;>rfl
 .cases h.rows.contains _<;>rfl
 .cases h.fu.contains _<;>cases h.rows.contains _<;>rfl
 .cases h.rows.contains _ with
  |false=>rfl
  |true=>simp only[ak,BC];split<;>rfl
 .rfl
 .split
  .split
   .split<;>rfl
   .rfl
  .cases(o.dst.any _&& !(o.dst.any _)) with
   |true=>rfl
   |false=>rename_i c _ _ f _;cases(!(o.dst.any _)&&(!(o.dst.any _)&&wide s c f)) with
    |false=>cases o.dst.any h.owns.contains with
     |false=>rfl
     |true=>
      simp only[ak,aA,ED];split
      .split
       .split
        .rfl
        .rfl
       .rfl
      .rfl
    |true=>simp[vT];split<;>rfl
  .rfl
 .simp_all
 .rfl
def take_fx {D:Array Oper} {o:Oper} {s s':St} {t:TypeId} {a:Operand} (ho:o.op= .load t a) (l:step0 P h cB o s=some s') (q:(lC P h D o s).all=false):
  ∃ev ov m,jQ (step0 P h cB o) s (lC P h D o s) ev ov m:=by
 obtain⟨F,w⟩:∃F,lC P h D o s=F:=⟨_,rfl⟩
 rw[w] at q⊢;unfold lC at w;rw[ho] at w;cases H:o.dst with
 |none=>rw[H] at w;subst w;cases q
 |some d=>rw[H] at w;simp only at w;cases I:h.take.contains d with
  |false=>rw[I] at w;subst w;cases q
  |true=>
   rw[I] at w;simp[ak,Sy] at w;split at w
   .rename_i id sz i B V;split at w
    .rename_i e R k e' s2 xs ys z;subst w;have he:∀x:St,bP P 0 x a=some (.rp id sz i B)->x.ob id=some (.rn e R k e' s2 xs ys)->step0 P h cB o x=xD P x t a d:=λx h1 h2=>by
      simp_all[ey,step0,nC]
     rw[he s V z] at l;unfold xD at l;rw[V] at l;split at l
     .rename_i id2 sz2 i2 off2 e1 G;obtain⟨rfl,rfl,rfl,rfl⟩:=e1;rw[z] at l;simp at l;split at l
      .rename_i zs hy;cases hb:(Nat.beq sz R&&Nat.beq B k&& !(Nat.beq id d)&&Nat.blt id 10000) with
       |false=>simp_all
       |true=>
       rw[hb] at l;simp at l;have U:id≠d:=λe=>by simp_all
       refine⟨s'.env,s'.ob,[(d,none)],by simp,λj hj hk=> ?_,λx h1 h2 _=> ?_⟩<;>subst l
       rotate_left
       .have O:bP P 0 x a=some (.rp id sz i B):=by
         rw[<-V]
         exact jg (λu e=>h1 u (by
          subst e
          exact cO _ (fe.2 ⟨.tmp u,by rw[ho];simp[Op.operands],rfl⟩))) 0
        have K :=(h2 _ ai).trans z;rw[he x O K];unfold xD;rw[O,G];simp only[K,hy,hb];refine aU _ (St.same (λu=> ?_) (λu=> ?_))
        .simp[fP,cQ];by_cases e:u=d
         .simp_all[St.set,de]
         .rw[az e];simp[St.set,bZ _ _ (λh=>e h.symm)];rfl
        .simp[fP,aS,nG,pZ];by_cases e:u=d
         .simp_all[St.set,St.new,de]
         .by_cases e2:u=id
          .subst e2;simp[true_or,ia,St.set,St.new,St.dH,bZ _ _ (λh=>e h.symm),de]
          .rw[az af];simp[St.set,St.new,St.dH,bZ _ _ (λh=>e h.symm),bZ _ _ (λh=>e2 h.symm)];rfl
       .have S :=by
         simp only[aV] at hk;exact beq_iff.1 hk.1
        subst S;rw[z];simp[St.set,St.new,St.dH,bZ _ _ (λh=>U h.symm),de,ff,Ob.dH,Ob.uc]
      simp_all
     simp_all
    .subst w;cases q
   .subst w;cases q
def wV {R:Type} {b:Bool} {x:Option R} {r:R} (l:(bif b then x else none)=some r):b=true/\x=some r:=by grind
def ox:∀(l:List Nat) (q:St) (t:Nat),(fD l q).env t=(q.env t).map (jU (l.map λi=>(i,none)))
 |[],q,t=>by exact(iA λ_=>rfl).symm
 |id::l,q,t=>by simp[fD];rw[ox l _ t];simp[St.dH,Option.map_map];rfl
def sF:∀(l:List Nat) (q:St) (j:Nat),j∉l->(fD l q).ob j=(q.ob j).map (Ob.zR (jU (l.map λi=>(i,none))))
 |[],q,j,_=>by simp_all[fD,iA,BI]
 |id::l,q,j,w=>by simp at w;simp[fD];rw[sF l _ j w.2];simp only[St.dH,bZ _ _ (λh=>w.1 h.symm)];cases q.ob j with
  |none=>rfl
  |some o=>cases o<;>simp only[ff,Ob.dH,Ob.zR,e8]<;>rfl
theorem ql:∀(l:List Nat) (w q:St) (j:Nat),w.ob j=q.ob j->(fD l w).ob j=(fD l q).ob j
 |[],w,q,j,h=>h
 |id::l,w,q,j,h=>by
  refine ql l _ _ j ?_;by_cases e:id=j
  .simp_all[St.dH,de]
  simp_all[St.dH,bZ]
theorem back_mem {names:List Nat} {F:Nat->Nat}:∀{m:List (Nat×Nat)} {w l:List (Nat×Ob)},mN names F m w=some l->∀{j:Nat} {o:Ob},find l j=some o->j∈m.map (·.1)
 |[],[],l,h,j,o,q=>by simp[mN,bq] at h;subst h;cases q
 |[],_::_,l,h,_,_,_=>by simp[mN] at h
 |_::_,[],l,h,_,_,_=>by simp[mN] at h
 |(id,G)::m,(D,H)::w,l,h,j,o,q=>by obtain⟨_,h⟩:=wV h;simp at h;obtain⟨r,B,rfl⟩:=h;simp[find] at q;cases z:Nat.beq id j with
  |true=>simp_all
  |false=>rw[z] at q;exact dB _ (back_mem B q)
def many_fx {B:Array Oper} {o:Oper} {s s':St} {c:Call} {f:Operand} (ho:o.op= .call c) (hc:c.callee= .value f) (how:o.dst.any h.owns.contains=false) (U:o.dst.any h.stay.contains=false) (hw:wide s c f=true)
  (w:step0 P h cB o s=some s') (F:(vT P h B o s c f).all=false):∃ev ov m,jQ (step0 P h cB o) s (vT P h B o s c f) ev ov m:=by
 have hox:∀x:St,(∀t∈fA B o,x.env t=s.env t)->∀y∈o.op.operands.toList,∀ty,bP P ty x y=bP P ty s y:=λx h1 y hy' ty=>jg (λu e=>h1 u (by
  subst e
  exact cO _ (fe.2 ⟨.tmp u,hy',rfl⟩))) ty
 have G:∀x∈c.args.toList,x∈o.op.operands.toList:=λx hx=>by simp_all[Op.operands,Call.operands,iY,bu]
 have hfo:f∈o.op.operands.toList:=by rw[ho];simp[Op.operands,Call.operands,hc]
 have hwide:∀x:St,(∀t∈fA B o,x.env t=s.env t)->wide x c f=wide s c f:=λx h1=>by
  have henv:∀y∈o.op.operands.toList,∀u,y= .tmp u->x.env u=s.env u:=λy hy u e=>h1 u (by
   subst e
   exact cO _ (fe.2 ⟨.tmp u,hy,rfl⟩))
  have e1:VA x f=VA s f:=by cases f with
   |tmp u=>simp only[VA,henv _ hfo u rfl]
   |_=>rfl
  have e2:∀l:List Operand,(∀y∈l,y∈o.op.operands.toList)->l.any (EK x)=l.any (EK s):=by intro l;induction l with
   |nil=>simp
   |cons y l ih=>intro hl;simp only[wL];rw[ih λz hz=>hl z (by simp[hz])];cases y with
    |tmp u=>simp only[EK,henv _ (hl (.tmp u) ai) u rfl]
    |_=>rfl
  unfold wide;rw[e1,e2 _ G]
 have he:∀x:St,(∀t∈fA B o,x.env t=s.env t)->step0 P h cB o x=jT P h cB x c f o.dst:=λx h1=>by
  have hwx:=(hwide x h1).trans hw;have hfn:ey P h cB o x=none:=by simp only[ey,ho,hc,how,U,hwx,aA,p5,uJ,ak]
  unfold step0;rw[hfn];cases O:o.dst with
  |none=>simp only[nC,ho,hc,O,hwx,Option.any_none,aA,p5,ak]
  |some d=>rw[O] at how U;simp only[nC,ho,hc,O,how,U,hwx,aA,p5,ak]
 rw[he s λ_ _=>rfl] at w;have hr0:∃g args,uA P h s c f=some (g,args):=by
  unfold vT at F;split at F
  .simp_all
  .cases F
 obtain⟨g,args,hra⟩:=hr0;have hF:vT P h B o s c f={ rs:=fA B o,ws:=o.dst.toList,ro:=jB s args,wo:=jB s args,mv:=(jB s args).filter (iw false s (qz args)) }:=by unfold vT;rw[hra]
 rw[hF];have D:=hra;unfold uA at D;split at D
 .rename_i g0 pre q V hfn hvs;simp only[bq,cD] at D;obtain⟨rfl,rfl⟩:=D;unfold jT at w;rw[hfn,hvs] at w;simp only[U] at w;obtain⟨K,w⟩:=wV w;split at w
  .rename_i cG S;split at w
   .rename_i r sZ I;split at w
    .rename_i back H;obtain⟨hns,w⟩:=wV w;injection w with w;generalize R:gI s 200 ((pre++(V++q)).flatMap SV.ids) []=ids at K S I H w;have hro:jB s (pre++(V++q))=ids:=R;rw[hro];have hfst:(iV (iw false s (qz (pre++(V++q)))) 0 ids).map (·.1)=ids:=tT _ _ _;refine⟨s'.env,s'.ob,(ids.filter (iw false s (qz (pre++(V++q))))).map λi=>(i,none),λp hp=> ?_,λj _ hk=>(by cases hk),λx h1 h2 _=> ?_⟩
     .obtain⟨i,hi,rfl⟩:=aG.1 hp;exact hi
     .have k1:bP P 0 x f=bP P 0 s f:=hox x h1 f hfo 0;have k2:ur P h x c.args.toList c.argTypes.toList=ur P h s c.args.toList c.argTypes.toList:=zA λy hy ty=>hox x h1 y (G y hy) ty
      have k3:gI x 200 ((pre++(V++q)).flatMap SV.ids) []=ids:=by rw[<-R];exact(pg 200 _ _ λid hid=>(h2 id (by rw[R] at hid;exact hid)).symm).symm
      have k4:∀id∈ids,iw false x (qz (pre++(V++q))) id=iw false s (qz (pre++(V++q))) id:=λid hid=>by simp only[iw,ON,h2 id hid]
      have k5:∀(l:List Nat) (n:Nat),(∀id∈l,id∈ids)->iV (iw false x (qz (pre++(V++q)))) n l=iV (iw false s (qz (pre++(V++q)))) n l:=by intro l;induction l with
       |nil=>intro n _;rfl
       |cons i l ih=>simp_all[iV]
      have k6:=k5 ids 0 λ_ h=>h
      have k7:jP x ids (iN (iV (iw false s (qz (pre++(V++q)))) 0 ids)) (iV (iw false s (qz (pre++(V++q)))) 0 ids)=some cG:=by
       rw[<-S];exact tE λp hp=>h2 p.1 (by grind)
      have k8 :=lM λi hi=>k4 i hi
      rw[he x h1];unfold jT;rw[k1,k2,hfn,hvs];simp only[U,k3,k6,K,k7,I,H,hns];refine aU _ (St.same (λt=> ?_) (λj=> ?_))
      .simp[fP];cases O:o.dst with
       |none=>simp_all[St.set,ox]
       |some d=>
        by_cases e:d=t
        .subst e;rw[<-w,O];simp[St.set,de]
        .rw[az (by grind)];simp_all[St.set,bZ,ox]
      .have abN:∀(y) (v),(St.set y o.dst v).ob=y.ob:=λy v=>by cases o.dst<;>rfl
       simp[fP,abN];by_cases e:j∈ids
       .grind[ql]
       .have hb:find back j=none:=by
         cases hf:find _ j with
         |none=>rfl
         |some o'=>grind[back_mem]
        simp_all[sF]
    simp_all
   simp_all
  simp_all
 simp_all
def Ht {d:Nat}:∀{l:List (Nat×Ob)} {k:Nat} {p:Nat×Nat},p∈newNames d k l->k+l.length<=8->p.1∈oo d
 |[],k,p,h,_=>by cases h
 |x::l,k,p,h,q=>by
  simp[newNames,aS,bD] at h q;rcases h with rfl|h
  .exact aG.2 ⟨k,gU.2 af,rfl⟩
  .exact Ht h af
def EX {d:Nat}:∀{l:List (Nat×Ob)} {k:Nat},(newNames d k l).length=l.length
 |[],k=>rfl
 |x::l,k=>by simp[newNames,EX]
theorem G3 {B l:St} {w:List Nat} {d:Nat}:∀{xs:List Operand} {q:List TypeId} {j:Nat},(∀x∈xs,∀ty,bP P ty B x=bP P ty l x)->CN P w d B j xs q=CN P w d l j xs q
 |[],_,_,_=>rfl
 |x::xs,q,j,z=>by unfold CN argG;rw[z x ai,G3 λy D=>z y (by simp[D])]
theorem EG {d:Nat}:∀{xs:List Operand} {l:List TypeId} {j:Nat},mS P [] d j xs l=[]
 |[],_,_=>rfl
 |x::xs,l,j=>by simp[mS,EG]
def RU {F:St} {g:Nat} {args:List SV} {w q:Nat->Nat} {d:Option Nat} (z:∀i∈jB F args,w i=q i):kj cB F g args w d=kj cB F g args q d:=by
 unfold kj;simp only[];generalize D:gI F 200 (args.flatMap SV.ids) []=ids;have G:jB F args=ids:=D;rw[G] at z;have R:∀(l:List Nat) (n:Nat),(∀i∈l,i∈ids)->qu w n l=qu q n l:=by intro l;induction l with
  |nil=>intro n _;rfl
  |cons i l S=>simp_all[qu,dB,gz]
 have U:=R ids 0 λ_ h=>h
 have H:∀i∈ids,given w i=given q i:=λi B=>by simp[given,z i B]
 have K:∀i∈ids,(!(stays w i))= !(stays q i):=λi B=>by simp[stays,z i B]
 have k7:(qu q 0 _).filter (λp=> !(given _ _))=(qu _ 0 _).filter _:=lM λp I=>by rw[H _ (rB _ 0 _ p I).1]
 have V :=lM K;have k9:ids.all (λi=> !(given w i))=ids.all (λi=> !(given q i)):=by rw[iZ,cI,cI];exact⟨λh i B=>by simp_all,λh i B=>by simp_all⟩
 have O:ids.all (λi=> !(given w i)||iK i)=ids.all (λi=> !(given q i)||iK i):=by rw[iZ,cI,cI];exact⟨λh i B=>by simp_all,λh i B=>by simp_all⟩
 simp_all
def gen_fx {F:Array Oper} {o:Oper} {s s':St} {c:Call} {f:Operand} (ho:o.op= .call c) (hc:c.callee= .value f) (how:o.dst.any h.owns.contains=true)
  (q:step0 P h cB o s=some s') (D:(ED P h F o s c f).all=false):∃ev ov m,jQ (step0 P h cB o) s (ED P h F o s c f) ev ov m:=by
 have hox:∀x:St,(∀t∈fA F o,x.env t=s.env t)->∀y∈o.op.operands.toList,∀ty,bP P ty x y=bP P ty s y:=λx h1 y hy' ty=>jg (λu e=>h1 u (by
  subst e
  exact cO _ (fe.2 ⟨.tmp u,hy',rfl⟩))) ty
 have hargs:∀x∈c.args.toList,x∈o.op.operands.toList:=λx hx=>by simp_all[Op.operands,Call.operands,iY,bu]
 have hfo:f∈o.op.operands.toList:=by rw[ho];simp[Op.operands,Call.operands,hc]
 have he:∀x,step0 P h cB o x=iI P h cB x c f o.dst:=λx=>by
  have hfn:ey P h cB o x=none:=by simp only[ey,ho,hc,how,ak]
  unfold step0;rw[hfn];cases G:o.dst with
  |none=>rw[G] at how;cases how
  |some d=>rw[G] at how;simp only[nC,ho,hc,G,how,ak]
 rw[he] at q;unfold ED at D⊢;split at D
 .rename_i d G;split at D
  .rename_i key hgv;split at D
   .rename_i g pre R vs hf hvs;generalize hkr:vY [] 0 vs=kr;have key:∀x:St,(∀t∈fA F o,x.env t=s.env t)->iI P h cB x c f (some d)=kj cB x g (pre++(vs++R)) (JW x (iw false x kr)) (some d):=λx h1=>by
     unfold iI;simp only[hgv];unfold CP;simp only[EG,iJ,List.all_nil,ak];grind[G3]
    rw[G,key s λ_ _=>rfl] at q;generalize pre++(vs++R)=args at key q;generalize hcls:JW s (iw false s kr)=l at q⊢;have U:jB s args=gI s 200 (args.flatMap SV.ids) []:=rfl;unfold kj at q;simp only[] at q;generalize S:gI s 200 (args.flatMap SV.ids) []=ids at q U;rw[U];obtain⟨Az,q⟩:=wV q;split at q
    .rename_i cG SH;split at q
     .rename_i r K w6;simp only[rO] at q;obtain⟨z,q⟩:=wV q;generalize hmB:(qu l 0 ids).filter (λp=> !(given l p.1))=mB at q z;generalize hnw:newNames d 0 (K.drop mB.length)=I at q z;have hlen:(K.drop mB.length).length<=8:=by
       simp only[aV] at z;have:=fF z.1.1.1.1;rwa[<-hnw,EX] at this
      have hin:∀j∈I.map (·.1),j∈oo d:=λj H=>by obtain⟨p,O,rfl⟩:=aG.1 H;rw[<-hnw] at O;exact Ht O af
      have hinB:∀j∈mB.map (·.1),j∈ids:=λj H=>by obtain⟨p,O,rfl⟩:=aG.1 H;rw[<-hmB] at O;exact(rB l 0 ids p (c7.1 O).1).1
      split at q
      .rename_i B hb;have CV:∀{j:Nat} {o':Ob},find B j=some o'->j∈ids++oo d:=λ{j o'} hf=>by
        have:=back_mem hb hf;grind
       have hx:∀x:St,(∀t∈fA F o,x.env t=s.env t)->(∀j∈ids++oo d,x.ob j=s.ob j)->∀w,(match(generalizing:=false) r with
         | .gX [.gX [.self 0, .pG,y]]=>bif(vV y).closed ((mB++I).map (·.2)) then
           some (St.set { env:=(fD (ids.filter (λi=> !(stays l i))++I.map (·.1)) x).env,ob:=λi=>(find B i).orElse λ_=>(fD (ids.filter (λi=> !(stays l i))++I.map (·.1)) x).ob i } (some d) (KL (find B) ((vV y).oN (iN (swap (mB++I))))))
          else none
         |r=>bif r.jJ then
           some (St.set { env:=(fD (ids.filter (λi=> !(stays l i))++I.map (·.1)) x).env,ob:=λi=>(find B i).orElse λ_=>(fD (ids.filter (λi=> !(stays l i))++I.map (·.1)) x).ob i } (some d) (.pv r))
          else none)=w->iI P h cB x c f (some d)=w:=λx h1 h2 w hw=>by
        have V:∀j∈ids,x.ob j=s.ob j:=λj H=>h2 j (cO _ H)
        have k3:gI x 200 (args.flatMap SV.ids) []=ids:=by rw[<-S];exact(pg 200 _ _ λid hid=>(V id (by rw[S] at hid;exact hid)).symm).symm
        have k4:∀i∈jB x args,JW x (iw false x kr) i=l i:=λi hi=>by
         have hi':i∈ids:=by
          have:jB x args=ids:=k3
          rwa[this] at hi
         rw[<-hcls];simp only[JW,EV,VC,iw,ON,V i hi']
        have k7:jP x ids (iN (qu l 0 ids)) (qu l 0 ids)=some cG:=by rw[<-SH];exact tE λp O=>V p.1 (rB l 0 ids p O).1
        rw[key x h1,RU k4];unfold kj;simp only[k3,Az,ak,k7,w6,rO,hmB,hnw,z,hb];omega
       have go:∀v:SV,s'=St.set { env:=(fD (ids.filter (λi=> !(stays l i))++I.map (·.1)) s).env,ob:=λi=>(find B i).orElse λ_=>(fD (ids.filter (λi=> !(stays l i))++I.map (·.1)) s).ob i } (some d) v->
         (∀x:St,(∀t∈fA F o,x.env t=s.env t)->(∀j∈ids++oo d,x.ob j=s.ob j)->iI P h cB x c f (some d)=some (St.set { env:=(fD (ids.filter (λi=> !(stays l i))++I.map (·.1)) x).env,ob:=λi=>(find B i).orElse λ_=>(fD (ids.filter (λi=> !(stays l i))++I.map (·.1)) x).ob i } (some d) v))->
         ∃ev ov m,jQ (step0 P h cB o) s { rs:=fA F o,ws:=[d],ro:=ids++oo d,wo:=ids++oo d,mv:=ids.filter (λi=> !(stays l i))++oo d } ev ov m:=λv hs' hx=>by
        refine⟨s'.env,s'.ob,(ids.filter (λi=> !(stays l i))++I.map (·.1)).map λi=>(i,none),λp O=> ?_,λj _ hk=>(by cases hk),λx h1 h2 _=> ?_⟩
        .obtain⟨i,hi,rfl⟩:=aG.1 O;rcases bu.1 hi with hi|hi
         .exact cO _ hi
         .exact gG _ (hin i hi)
        .rw[he,G,hx x h1 h2,hs'];refine aU _ (St.same (λt=> ?_) (λj=> ?_))
         .simp[fP,cQ];by_cases e:t=d
          .subst e;simp[St.set,de]
          .rw[az e];simp[St.set,bZ _ _ (λh=>e h.symm),ox]
         .have abN:∀(y) (v),(St.set y (some d) v).ob=y.ob:=λy v=>rfl
          simp only[fP,abN];by_cases e:j∈ids++oo d
          .rw[aB e,ql _ _ _ _ (h2 j e)]
          .rw[az e];have hb0:find B j=none:=by
            cases hf:find _ j with
            |none=>rfl
            |some o'=>exact absurd (CV hf) e
           have H:j∉ids.filter (λi=> !(stays l i))++I.map _:=λH=>e (by
            rcases bu.1 H with H|H
            .exact cO _ (c7.1 H).1
            .exact gG _ (hin j H))
           rw[hb0,sF _ _ _ H];rfl
       grind
      simp_all
     simp_all
    simp_all
   .cases D
  .cases D
 simp_all
def put_fx {G:Array Oper} {o:Oper} {s s':St} {t:TypeId} {a y:Operand} {id R i w j:Nat} (ho:o.op= .store t a y) (V:bP P 0 s a=some (.rp id R i w)) (hy:bP P t s y=some (.row j)) (l:step0 P h cB o s=some s') (D:(lC P h G o s).all=false):
  ∃ev ov m,jQ (step0 P h cB o) s (lC P h G o s) ev ov m:=by
 obtain⟨F,B⟩:∃F,lC P h G o s=F:=⟨_,rfl⟩
 rw[B] at D⊢;unfold lC at B;rw[ho] at B;cases I:o.dst with
 |some d=>rw[I] at B;subst B;cases D
 |none=>
  rw[I] at B;simp[EE,V,hy] at B;subst B;have he:∀x:St,bP P 0 x a=some (.rp id R i w)->bP P t x y=some (.row j)->step0 P h cB o x=HA P x t id R i w j:=λx h1 U=>by simp_all[ey,fB,step0,nC]
  rw[he s V hy] at l;unfold HA at l;split at l
  .rename_i e sz' k e' s2 xs ys S s3 zs H hsz sY K;cases hb:(Nat.beq R sz'&&Nat.beq w k&&Nat.blt id 10000&&Nat.blt j 10000&&Nat.beq e' S&&Nat.beq s2 s3&&Nat.blt i ys.length&& !(Nat.beq id j)) with
   |false=>simp_all
   |true=>
   rw[hb] at l;simp at l;refine⟨s'.env,s'.ob,[(j,none),(id+40000,none)],by simp,λq hq hk=> ?_,λx h1 U _=> ?_⟩<;>subst l
   .simp_all[de,Ob.uc]
   .have O:∀z∈o.op.operands.toList,∀ty,bP P ty x z=bP P _ s z:=λz hz ty=>jg (λu e=>h1 u (by
     subst e
     exact cO _ (fe.2 ⟨_,hz,rfl⟩))) _
    have k1:=O a (by rw[ho];simp[Op.operands]) 0;have k2:=O y (by rw[ho];simp[Op.operands]) t;have x1 :=(U _ ai).trans sY;have x2 :=(U j ai).trans K;rw[he x (k1.trans V) (k2.trans hy)];unfold HA;simp only[H,hsz,x1,x2,hb];refine aU _ (St.same (λu=> ?_) (λu=> ?_))
    .exact ox [j,id+40000] x u
    .simp[fP];by_cases e:u=id
     .simp_all[de]
     .simp[bZ _ _ (λh=>e h.symm)];by_cases S:u=j
      .rw[aB (.inr (.inl S))];exact ql [j,id+40000] x s u (by simp_all)
      .by_cases e3:u=id+40000
       .simp_all[St.dH,de]
       .rw[az af];exact sF [j,id+40000] x u (by simp_all)
  simp_all
def wk (w:List (Nat×Nat×TypeId×Nat)):∀(l:List (Nat×TypeId×Nat)) (q:St) (t:Nat),(iJ w l q).env t=(q.env t).map (jU (l.map λx=>(x.1,none)))
 |[],q,t=>by exact(iA λ_=>rfl).symm
 |(id,e,s)::l,q,t=>by simp[iJ];rw[wk _ l _ t];simp[St.new,St.dH];rfl
def C6 (z:List (Nat×Nat×TypeId×Nat)):∀(l:List (Nat×TypeId×Nat)) (q:St) (j:Nat),j∉l.map (·.1)->(iJ z l q).ob j=(q.ob j).map (Ob.zR (jU (l.map λx=>(x.1,none))))
 |[],q,j,_=>by grind[iJ,iA,BI]
 |(id,e,s)::l,q,j,w=>by simp only[bS,aS,not_or] at w;simp[iJ];rw[C6 _ l _ j w.2];simp only[St.new,St.dH,bZ _ _ (λh=>w.1 h.symm)];cases q.ob j with
  |none=>rfl
  |some o=>cases o<;>simp only[ff,Ob.dH,Ob.zR,e8]<;>rfl
theorem ux (w:List (Nat×Nat×TypeId×Nat)):∀(l:List (Nat×TypeId×Nat)) (z q:St) (j:Nat),z.ob j=q.ob j->(iJ w l z).ob j=(iJ w l q).ob j
 |[],z,q,j,h=>h
 |(id,e,s)::l,z,q,j,h=>by
  refine ux _ l _ _ j ?_;by_cases e:id=j
  .simp_all[St.new,de]
  simp_all[St.new,St.dH,bZ]
def Tl {v:AV}:∀l:List (Nat×Option AV),jU l (.pv v)= .pv v
 |[]=>rfl
 |p::l=>by
  obtain⟨c,_,e,_⟩:=Kl p _;have e:Tn p (.pv v)= .pv v:=by rw[e];rfl
  show jU l (Tn p _)= .pv v;rw[e,Tl l]
def EY {q:List (Nat×Nat×TypeId×Nat)} {l:List (Nat×TypeId×Nat)} {w:St} {t:TypeId} {y:Operand} {v:AV} (z:bP P t w y=some (.pv v)):bP P t (iJ q l w) y=some (.pv v):=by cases y with
 |tmp i=>simp_all[bP,wk,Tl]
 |_=>exact z
theorem ZW {q l:St} {v:AV}:Gj q (.pv v)=Gj l (.pv v):=by cases v<;>rfl
def E3 {ty:Nat->TypeId} {K st1 st2:St}:∀{l:List (Nat×Operand)} {q:List (Nat×AV)},(∀y∈l.map (·.2),∀t v,bP P t K y=some (.pv v)->bP P t st1 y=some (.pv v)/\bP P t st2 y=some (.pv v))->partsOf P ty K l=some q->
  qK P ty st1 l=qK P ty st2 l/\∀D,qK P ty st1 l=some D->∀p∈D,∀c∈p.2,∃v,c= .pv v
 |[],_,_,_=>⟨rfl,λD h p F=>by simp_all[qK]⟩
 |(i,y)::l,q,V,I=>by
  unfold partsOf at I;split at I
  .rename_i v vs R H;obtain⟨sv,O,G⟩:=dA.1 R;cases sv with
   |pv v'=>
    obtain⟨k1,k2⟩:=E3 (λz hz=>V z (by simp_all)) H;refine⟨?_,λD B p F c hc=> ?_⟩
    .simp[qK];grind[ZW]
    .unfold qK at B;split at B
     .rename_i w ws S U;injection B with B;subst B;rcases aS.1 F with rfl|F
      .unfold Gj at S;grind
      grind
     simp_all
   |_=>simp[kR] at G
  simp_all
def MX {Q:SV->Prop} {place:Nat->Option (Nat×Nat)}:∀{l:List (Nat×List SV)} {cells r:List SV},G9 place cells l=some r->(∀c∈cells,Q c)->(∀p∈l,∀c∈p.2,Q c)->∀c∈r,Q c
 |[],cells,r,h,w,_=>by simp_all[G9]
 |(i,v)::l,cells,r,h,w,z=>by
  unfold G9 at h;split at h
  .cases h
  .split at h
   .refine MX h (λc q=> ?_) λp B=>z p (dB _ B)
    rcases bu.1 q with q|q
    .rcases bu.1 q with q|q
     .grind
     simp_all
    grind
   grind
def Bu {I:List Nat} {d:Nat}:∀(j:Nat) (F:List TypeId) (G:List Value) (w:List SV) (l:List (Nat×TypeId×Nat)),nV P I d j F G=some (w,l)->∀c∈w,(∃v,c= .pv v)\/∃id∈l.map (·.1),c= .row id
 |j,[],[],w,l,q,c,z=>by simp[nV] at q;simp_all
 |j,[],_::_,w,l,q,c,z=>by simp[nV] at q
 |j,_::_,[],w,l,q,c,z=>by simp[nV] at q
 |j,t::F,v::G,w,l,q,c,z=>by
  unfold nV at q;split at q
  .rename_i D K B;split at q
   .obtain⟨_,q⟩:=wV q;obtain⟨rfl,rfl⟩:=q;rcases aS.1 z with rfl|z
    .simp
    .rcases Bu _ _ _ _ _ B c z with h|⟨id,H,h⟩
     .simp_all
     simp_all
   .simp at q;obtain⟨a,_,rfl,rfl⟩:=q;rcases aS.1 z with rfl|z
    .simp
    .exact Bu _ _ _ _ _ B c z
  simp_all
def CQ {w q:St}:∀{l:List SV},(∀c∈l,ow w c=ow q c)->wY w l=wY q l
 |[],_=>rfl
 |c::l,h=>by unfold wY aaV;rw[h c (gz ..),CQ λx z=>h x (dB _ z)]
def rows_fx {R:Array Oper} {o:Oper} {s s':St} {d:Nat} {t:TypeId} {w:Array (Nat×Operand)} (ho:o.op= .build t w) (hdd:o.dst=some d) (hrw:h.rows.contains d=true) (z:step0 P h cB o s=some s')
  (B:(BC P h R o s d t w.toList).all=false):∃ev ov m,jQ (step0 P h cB o) s (BC P h R o s d t w.toList) ev ov m:=by
 have he:∀x,step0 P h cB o x=vC P h x d t w.toList:=λx=>by simp_all[ey,step0,nC]
 rw[he] at z;unfold BC at B⊢;split at B
 .rename_i svs l q hz hq;unfold vC at z;rw[hz] at z;split at z
  .rename_i fs svs' l' hu e1;injection e1 with e1;injection e1 with e1 e2;subst e1;subst e2;obtain⟨hfs,z⟩:=wV z;split at z
   .rename_i ps H;split at z
    .rename_i cs V;injection z with z;obtain⟨sv,D,U⟩:=dA.1 V;obtain⟨vs,_,F⟩:=dA.1 hz;refine⟨s'.env,s'.ob,l.map λx=>(x.1,none),λp hp=> ?_,λj _ hk=>(by cases hk),λx h1 h2 _=> ?_⟩
     .grind
     .have hox:∀y∈w.toList.map (·.2),∀ty,bP P ty x y=bP P _ s y:=λy hy ty=>jg (λu e=>h1 u (by
       exact cO _ (fe.2 ⟨.tmp u,by simp_all[Op.operands],rfl⟩))) _
      have K:=E3 (st1:=iJ h.nest l s) (st2:=iJ h.nest l x) (λy hy ty v hv=>⟨EY hv,EY ((hox y hy _).trans hv)⟩) hq;have I:qK P (Iw P t) (iJ h.nest l x) w.toList=some ps:=by rw[<-K.1];exact H
      have G:∀c∈sv,ow (iJ h.nest l x) c=ow (iJ h.nest l s) c:=λc S=>by
       rcases MX D (Bu 0 _ _ _ _ F) (λp hp c S=> .inl (K.2 _ H p hp c S)) c S with⟨v,rfl⟩|⟨id,hid,rfl⟩
       .cases v<;>rfl
       grind[ow,ux]
      rw[he];unfold vC;rw[hz];simp[hu,hfs,I,D,kA];rw[CQ G,U];refine aU _ (St.same (λu=> ?_) (λj=> ?_))
      .simp[fP,cQ];by_cases e:u=d
       .subst e;rw[<-z];simp[St.set,de]
       .rw[az e];simp[St.set,bZ _ _ (λh=>e h.symm),wk]
      .have O:∀(y) (v),(St.set y (some d) v).ob=y.ob:=λy v=>rfl
       simp[fP,O];by_cases e:j∈l.map (·.1)
       .rw[aB e,ux _ l x s j (h2 j e),<-z];rfl
       simp_all[C6]
    simp_all
   simp_all
  simp_all
 .cases B
def Ve {H:Array Oper} {o:Oper} {s s':St} (q:step0 P h cB o s=some s') (B:(lC P h H o s).all=false):
  ∃ev ov m,jQ (step0 P h cB o) s (lC P h H o s) ev ov m:=by
 by_cases hld:∃t x,o.op= .load t x
 .obtain⟨t,a,ho⟩:=hld;exact take_fx ho q B
 by_cases hpt:∃t a x id sz i off j,o.op= .store t a x/\bP P 0 s a=some (.rp id sz i off)/\bP P t s x=some (.row j)
 .obtain⟨t,a,x,id,sz,i,off,j,ho,ha,hx⟩:=hpt;exact put_fx ho ha hx q B
 by_cases hct:∃t a x id off j sz lo hi,o.op= .store t a x/\bP P 0 s a=some (.ptr id off)/\bP P t s x=some (.sub j sz lo hi)
 .obtain⟨t,a,x,id,off,j,sz,lo,hi,ho,ha,hx⟩:=hct;unfold lC at B;rw[ho] at B;cases G:o.dst with
  |some d=>rw[G] at B;cases B
  |none=>rw[G] at B;simp only[EE,ha,hx] at B;cases B
 have go:∀{l:List (Nat×Option AV)},(∀p∈l,p.1∈(lC P h H o s).mv)->(∀t∈fA H o,t∈(lC P h H o s).rs)->(∀x:St,(∀t∈(lC P h H o s).rs,x.env t=s.env t)->(∀j∈(lC P h H o s).ro,x.ob j=s.ob j)->step0 P h cB o x=some (fP (lC P h H o s) s'.env s'.ob l x))->
   ∃ev ov m,jQ (step0 P h cB o) s (lC P h H o s) ev ov m:=λhk _ O=>⟨_,_,_,hk,λj _ hj=>(by rw[kp_E0 hld hpt] at hj;cases hj),λx K U _=>O x K U⟩
 obtain⟨F,D⟩:∃F,lC P h H o s=F:=⟨_,rfl⟩
 rw[D] at B go⊢;unfold lC at D;split at D
 ·
  rename_i t ax ay w hdn;replace D:Ct P H o s ax=F:=by
   rw[<-D];unfold EE;split
   .rename_i K U;exact absurd ⟨_,_,_,_,_,_,_,_,w,K,U⟩ hpt
   .rename_i K U;exact absurd ⟨_,_,_,_,_,_,_,_,_,w,K,U⟩ hct
   .rfl
  unfold Ct at D;split at D
  .rename_i id hx;subst D;obtain⟨sa,hsa,htg⟩:=dA.1 hx;have R:∀x,ey P h cB o x=none:=λx=>by simp[ey,w,fB]
   have V:=q;unfold step0 at V;rw[R] at V;simp only[nC,hdn,w,hsa] at V;split at V
   .rename_i K U;injection K with K;subst K;exact absurd ⟨_,_,_,_,_,_,_,_,w,hsa,U⟩ hpt
   .rename_i K U;injection K with K;subst K;exact absurd ⟨_,_,_,_,_,_,_,_,_,w,hsa,U⟩ hct
   .rename_i sa' sv _ hnr e1 hy;injection e1 with e1;subst e1;obtain⟨l1,l2,l3⟩:=Mx V htg;refine go (l:=[]) ai (λt ht=>ht) λx K U=> ?_
    have hox:∀y∈o.op.operands.toList,∀ty,bP P ty x y=bP P ty s y:=λy hy' ty=>jg (λu e=>K u (by
     subst e
     exact cO _ (fe.2 ⟨.tmp u,hy',rfl⟩))) ty
    have k1:=hox ax (by rw[w];simp[Op.operands]) 0;have k2:=hox ay (by rw[w];simp[Op.operands]) t;unfold step0;rw[R];have hsel:nC P h cB o x=storeAt P t x sa sv:=by simp only[nC,hdn,w,k1,k2,hsa,hy]
    simp only;rw[hsel,l3 x (U id ai) λj hj=>U j (dB _ (vD (P:=P) (x:=ay) (ty:=t) (by rw[w];simp[Op.operands]) hy hj))];congr 1;refine St.same (λu=> ?_) (λu=> ?_)
    .simp only[fP,nG,gL];exact(iA λ_=>rfl).symm
    .simp only[fP,cQ];by_cases e:u=id
     .subst e;simp[de]
     .rw[az e,bZ _ _ (λh=>e h.symm)];exact(iA BI).symm
   .cases V
  .subst D;cases B
 ·
  rename_i t d w G;cases S:h.rows.contains d with
  |true=>rw[S] at D;subst D;cases B
  |false=>
   rw[S] at D;simp only[aA] at D;subst D;have he:∀x,step0 P h cB o x=match NP P h (some d) t with
    |some z=>some ((x.new d (.box t (z.map .pv))).set (some d) (.ptr d 0))
    |none=>none:=λx=>by
    have R:ey P h cB o x=none:=by simp[ey,w,fB]
    unfold step0;rw[R];simp only[nC,G,w,S,aA];rfl
   rw[he] at q;split at q
   .rename_i z hz;injection q with q;subst q;refine go (l:=[(d,none)]) ai (λt ht=>ht) λx K U=> ?_
    rw[he,hz];simp only;rw[Gi (f:={ rs:=fA H o,ws:=[d],wo:=[d],mv:=[d] }) (s:=s) rfl rfl]
   .cases q
 ·
  rename_i t len I d w G;cases hby:h.fu.contains d&& !h.rows.contains d with
  |true=>rw[hby] at D;subst D;cases B
  |false=>
  rw[hby] at D;simp only[aA] at D;cases S:h.rows.contains d with
  |false=>rw[S] at D;subst D;cases B
  |true=>
   rw[S] at D;simp only[ak] at D;subst D;have he:∀x,step0 P h cB o x=match kY P t len I.toList x with
    |some (e,s,xs)=>match find h.nest d with
     |none=>some ((x.new d (.row e s xs)).set (some d) (.row d))
     |some (k,e',s')=>bif Nat.blt k s&&xs.all (qJ k) then some ((x.new d (.rn e s k e' s' (xs.map λc=>c.set k .hole) (xs.map λ_=>some []))).set (some d) (.row d)) else none
    |none=>none:=λx=>by
    have R:ey P h cB o x=none:=by simp only[ey,w,G,uK,S,uJ,ak]
    unfold step0;rw[R];simp only[nC,G,w,hby,aA];rfl
   have hl:∀x:St,(∀t∈fA H o,x.env t=s.env t)->kY P t len I.toList x=kY P t len I.toList s:=λx K=>by
    unfold kY
    have hp:∀ty,partsOf P ty x I.toList=partsOf P ty s I.toList:=λty=>tH (λy hy t=>jg (λu e=>K u (by
     subst e
     exact cO _ (fe.2 ⟨.tmp u,by rw[w];simpa[Op.operands] using hy,rfl⟩))) t)
    simp only[hp]
   rw[he] at q;obtain⟨ob,hs',O⟩:∃ob:Ob,s'=(s.new d ob).set (some d) (.row d)/\∀x:St,kY P t len I.toList x=kY P t len I.toList s->step0 P h cB o x=some ((x.new d ob).set (some d) (.row d)):=by
    split at q
    .rename_i e sz xs hlit;split at q
     .rename_i hn;injection q with q;exact⟨_,q.symm,λx hx=>by rw[he,hx,hlit];simp only[hn]⟩
     .rename_i k e' s2 hn;obtain⟨hb,q⟩:=wV q;injection q with q;exact⟨_,q.symm,λx hx=>by rw[he,hx,hlit];simp only[hn,hb,ak]⟩
    .cases q
   subst hs';refine go (l:=[(d,none)]) ai (λt ht=>ht) λx K U=> ?_
   rw[O x (hl x K),Gi (f:={ rs:=fA H o,ws:=[d],wo:=[d],mv:=[d] }) (s:=s) rfl rfl]
 ·
  rename_i t I d w G;cases S:h.rows.contains d with
  |false=>rw[S] at D;subst D;cases B
  |true=>rw[S] at D;simp only[ak] at D;subst D;exact rows_fx w G S q B
 ·
  rename_i t l c d w G;subst D;have R:∀x,ey P h cB o x=none:=λx=>by simp[ey,w,fB]
  obtain⟨ob,hs',O⟩:∃ob:Ob,s'=(s.new d ob).set (some d) (.row d)/\∀x:St,(∀y∈o.op.operands.toList,∀ty,bP P ty x y=bP P ty s y)->step0 P h cB o x=some ((x.new d ob).set (some d) (.row d)):=by
   unfold step0 at q;rw[R] at q;simp only[nC,G,w] at q;split at q
   .rename_i e sz k1 nl k2 nc K U h3;split at q
    .rename_i z i hz hi;split at q
     .rename_i hc;injection q with q;refine⟨_,q.symm,λx hx=> ?_⟩;unfold step0;rw[R];simp only[nC,G,w,hx l (by rw[w];simp[Op.operands]) 0,hx c (by rw[w];simp[Op.operands]) 0,K,U,h3,hz,hi];rw[aB hc]
     .cases q
    .cases q
   .cases q
  subst hs';refine go (l:=[(d,none)]) ai (λt ht=>ht) λx K U=> ?_
  rw[O x (λy hy ty=>jg (λu e=>K u (by subst e;exact cO _ (fe.2 ⟨.tmp u,hy,rfl⟩))) ty),Gi (f:={ rs:=fA H o,ws:=[d],wo:=[d],mv:=[d] }) (s:=s) rfl rfl]
 .rename_i c w;split at D
  ·
   rename_i hc;unfold OA at D;split at D
   .rename_i x y t t' d hargs OI G;split at D
    .rename_i id hx;subst D;obtain⟨ob,hs',O⟩:=aaF w hc hargs OI G hx q;subst hs';refine go (l:=[(id,none)]) ai (λt ht=>ht) λx K U=> ?_
     rw[O x (λt ht=>K t (by simp[fA,ht])) U,Gi (f:={ rs:=fA H o,ws:=[d],ro:=id::C7 s o,wo:=[id],mv:=[id] }) (s:=s) rfl rfl]
    .rename_i id hx;subst D;obtain⟨ob,hs',O⟩:=YZ w hc hargs OI G hx q;subst hs';refine go (l:=[(id,none)]) ai (λt ht=>ht) λx K U=> ?_
     rw[O x (λt ht=>K t (by simp[fA,ht])) U,Gi (f:={ rs:=fA H o,ws:=[d],ro:=id::C7 s o,wo:=[id],mv:=[id] }) (s:=s) rfl rfl]
    .subst D;cases B
   .subst D;cases B
  ·
   rename_i f hc;cases how2:(o.dst.any h.owns.contains&& !(o.dst.any (λd=>(xk h d).isSome))) with
   |false=>rw[how2] at D;simp only[aA] at D;cases hmn:(!(o.dst.any h.owns.contains)&&(!(o.dst.any h.stay.contains)&&wide s c f)) with
    |false=>rw[hmn] at D;simp only[aA] at D;cases how3:o.dst.any h.owns.contains with
     |false=>rw[how3] at D;subst D;cases B
     |true=>rw[how3] at D;simp only[ak] at D;subst D;exact gen_fx w hc how3 q B
    |true=>rw[hmn] at D;simp only[ak] at D;rw[<-D] at B⊢;simp only[aV,jx] at hmn;exact many_fx w hc hmn.1 hmn.2.1 hmn.2.2 q B
   |true=>
    rw[how2] at D;simp only[ak] at D;subst D;obtain⟨how,JY⟩:=lK.1 how2;have he:∀x,step0 P h cB o x=iI P h cB x c f o.dst:=λx=>by
     have R:ey P h cB o x=none:=by simp only[ey,w,hc,how,ak]
     unfold step0;rw[R];cases G:o.dst with
     |none=>rw[G] at how;cases how
     |some d=>rw[G] at how;simp only[nC,w,hc,G,how,ak]
    have hox:∀x:St,(∀t∈fA H o,x.env t=s.env t)->∀y∈o.op.operands.toList,∀ty,bP P ty x y=bP P ty s y:=λx K y hy' ty=>jg (λu e=>K u (by
     subst e
     exact cO _ (fe.2 ⟨.tmp u,hy',rfl⟩))) ty
    rw[he] at q;unfold iI at q;split at q
    .rename_i d G;have hn:(xk h d).isSome=false:=by simpa[G] using JY
     have hgv:find h.rI d=none:=by cases hg:find h.rI d with
      |none=>rfl
      |some gv=>simp[xk,hg] at hn
     rw[hn,hgv] at q;simp only[] at q;split at q
     .rename_i g caps vs hf hvs;split at q
      rotate_left
      .rename_i cs' hr
       have:xk h d=none:=by simpa using hn
       rw[this] at q;cases q
      .cases q
      rename_i e sz xs hr;injection q with q;subst q;refine go (l:=[(d,none)]) (by simp[G]) (λt ht=>ht) λx K U=> ?_
      have k1:=hox x K f (by rw[w];simp[Op.operands,Call.operands,hc]) 0;have k2:=BT (P:=P) (b:=false) (st:=x) (st':=s) (xs:=c.args.toList) (ts:=c.argTypes.toList) (λy hy=>hox x K y (by rw[w];simp only[Op.operands,Call.operands,iY,bu];exact .inr hy));rw[he];unfold iI;rw[G];simp only[hgv,hn,k1,k2,hf,hvs,hr,aA];exact aU some (Gi (f:={ rs:=fA H o,ws:=(some d).toList,wo:=(some d).toList,mv:=(some d).toList }) (s:=s) rfl rfl)
     .cases q
    .cases q
  .subst D;cases B
 .rename_i hq _;exact absurd ⟨_,_,hq⟩ hld
 .subst D;cases B
def Sx {ops:Array Oper} {o:Oper}:∀{l:List Nat} {s s':St},(mW l s).bind (step0 P h cB o)=some s'->(M1 P h ops o l s).all=false->∃ev ov m,jQ (λx=>(mW l x).bind (step0 P h cB o)) s (M1 P h ops o l s) ev ov m
 |[],s,s',q,w=>by simp only[mW,kA] at q⊢;simp only[M1] at w⊢;cases z:isF h s o with
  |false=>simp_all[aA,Ve]
  |true=>rw[z] at w;simp only[ak] at w⊢;cases S:(isW o.op||isWc s o.op) with
   |false=>rw[S] at w;cases w
   |true=>simp only[ak];cases D:ey P h cB o s with
    |some v=>exact⟨_,_,_,Ur D⟩
    |none=>exfalso;unfold step0 at q;rw[D] at q;simp only at q;cases B:o.op with
     |buildSlice t len R=>
      simp only[isF,B] at z;obtain⟨z,G⟩:o.dst.any h.rows.contains=false/\o.dst.any h.fu.contains=false:=by simpa using z
      simp only[ey,B,z,G,Bool.or_self,aA,Option.map_eq_none_iff] at D;cases H:o.dst with
      |none=>simp[nC,B,H] at q
      |some d=>rw[H] at G;simp only[uK] at G;simp only[nC,B,H,G,p5,aA,D] at q;cases q
     |build t R=>
      simp only[isF,B] at z;have z:o.dst.any h.rows.contains=false:=by simpa using z
      cases H:o.dst with
      |none=>simp[nC,B,H] at q
      |some d=>simp_all[nC,aA]
     |load t x=>
      simp only[isF,B] at z;have z:o.dst.any h.take.contains=false:=by simpa using z
      cases H:o.dst with
      |none=>simp[nC,B,H] at q
      |some d=>simp_all[nC,aA]
     |call c=>simp only[isW,B,pX,isWc] at S;cases hc:c.callee with
      |value f=>
       rw[hc] at S;simp only[jx] at S;have U:∀x∈c.args.toList,lu s x=false:=λx hx=>by grind
       have hag:c.args.toList.any (yX s)=false:=by rw[yZ];intro x hx ha;have F:=U x hx;cases x with
        |tmp i=>simp only[yX] at ha;simp only[lu] at F;grind
        |_=>cases ha
       have oH:∀l:List Operand,(∀x∈l,lu s x=false)->nC.iy s l=some s:=by intro l;induction l with
        |nil=>intro _;rfl
        |cons x l ih=>
         intro hl;have F:=hl x ai;have h2:=ih λy hy=>hl y (by simp[hy])
         cases x with
         |tmp i=>simp only[nC.iy];simp only[lu] at F;grind
         |_=>exact h2
       have hpa:nC.jK s c.args.toList=some s:=by unfold nC.jK;rw[hag];exact oH _ U
       simp only[isF,B,hc,aV,jx,gE] at z;obtain⟨how,z⟩:=z
       have he:nC P h cB o s=(bif o.dst.any h.owns.contains then iI P h cB s c f o.dst else bif o.dst.any h.stay.contains&&wide s c f then none else bif wide s c f then jT P h cB s c f o.dst else bif c.args.toList.any (λx=>(pK h s x).isSome) then qg P h cB s c f o.dst else
        match nC.jK s c.args.toList with
        |some I=>match bP P 0 I f,jO P I c.args.toList c.argTypes.toList with
         |some (.pv (.fn g K)),some vs=>match cB g ((vs++K).map .pv) [] with
          |some (r,[])=>bif c.args.toList.any (lu I)|| !r.jJ then none else some (I.set o.dst (.pv r))
          |_=>none
         |_,_=>none
        |none=>none):=by
        cases H:o.dst<;>simp only[nC,B,hc,H]<;>rfl
       rw[he,how] at q;simp only[aA] at q;rcases z with z|z
       .simp_all
       .obtain⟨ZA,hrf⟩:=(gi).1 z;rw[ZA,hrf,hpa] at q;simp only at q;simp only[ey,B,hc] at D;rw[how,ZA,hrf] at D;split at q
        .rename_i g K vs F h2;rw[F,h2] at D;simp only at D;split at q
         .rename_i r hr;rw[hr] at D;simp[S] at D q;cases V:r.jJ with
          |true=>rw[V] at D;cases D
          |false=>rw[V] at q;cases q
         simp_all
        simp_all
      |_=>simp_all
     |_=>simp[isW,isWc,B] at S
 |t::l,s,s',q,w=>by simp[mW] at q;cases F:qx s t with
  |none=>simp_all
  |some s1=>
   rw[F] at q;simp[M1,F] at w⊢;have O :=by simp[gw.then,gi] at w;exact w.2
   obtain⟨ev,ov,m,r1⟩:=ZZ F;obtain⟨ev',ov',m',r2⟩:=Sx q O;have e1:=r1.at F;rw[e1] at r2;obtain⟨ev2,ov2,r3⟩:=YI r1 r2;rw[<-e1] at r3;refine⟨ev2,_,_,r3.1,r3.2.1,λx k1 k2 k3=> ?_⟩;rw[<-r3.2.2 x k1 k2 k3];grind[mW]
theorem Zk {l:Array Oper} {k:Nat} {o:Oper} {s F:St} (U:l[k]? =some o) (V:qq l o s=some true) (B:step P h cB o s=some F) (w:((uF P h l o s).fill s F).all=false):
  ∃G O m,Jd (qT P h cB l k) s ((uF P h l o s).fill s F) G O m/\RA s ((uF P h l o s).fill s F):=by
 have z :=by simp[uF,gw.then,rN] at w;exact w
 obtain⟨G,O,m,r⟩:=Sx B z;have D:jQ (step P h _ o) s (uF P h l o s) _ _ m:=r.imp (λt q=>by simp[uF,gw.then,q]) (λt q=>by simp[uF,gw.then,q]) (λt q=>by simp[uF,gw.then,q]) (λt=>by rfl) (λt=>by rfl) (λt q=>by simp[uF,gw.then,q]) (λt q K=>by simp_all[uF,gw.then]);have e:=D.at B;refine Ox D.1 (λx H R S=> ?_) λj I K=> ?_
 rotate_left
 .rw[e,skO I];exact D.2.1 j I K
 simp[qT,U];rw[Aq λt q=>H t (by simp[uF,gw.then,q]),V];simp only;rw[D.2.2 x H R S,e];congr 1;refine St.same (λt=> ?_) (λj=> ?_)
 .simp[fP];simp_all
 .simp[fP];simp_all
def run_of {w:Array Oper}:∀(l:List Oper) (i:Nat) (z:List (Nat×gw)) (B s:St),(∀k o,l[k]? =some o->w[i+k]? =some o)->j0 P h cB w i l z B=some s->
  ∃F:List (Nat×gw),F.length=l.length/\(∀j,j∈F.map (·.1)↔i<=j/\j<i+l.length)/\F.Pairwise (λp q=>p.1<q.1)/\NU (qT P h cB w) F B s/\
   (∀p∈z,∀q∈F,p.2.conflict q.2=true->reach w 12 q.1 p.1=true)/\F.Pairwise (λp q=>p.2.conflict q.2=true->reach w 12 q.1 p.1=true):=by
 intro l;induction l with
 |nil=>intro i z B s _ D;simp only[j0,bq] at D;exact⟨[],rfl,by simp, .nil,D,by simp, .nil⟩
 |cons o l ih=>
  intro i z B s R D;have V:w[i]? =some o:=by simpa using R 0 o ai
  have H:∀(f:gw) (G:St),qT P h cB w i B=some G->(f.all=false->∃ev ov m,Jd (qT P h cB w i) B f ev ov m/\RA B f)->xQ w z i f=true->j0 P h cB w (i+1) l ((i,f)::z) G=some s->
    ∃F:List (Nat×gw),F.length=(o::l).length/\(∀j,j∈F.map (·.1)↔i<=j/\j<i+(o::l).length)/\F.Pairwise (λp q=>p.1<q.1)/\NU (qT P h cB w) F B s/\
     (∀p∈z,∀q∈F,p.2.conflict q.2=true->reach w 12 q.1 p.1=true)/\F.Pairwise (λp q=>p.2.conflict q.2=true->reach w 12 q.1 p.1=true):=λf G h1 h2 h3 h4=>by
   obtain⟨F,k0,k1,k2,k3,k4,k5⟩:=ih (i+1) ((i,f)::z) G s (λk o' hk=>by
    have:=R (k+1) o' (by assumption)
    grind) h4
   refine⟨(i,f)::F,by simp[k0],λj=> ?_, .cons (λq O=> ?_) k2,⟨G,h1,h2,k3⟩,λp hp q O K=> ?_, .cons (λq O=>k4 (i,f) ai q O) k5⟩
   .simp only[bS,aS,k1,bD];omega
   .have:=(k1 q.1).1 (aG.2 ⟨q,O,rfl⟩);omega
   .rcases aS.1 O with rfl|O
    .have:=cI.1 h3 p hp;simpa[K] using this
    grind
  simp only[j0] at D;split at D
  .cases D
  .rename_i b hw;cases b with
   |false=>simp only[aA] at D;cases I:xQ w z i ((tQ w o).fill B (B.set o.dst .undef)) with
    |false=>simp[I] at D
    |true=>simp only[I,ak] at D;exact H _ _ (by simp only[qT,V,hw]) (λ_=>skip_ok V hw) I D
   |true=>cases hF:(isF h B o&&(E7 h o).isEmpty) with
    |true=>
     have S :=by simp only[aV] at hF;exact y7.1 hF.2
     simp[hF] at D;cases U:ey P h cB o B with
     |none=>simp[U] at D
     |some v=>simp[U] at D;cases K:xQ w z i ((vU P h w o B).fill B (B.set o.dst v)) with
      |false=>simp[K] at D
      |true=>simp[K] at D;exact H _ _ (by simp[qT,V,hw,step,S,mW,kA,step0,U]) (λ_=>aer V hw S U) K D
    |false=>cases hs:step P h cB o B with
     |none=>simp_all
     |some G=>cases K:xQ w z i ((uF P h w o B).fill B G) with
      |false=>simp_all
      |true=>grind[qT,Zk]
def Zf:∀{l:List Oper} {i:Nat},tn i l=true->∀(p:Nat) (o:Oper),l[p]? =some o->∀e∈o.after.toList,Region.binds .any e=true->e.on<i+p:=by intro l;induction l with
 |nil=>simp
 |cons x l D=>intro i w p o q e z B;simp only[tn,aV] at w;cases p with
  |zero=>simp at q;subst q;have:=cI.1 w.1 e z;simp_all
  |succ p=>grind
def PK {l:Array Oper} {D:Nat->Prop} (w:∀j o,D j->l[j]? =some o->∀e∈o.after.toList,Region.binds .any e=true->D e.on):
  ∀(n i j:Nat),(∀o,l[i]? =some o->∀e∈o.after.toList,Region.binds .any e=true->D e.on)->reach l n i j=true->D j:=by
 intro n;induction n with
 |zero=>simp_all[reach]
 |succ n B=>intro i j q h;simp[reach] at h;cases z:l[i]? with
  |none=>grind
  |some o=>
   simp[z,gE] at h;rcases h with h|h
   .simp[abc] at h;grind[beq_iff]
   grind
theorem Rel.dH {N:Nat} {w0:World} {μ0:Mu} {L:s8} {μ:Mu} {F:Nat->Value} {z:St} {a:Act} {w:World} (H:Rel N w0 μ0 L μ F z a w) (id:Nat):Rel N w0 μ0 L μ F (z.dH id) a w:=by
 have l:∀j o,(z.dH id).ob j=some o->∃G,z.ob j=some G/\o=G.dH id:=λj o q=>by
  simp[St.dH] at q;by_cases e:id=j
  .subst e;simp[de] at q
  .simp[bZ _ _ e] at q;cases B:z.ob j with
   |none=>simp_all
   |some G=>simp_all
 refine { H with env:=λi sv I=> ?_,obs:=λj o q=> ?_,apart:=λi j oi oj hi hj=> ?_ }
 .simp[St.dH] at I;cases B:z.env i with
  |none=>simp_all
  |some s=>simp[B] at I;subst I;obtain⟨v,hv,hs⟩:=H.env i s B;simp_all[iT]
 .obtain⟨G,D,rfl⟩:=l j o q;have:=H.obs j _ D;cases G with
  |row e sz xs=>exact this
  |mp k e ks R=>exact this
  |rn e s k e' s' xs ys=>exact this
  |lp s=>exact this
  |box t cells=>obtain⟨b,R,B,h2,S,h4,U,V⟩:=this;refine⟨b,R,B,h2,S,h4,?_,V⟩;clear S V D q;induction cells generalizing R with
   |nil=>exact U
   |cons c cs ih=>obtain⟨u,us,rfl,k1,k2⟩:=U;exact⟨u,us,rfl,iT k1,ih _ k2⟩
 .obtain⟨oi',K,_⟩:=l i _ hi;obtain⟨oj',O,_⟩:=l j _ hj;exact H.apart i j _ _ K O
def Rel.sE {N:Nat} {w0:World} {μ0:Mu} {L:s8} {D:Mu} {q:Nat->Value} {a:Act} {w:World}:∀(l:List Nat) (B:St),Rel N w0 μ0 L D q B a w->Rel N w0 μ0 L D q (AM.sE l B) a w
 |[],_,z=>z
 |p::l,B,z=>Rel.sE l _ (z.dH p)
end
section
variable {P:Program} {N:Nat} {w0:World} {μ0:Mu} {L:s8} {h:Hint} {cB:eN} {Q:Exit->Act->World->Prop}
def Va (w6:iz L.q μ0 P cB) {z:Array Oper} {st stF:St} (hedges:tn 0 z.toList=true)
  (hrun:j0 P h cB z 0 z.toList [] (sE (yg z.toList) st)=some stF) (hd:∀o∈z.toList,∀i,o.dst=some i->i<N)
  (hQ:∀a' w' μ' O,Rel N w0 μ0 L μ' O stF a' w'->Q .normal a' w') {μ:Mu} {loc:Nat->Value} {a:Act} {w:World} (hR:Rel N w0 μ0 L μ loc st a w) {F:Fence} (hF:Wd F):
  wpAnyIn F 0 P .any z Q z.size (Array.replicate z.size false) a w:=by
 obtain⟨fs0,hl0,hm0,hs0,hr0,_,hp0⟩:=run_of z.toList 0 [] _ _ (λk o hk=>by simp_all) hrun;let D:Array Bool->Nat->Prop:=λl j=>l.getD j false=true
 have main:∀(B:Nat) (l:Array Bool) (a:Act) (w:World) (μ:Mu) (loc:Nat->Value) (fs:List (Nat×gw)) (x:St),l.size=z.size->fs.length<=B->
   (∀j o,D l j->z[j]? =some o->∀e∈o.after.toList,Region.binds .any e=true->D l e.on)->
   (∀j,j∈fs.map (·.1)↔j<z.size/\¬D l j)->fs.Pairwise (λp q=>p.1<q.1)->NU (qT P h cB z) fs x stF->fs.Pairwise (λp q=>p.2.conflict q.2=true->reach z 12 q.1 p.1=true)->Rel N w0 μ0 L μ loc x a w->
   wpAnyIn F 0 P .any z Q B l a w:=by
  intro B;induction B with
  |zero=>intro l a w μ loc fs x hsz hle hcl G _ I _ R;have JY:fs=[]:=lV af;subst JY;have hx:x=stF:=I;subst hx;refine⟨?_,hQ _ _ _ _ R⟩;unfold Region.ready;apply y6.2;grind
  |succ B ih=>
   intro l a w μ loc fs x hsz hle hcl G K I Hl R;have hready:∀i,i∈Region.ready .any z l->∃o,z[i]? =some o/\i<z.size/\¬D l i/\∀e∈o.after.toList,Region.binds .any e=true->D l e.on:=by
    intro i hi;unfold Region.ready at hi;simp only[c7,gU,aV,jx] at hi;obtain⟨U,hnl,H⟩:=hi;have ho:z[i]? =some (z[i]'U):=D0 U;refine⟨_,ho,U,?_,?_⟩
    .have hl':i<l.size:=by omega
     have:l[i]=false:=by simpa[Array.getD,hl'] using hnl
     simp[D,Array.getD,hl',this]
    .intro e he hb;simp only[ho,ff,rO] at H;have:=D1.1 H e (by simpa using he);simpa[hb,D] using this
   have abN:∀i,i<z.size->∀j,D (l.setIfInBounds i true) j↔(D l j\/j=i):=by
    intro i hi j;have hl':i<l.size:=by omega
    by_cases S:j<l.size
    .by_cases e:i=j
     .subst e;simp[D,Array.getD,S]
     .have e':j≠i:=λh=>e h.symm
      simp[D,Array.getD,S,e,e',Array.getElem_setIfInBounds]
    .have e':j≠i:=λh=>by subst h;exact S hl'
     have h1:(l.setIfInBounds i true).getD j false=false:=by simp[Array.getD,S]
     have h2:l.getD j false=false:=by simp[Array.getD,S]
     simp only[D,h1,h2,e',pZ]
   refine⟨λJY=> ?_,λi hi=> ?_⟩
   ·
    cases fs with
    |nil=>have hx:x=stF:=I;subst hx;exact hQ _ _ _ _ R
    |cons p fs=>
     exfalso;have hp:=(G p.1).1 ai;have hlow:∀k,k<p.1->D l k:=λk hk=>fh λhn=>by
      have:=(G k).2 ⟨af,hn⟩;simp only[bS,aS] at this;rcases this with e|hk'
      .omega
      .obtain⟨q,hq,rfl⟩:=aG.1 hk';have:=(dU.1 K).1 q hq;omega
     have ho:z[p.1]? =some (z[p.1]'hp.1):=D0 hp.1;have hs2:=Zf hedges p.1 (z[p.1]'hp.1) ai;have hl':p.1<l.size:=by omega
     have hmem':p.1∈Region.ready .any z l:=by
      unfold Region.ready;simp only[c7,gU,aV,jx];refine⟨hp.1,?_,?_⟩
      .grind
      .simp only[ho,ff,rO];apply D1.2;intro e he;cases hb:Region.binds .any e with
       |false=>rfl
       |true=>have:=hlow e.on (by simpa using hs2 e (by simpa using he) hb);simpa[D] using this
     rw[JY] at hmem';cases hmem'
   .obtain⟨o,ho,U,hnD,H⟩:=hready i hi;obtain⟨p,hpm,hpe⟩:=aG.1 ((G i).2 ⟨U,hnD⟩);obtain⟨pre,post,rfl⟩:=D2 hpm;subst hpe;have hpre:∀q∈pre,q.2.conflict p.2=false:=λq hq=>by
     cases hc:q.2.conflict p.2 with
     |false=>rfl
     |true=>have hr:=(rP.1 Hl).2.2 q hq p ai hc;have:=PK hcl 12 p.1 q.1 (λo' ho'=>by rw[ho] at ho';injection ho' with ho';subst ho';exact H) hr;exact absurd this ((G q.1).1 (by simp only[cL,bu];exact .inl (aG.2 ⟨q,hq,rfl⟩))).2
    obtain⟨s1,V,hruns',_⟩:=NU.front (i:=p.1) (f:=p.2) pre x I hpre;have hnext:∀a' w' μ' O,Rel N w0 μ0 L μ' O s1 a' w'->wpAnyIn F 0 P .any z Q B (l.setIfInBounds p.1 true) a' w':=λa' w' μ' O hR'=>by
     have hnp:∀q∈pre++post,q.1≠p.1:=λq hq e=>by
      rcases bu.1 hq with h1|h1
      .have:=(rP.1 K).2.2 q h1 p (by simp);omega
      .have:=(dU.1 (rP.1 K).2.1).1 q h1;omega
     refine ih _ a' w' μ' O (pre++post) s1 (by simp[hsz]) (by simp at hle⊢;omega) (λj oj S hoj e he hb=> ?_) (λj=> ?_) (K.sublist ai) hruns' (Hl.sublist ai) hR'
     .grind
     .rw[abN _ U];have:=G j;simp only[cL,bS,bu,aS] at this⊢;constructor
      .intro S;obtain⟨k1,k2⟩:=this.1 (S.elim .inl λh=> .inr (.inr h));refine⟨k1,λh=>h.elim k2 λe=> ?_⟩;subst e;rcases S with S|S<;>obtain⟨q,hq,e⟩:=aG.1 S<;>exact hnp q (by simp[hq]) e
      .rintro⟨k1,k2⟩;rcases this.2 ⟨k1,λh=>k2 (.inl h)⟩ with h1|h1|h1
       .exact .inl h1
       .exact absurd (.inr h1) k2
       .exact .inr h1
    have hdo :=hd o (by grind);unfold wpOpIn;simp[ho];simp[qT,ho] at V;split at V
    .rename_i hw;rw[Ar R hw];exact K7 R w6 hdo V hnext F hF
    .rename_i hw;injection V with V;subst V;rw[Ar R hw];exact⟨λf _=>hF.fn f,hnext _ _ _ _ (R.set hdo (rfl))⟩
    simp_all
 have hnone:∀j,¬D (Array.replicate z.size false) j:=λj=>by by_cases S:j<z.size<;>simp[D,Array.getD]
 refine main _ _ a w _ _ _ _ ai (by simp[hl0]) (λj o S=>absurd S (hnone j)) (λj=> ?_) hs0 hr0 hp0 (Rel.sE _ _ hR);simp_all
end
