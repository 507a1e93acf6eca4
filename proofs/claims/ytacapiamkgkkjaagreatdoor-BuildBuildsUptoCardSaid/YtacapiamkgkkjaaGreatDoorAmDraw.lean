/- THE ABSTRACT MACHINE. -/
import Derived.Test.YtacapiamkgkkjaaGreatDoorAmRun
set_option linter.all false
namespace Go.AM
open Go.RowKit
section
variable {P:Program} {h:Hint} {cC:eM}
def jo {st l:St} {x:Operand} (q:∀t,x= .tmp t->st.env t=l.env t) (ty:TypeId):bG P ty st x=bG P ty l x:=by cases x with
 |tmp t=>exact q t rfl
 |_=>rfl
def Ng (P:Program) (q l:St) (x:Operand):Prop:=∀ty w,bG P ty q x=some w->∀id∈w.ids,q.ob id=l.ob id
def wF {q l:St} {v:SV} (z:∀id∈v.ids,q.ob id=l.ob id):elems q v=elems l v:=by cases v with
 |sub id s B w=>grind[elems,SV.ids]
 |row id=>grind[elems,SV.ids]
 |pv x=>cases x<;>rfl
 |_=>rfl
def RX {w l:St} {v:SV} (z:∀id∈v.ids,w.ob id=l.ob id):lenOf w v=lenOf l v:=by cases v with
 |row id=>grind[lenOf,SV.ids]
 |pv x=>cases x<;>rfl
 |aq _ q=>cases q<;>rfl
 |_=>rfl
def JN {q l:St} {v:SV} (w:∀id∈v.ids,q.ob id=l.ob id):maps q v=maps l v:=by cases v with
 |row id=>grind[maps,SV.ids]
 |pv x=>cases x<;>rfl
 |_=>rfl
def UJ {z l:St} {v:SV} (B:∀id∈v.ids,z.ob id=l.ob id):mE z v=mE l v:=by cases v with
 |row id=>grind[mE,SV.ids]
 |ag w=>
  have key:∀w:List _,(∀id∈(SV.ag w).ids,z.ob id=l.ob id)->kE z w=kE l w:=by intro w;induction w with
   |nil=>intro _;rfl
   |cons c w D=>grind[SV.ids,kE]
  simp[mE,key _ B]
 |aq id q=>cases q with
  |full=>rfl
  |bs n=>rfl
  |nr i=>grind[mE,SV.ids]
 |_=>rfl
def LK {st st':St} {xs:List Operand} {ts:List TypeId} (l:∀x∈xs,Ng P st st' x) (w:∀x∈xs,∀ty,bG P ty st x=bG P ty st' x):jM P st xs ts=jM P st' xs ts:=by induction xs generalizing ts with
 |nil=>rfl
 |cons x xs B=>
  have z:(bG P (ts.headD 0) st x).bind (mE st)=(bG P (ts.headD 0) st' x).bind (mE st'):=by rw[<-w x ai];cases q:bG P _ _ x with
   |none=>rfl
   |some D=>exact UJ (l x ai _ _ q)
  simp_all[jM]
def Br {st st':St} {b:Bool}:∀{xs:List Operand} {ts:List TypeId},(∀x∈xs,∀ty,bG P ty st x=bG P ty st' x)->r6 P b st xs ts=r6 P b st' xs ts
 |[],_,_=>rfl
 |x::xs,ts,l=>by simp[r6,OV];rw[l x ai,Br (λy q=>l y (by simp[q]))]
theorem s6 {w q:St} {ty:Nat->TypeId} {l:List (Nat×Operand)} (z:∀x∈l.map (·.2),∀t,bG P t w x=bG P t q x):partsOf P ty w l=partsOf P ty q l:=by induction l with
 |nil=>rfl
 |cons p l B=>simp_all[partsOf]
theorem zZ {z w:St} {b:Bool} {q:AV} {l:List Operand} (B:∀x∈l,∀t,bG P t z x=bG P t w x):mT P z b q l=mT P w b q l:=by induction l generalizing q with
 |nil=>rfl
 |cons x l D=>simp_all[mT]
def Sj {B l:St} {c:Call} (q:∀x∈c.args.toList,Ng P B l x) (G:∀x∈c.args.toList,∀ty,bG P ty B x=bG P ty l x):x8 P c B=x8 P c l:=by
 obtain⟨H,⟨args⟩,tys⟩:=c;unfold x8;simp at G q⊢;split
 .rename_i x;have z:=G x ai;have w:=q x ai;split
  .rename_i t _;rw[<-z t];cases F:bG P t _ x with
   |none=>simp
   |some I=>have:=RX (w t _ F);have D:=JN (w t _ F);grind
  .rfl
 .grind[zZ]
 .grind[zZ]
 .rfl
def CP {st st':St} {x:Option Operand} (l:∀y,x=some y->∀ty,bG P ty st y=bG P ty st' y):nX P st x=nX P st' x:=by cases x with
 |none=>rfl
 |some y=>simp[nX,l y _]
def Vc {B w:St} {o:Oper} (D:Sd o.op=false->∀x∈o.op.operands.toList,Ng P B w x) (q:∀x∈o.op.operands.toList,∀ty,bG P ty B x=bG P ty w x):eU P o B=eU P o w:=by obtain⟨dst,op,type,pos,after,guard⟩:=o;simp only at q;cases op with
 |move x=>simp_all[Op.operands,eU]
 |assign x=>simp_all[Op.operands,eU]
 |pick c a b=>simp_all[Op.operands,eU]
 |binOp op t x y t'=>simp_all[Op.operands,eU]
 |unOp op t x=>simp_all[Op.operands,eU]
 |convert s d x=>
  have z:=q x (by simp[Op.operands]);have G:=D rfl x (by simp[Op.operands]) s;have he:(bG P s B x).bind (elems B)=(bG P s w x).bind (elems w):=by rw[<-z s];cases F:bG P s B x with
   |none=>rfl
   |some I=>exact wF (G _ F)
  simp only[eU,z 0,he]
 |nilCheck x=>simp_all[Op.operands,eU]
 |fieldAddr t x f=>simp_all[Op.operands,eU]
 |field t x f=>simp_all[Op.operands,eU]
 |indexAddr t x i=>
  have z:=q x (by simp[Op.operands]);have S:=q i (by simp[Op.operands]);have G:=D rfl x (by simp[Op.operands]) t;have Y5:xT P B t x i=xT P w t x i:=by unfold xT;rw[<-z t,<-S 0];cases F:bG P t B x with
   |none=>simp
   |some I=>have H:=G _ F;grind[isSlice,id,bG,SV.ids]
  simp_all[Dk,eU]
 |index t x i=>simp_all[Op.operands,eU]
 |load t x=>have z:=q x (by simp[Op.operands]);have G:=D rfl x (by simp[Op.operands]) 0;simp only[eU];rw[<-z 0];cases F:bG P 0 B x with
  |none=>rfl
  |some I=>have H:=G _ F;grind[id,SV.ids]
 |lookup t x k ok=>
  have z:=q x (by simp[Op.operands]);have hk:=q k (by simp[Op.operands]);have G:=D rfl x (by simp[Op.operands]) t;have R:(bG P t B x).bind (maps B)=(bG P t w x).bind (maps w):=by rw[<-z t];cases F:bG P t B x with
   |none=>rfl
   |some I=>exact JN (G _ F)
  have O:(bG P t B x).bind (G5 B)=(bG P t w x).bind (G5 w):=by rw[<-z t];cases F:bG P t B x with
   |none=>rfl
   |some I=>have:=G _ F;cases I with
    |row id=>grind[G5,id,SV.ids]
    |_=>rfl
  simp only[eU,R,hk,O]
 |extract x i=>simp_all[Op.operands,eU]
 |slice t x lo V mx=>cases mx with
  |some m=>simp only[eU,V5];cases lo with
   |some l=>rfl
   |none=>cases V with
    |none=>rfl
    |some y=>have z:=q x (by simp[Op.operands]);have S:=q y (by simp[Op.operands]);have R:=q m (by simp[Op.operands]);have G:=D rfl x (by simp[Op.operands]) t;simp only;rw[<-S 0,<-R 0,<-z t];cases F:bG P t B x with
     |none=>rfl
     |some I=>have H:=G _ F;grind[id,SV.ids]
  |none=>have z:=q x (by simp[Op.operands]);have hl:=CP (P:=P) (st:=B) (st':=w) (x:=lo) (λy e=>by simp_all[Op.operands]);have hh:=CP (P:=P) (st:=B) (st':=w) (x:=V) (λy e=>by simp_all[Op.operands]);have G:=D rfl x (by simp[Op.operands]) t;simp[eU];rw[<-z t];cases F:bG P t _ x with
   |none=>simp
   |some I=>have H:=G _ F;grind[SV.ids]
 |build t U=>grind[s6,Op.operands,eU,y5]
 |call c=>
  have K:∀x∈c.args.toList,x∈(Op.call c).operands.toList:=λx z=>by simp_all[Op.operands,Call.operands]
  have:=Sj (λx z=>D rfl x (K x z)) (λx z=>q x (K x z));assumption
 |_=>simp[eU]
theorem vk {D:St}:∀{l:List Operand} {x:Operand} {ty:TypeId} {B:SV} {id:Nat},x∈l->bG P ty D x=some B->id∈B.ids->id∈Mw D l:=by intro l;induction l with
 |nil=>simp
 |cons y l F=>
  intro x ty B id z w q;rcases aI.1 z with rfl|z
  .cases x with
   |tmp t=>simp_all[bG,Mw]
   |const v=>simp[bG] at w;cases G:ofConst P ty v with
    |none=>simp_all
    |some y=>grind[SV.ids]
   |func f=>grind[bG,SV.ids]
   |global g=>simp[bG] at w
  .have:=F z w q;cases y with
   |tmp t=>simp_all[Mw]
   |_=>assumption
def xq (q:St):∀(n:Nat) (l done:List Nat),∀id∈done,id∈gD q n l done
 |0,l,done,id,h=>by assumption
 |n+1,[],done,id,h=>by assumption
 |n+1,x::l,done,id,h=>by simp only[gD];cases done.contains x with
  |true=>exact xq _ n _ _ _ h
  |false=>exact xq _ n _ _ _ (by simp[h])
def oU {w q:St}:∀(n:Nat) (l done:List Nat),(∀id∈gD w n l done,w.ob id=q.ob id)->gD w n l done=gD q n l done
 |0,l,done,h=>by rfl
 |n+1,[],done,h=>by rfl
 |n+1,x::l,done,h=>by simp only[gD] at h⊢;cases z:done.contains x with
  |true=>rw[z] at h;exact oU n _ _ h
  |false=>
   rw[z] at h;have D :=h x (xq _ n _ _ x ai);have B:B4 w x=B4 q x:=by simp[B4,D]
   rw[<-B];exact oU n _ _ h
def sY {z w:St} {ids:List Nat} {B:Nat->Nat}:∀{l:List (Nat×Nat)},(∀p∈l,z.ob p.1=w.ob p.1)->jN z ids B l=jN w ids B l
 |[],_=>rfl
 |p::l,h=>by obtain⟨id,F⟩:=p;simp[jN];rw[h (id,F) ai,sY (λq D=>h q (by simp[D]))]
def y3 {z l:St}:∀{xs:List Operand} {q:List TypeId},(∀x∈xs,∀ty,bG P ty z x=bG P ty l x)->tW P h z xs q=tW P h l xs q
 |[],q,_=>rfl
 |x::xs,q,w=>by simp[tW,Zy];rw[w x ai,y3 (λy B=>w y (by simp[B]))]
def Nu {st st':St} {c:Call} {f:Operand} (D:bG P 0 st f=bG P 0 st' f) (B:∀x∈c.args.toList,∀ty,bG P ty st x=bG P ty st' x)
  (l:∀g args,uj P h st c f=some (g,args)->∀id∈jB st args,st.ob id=st'.ob id):sK P h cC st c f=sK P h cC st' c f:=by
 have e1:uj P h st c f=uj P h st' c f:=by unfold uj;rw[D,y3 B]
 unfold sK;rw[<-e1];cases G:uj P h _ c f with
 |none=>rfl
 |some p=>
  obtain⟨g,args⟩:=p;simp only;have q:=l g _ G;have w:jB _ _=jB _ _:=oU _ _ _ q;rw[<-w];have z:jN _ (jB st args) (iD (jO (jB st args))) (jO (jB st args))=jN _ _ _ _:=
   sY (λp F=>q _ (by
    have:p.1∈(jO _).map _:=aD.2 ⟨p,F,rfl⟩
    simp_all[jO,tG]))
  rw[z]
def Ua {D q:St} {o:Oper} (H:Sd o.op=false->∀id∈CO D o,D.ob id=q.ob id) (R:∀id∈Kw P h o D,D.ob id=q.ob id) (G:∀t∈slotsOf o,D.env t=q.env t):dW P h cC o D=dW P h cC o q:=by
 have K:Sd o.op=false->∀x∈o.op.operands.toList,Ng P D q x:=λhn x F ty sv ho id U=>H hn id (vk F ho U)
 have z:∀x∈o.op.operands.toList,∀ty,bG P ty D x=bG P ty q x:=λx F ty=>jo (λt e=>G t (by
  subst e
  exact fe.2 ⟨.tmp t,F,rfl⟩)) ty
 have I:=Vc (P:=P) (o:=o) K z;obtain⟨S,op,type,pos,after,guard⟩:=o;simp only at z;cases op with
 |buildSlice t len O=>
  have hp:∀ty,partsOf P ty D O.toList=partsOf P ty q O.toList:=λty=>s6 (λx F=>z x (by simpa[Op.operands] using F))
  simp[dW,lu,hp]
 |call c=>obtain⟨cal,⟨args⟩,⟨tys⟩⟩:=c;cases cal with
  |value f=>
   have w:∀x∈args,x∈(Op.call { callee:=Callee.value f,args:=⟨args⟩,argTypes:=⟨tys⟩ }).operands.toList:=λx F=>by simp_all[Op.operands,Call.operands,jd,bA]
   have hf:=z f (by simp[Op.operands,Call.operands]);have ha:=LK (P:=P) (st:=D) (st':=q) (xs:=args) (ts:=tys) (λx F=>K rfl x (w x F)) (λx F=>z x (w x F));have hr:args.any (lC D)=args.any (lC q):=by
    have key:∀x∈args,lC D x=lC q x:=λx F=>by cases x with
     |tmp t=>have:=z (.tmp t) (w _ F) 0;simp_all[bG,lC]
     |_=>rfl
    clear ha w z I G K H R;induction args with
    |nil=>rfl
    |cons x xs ih=>simp_all
   have V:args.any (λx=>(pE h D x).isSome)=args.any (λx=>(pE h q x).isSome):=by
    have key:∀x∈args,pE h D x=pE h q x:=λx F=>by cases x with
     |tmp t=>have:=z (.tmp t) (w _ F) 0;simp_all[bG,pE]
     |_=>rfl
    clear ha w z I G hr K H R;induction args with
    |nil=>rfl
    |cons x xs ih=>simp_all
   have hwide:wide D { callee:=Callee.value f,args:=⟨args⟩,argTypes:=⟨tys⟩ } f=wide q { callee:=Callee.value f,args:=⟨args⟩,argTypes:=⟨tys⟩ } f:=by
    have kf:Um D f=Um q f:=by cases f with
     |tmp t=>simp_all[bG,Um]
     |_=>rfl
    have key:∀x∈args,EA D x=EA q x:=λx F=>by cases x with
     |tmp t=>have:=z (.tmp t) (w _ F) 0;simp_all[bG,EA]
     |_=>rfl
    have kk:args.any (EA D)=args.any (EA q):=by clear ha w z I G hr K H V R;induction args with
     |nil=>rfl
     |cons x xs ih=>simp_all
    simp only[wide,kf,kk]
   cases how:S.any h.owns.contains with
   |true=>simp[dW,how]
   |false=>
   cases hst:S.any h.stay.contains with
   |false=>simp_all[dW]
   |true=>
    have hc:=Nu (P:=P) (h:=h) (cC:=cC) (st:=D) (st':=q) (c:={ callee:=Callee.value f,args:=⟨args⟩,argTypes:=⟨tys⟩ }) (f:=f) (hf 0) (λx F=>z x (w x F)) (λg as hg id U=>R id (by simp_all[Kw,aj]));simp_all[dW]
  |_=>assumption
 |makeFunc f first B=>cases f with
  |func g=>
   have hc:tX D B.toList=tX q B.toList:=by
    have key:∀x∈B.toList,∀ty,bG P ty D x=bG P ty q x:=λx F=>z x (by simp_all[Op.operands,jd,bA])
    clear z I G K H;generalize B.toList=l at key;induction l with
    |nil=>rfl
    |cons x xs ih=>cases x with
     |tmp t=>simp_all[bG,tX]
     |_=>rfl
   have Tg:qK D B.toList=qK q B.toList:=by
    have key:∀x∈B.toList,∀ty,bG P _ _ x=bG P _ _ x:=λx F=>z x (by simp_all[Op.operands])
    generalize B.toList=l at key;induction l with
    |nil=>rfl
    |cons x xs ih=>cases x with
     |tmp t=>simp_all[bG,qK]
     |_=>rfl
   have hc3:qK D first.toList=qK q first.toList:=by
    have key:∀x∈first.toList,∀ty,bG P _ _ x=bG P _ _ x:=λx F=>z x (by simp_all[Op.operands])
    generalize first.toList=l at key
    induction l with
    |nil=>rfl
    |cons x xs ih=>cases x with
     |tmp t=>simp_all[bG,qK]
     |_=>rfl
   simp[dW,hc,Tg,hc3]
  |_=>rfl
 |assign x=>simp[dW,I]
 |lookup t x k ok=>simp[dW,I]
 |build t ps=>grind[s6,Op.operands,dW,y5]
 |load t x=>simp[dW,I]
 |_=>assumption
def zR {z q:St} {l:Array Oper} {o:Oper} (w:∀t∈fq l o,z.env t=q.env t):ql l o z=ql l o q:=by grind[ql,fq]
theorem YB {a b:List Nat} {x:Nat} (l:x∈a) (q:x∈b):meets a b=true:=by simp[meets];grind[Nat.beq_refl]
def LY {t:TypeId} {s D:St} {F w:SV} {id:Nat} (l:storeAt P t s F w=some D) (z:targetId F=some id):
  D.env=s.env/\(∀j,j≠id->D.ob j=s.ob j)/\∀x:St,x.ob id=s.ob id->(∀j∈w.ids,x.ob j=s.ob j)->storeAt P t x F w=some { x with ob:=put x.ob id (D.ob id) }:=by
 have H:∀x:St,(∀j∈w.ids,x.ob j=s.ob j)->oJ x w=oJ s w:=λx B=>by cases w with
  |row j=>simp_all[oJ,SV.ids]
  |pv v=>cases v<;>rfl
  |_=>rfl
 cases F with
 |ptr i G=>
  simp[targetId,aM] at z;subst z;simp[storeAt] at l;split at l
  .split at l
   .split at l
    .injection l with l;subst l;refine⟨rfl,λj q=>bR _ _ (λe=>q e.symm),λx B _=> ?_⟩;simp_all[storeAt,c7]
    simp_all
   .split at l
    .injection l with l;subst l;refine⟨rfl,λj q=>bR _ _ (λe=>q e.symm),λx B _=> ?_⟩;simp_all[storeAt,c7]
    simp_all
   .split at l
    .injection l with l;subst l;refine⟨rfl,λj q=>bR _ _ (λe=>q e.symm),λx B I=> ?_⟩;simp[storeAt,c7];simp_all
    simp_all
  simp_all
 |rp i K k G=>
  simp[targetId,aM] at z;subst z;simp[storeAt] at l;split at l
  .split at l
   .split at l
    .injection l with l;subst l;refine⟨rfl,λj q=>bR _ _ (λe=>q e.symm),λx B _=> ?_⟩;simp_all[storeAt,c7]
    simp_all
   simp_all
  simp_all
 |_=>simp[targetId] at z
theorem zk {id:Nat} {v:SV} (h:v.mentions id=true):id∈v.ids:=by
 have l:∀w:List _,w.any (oC.mentions id)=true->id∈w.filterMap (fun
  | .p j| .r j=>some j
  | .v _=>none):=λw G=>by
  grind[oC.mentions,beq_iff]
 induction v with
 |two s b D z=>
  rcases Bool.or_eq_true_iff.1 h with h|h
  .exact cT _ (D h)
  .exact gQ _ (z h)
 |ptr j B=>simp[SV.ids,bS];exact(beq_iff.1 h).symm
 |row j=>simp[SV.ids,bS];exact(beq_iff.1 h).symm
 |rp j F i B=>simp[SV.ids,bS];exact(beq_iff.1 h).symm
 |sub j F I H=>simp[SV.ids,bS];exact(beq_iff.1 h).symm
 |cl f w=>exact l _ h
 |ag w=>exact l _ h
 |aq j q=>simp[SV.mentions] at h;simp[SV.ids];grind[beq_iff]
 |_=>simp[SV.mentions] at h
def St.same {x y:St} (l:∀t,x.env t=y.env t) (q:∀t,x.ob t=y.ob t):x=y:=by obtain⟨z,B⟩:=x;have e1 :=funext l;have w :=funext q;simp_all
def R7 (p:Nat×Option AV) (v:SV):SV:=match p.2 with
 |none=>v.dA p.1
 |some a=>SV.cZ p.1 a v
def j0 (l:List (Nat×Option AV)) (v:SV):SV:=l.foldl (λv p=>R7 p v) v
def Ob.zi (g:SV->SV):Ob->Ob
 | .box t cells=> .box t (cells.map g)
 |o=>o
def fK (f:gi) (q:Nat->Option SV) (w:Nat->Option Ob) (l:List (Nat×Option AV)) (x:St):St:=
 {env:=λt=>if t∈f.ws then q t else(x.env t).map (j0 l),ob:=λj=>if j∈f.wo then w j else(x.ob j).map (Ob.zi (j0 l)) }
def JS (p:Nat×Option AV) (v:SV):∃c:SV,(∀id,c.mentions id=false)/\R7 p v=(bif v.mentions p.1 then c else v)/\((∀j,v≠ .row j/\v≠ .ag [.r j])->c= .any):=by obtain⟨id,x⟩:=p;cases x with
 |none=>exact⟨_,λ_=>rfl,rfl,λ_=>rfl⟩
 |some a=>cases v with
  |row j=>exact⟨_,λ_=>rfl,rfl,λh=>absurd rfl (h j).1⟩
  |ag l=>
   by_cases q:∃j,l=[.r j]
   .obtain⟨j,rfl⟩:=q;exact⟨.pv (.agg [a]),λ_=>rfl,by simp[R7,SV.cZ,SV.mentions,oC.mentions],λh=>absurd rfl (h j).2⟩
   .have e:R7 (id,some a) (.ag l)=(SV.ag l).dA id:=by
     show(SV.ag l).cZ id a=_;unfold SV.cZ;split
     .rename_i e;cases e
     .rename_i j e;cases e;exact absurd ⟨j,rfl⟩ q
     .rfl
    exact⟨_,λ_=>rfl,e,λ_=>rfl⟩
  |_=>exact⟨_,λ_=>rfl,rfl,λ_=>rfl⟩
def OB {p:Nat×Option AV} {v:SV} (h:v.mentions p.1=false):R7 p v=v:=by obtain⟨c,_,e,_⟩:=JS p v;simp_all
def mv1_sub {p:Nat×Option AV} {v:SV} {j:Nat} (h:(R7 p v).mentions j=true):v.mentions j=true:=by obtain⟨c,l,e,_⟩:=JS p v;grind
theorem ab9 {p q:Nat×Option AV} (l:p.1≠q.1) (v:SV):R7 p (R7 q v)=R7 q (R7 p v):=by obtain⟨c,G,e,k⟩:=JS p v;obtain⟨c',B,F,k'⟩:=JS q v;cases z:v.mentions p.1 with
 |false=>cases w:v.mentions q.1 with
  |false=>simp_all
  |true=>simp_all[OB]
 |true=>rw[e,z,aj,OB (G _)];cases w:v.mentions q.1 with
  |false=>simp_all
  |true=>
   rw[F,w,aj,OB (B _)]
   have H:∀j,v≠ .row j/\v≠ .ag [.r j]:=λj=>⟨λD=>by
    subst D;exact l ((beq_iff.1 z).symm.trans (beq_iff.1 w)),λD=>by
    subst D;simp only[SV.mentions,nj,List.any_nil,rB,oC.mentions] at z w
    exact l ((beq_iff.1 z).symm.trans (beq_iff.1 w))⟩
   simp_all
def xZ:∀{l:List (Nat×Option AV)} {v:SV},(∀p∈l,v.mentions p.1=false)->j0 l v=v
 |[],v,_=>rfl
 |p::l,v,h=>by show j0 l (R7 p v)=v;rw[OB (h p ai)];exact xZ λq w=>h q (by simp[w])
theorem F2:∀{l:List (Nat×Option AV)} {v:SV} {j:Nat},(j0 l v).mentions j=true->v.mentions j=true
 |[],v,j,h=>h
 |p::l,v,j,h=>mv1_sub (F2 h)
def YC {l:List (Nat×Option AV)} {p:Nat×Option AV}:∀{v:SV},(∀q∈l,p.1≠q.1)->j0 l (R7 p v)=R7 p (j0 l v):=by induction l with
 |nil=>intro v _;rfl
 |cons q l w=>intro v h;show j0 l _=R7 p (j0 l _);grind[ab9]
theorem Dr:∀{l m:List (Nat×Option AV)} (v:SV),(∀p∈l,∀q∈m,p.1≠q.1)->j0 l (j0 m v)=j0 m (j0 l v)
 |[],m,v,_=>rfl
 |p::l,m,v,h=>by show j0 l (R7 p _)=j0 m (j0 l _);rw[<-YC (h p ai),Dr _ λr w=>h r (by simp[w])]
def mapS_id {g:SV->SV} {o:Ob} (h:∀v,(∀id,v.mentions id=true->o.mentions id=true)->g v=v):o.zi g=o:=by cases o with
 |box t cells=>simp[Ob.zi];congr 1;refine(gR λc l=>h c λid q=> ?_).trans (pT _);grind[Ob.mentions]
 |_=>rfl
def vJ {l:List (Nat×Option AV)} {o:Ob} (h:∀p∈l,o.mentions p.1=false):o.zi (j0 l)=o:=
 mapS_id λv w=>xZ λp q=>by grind
def abV {l:List (Nat×Option AV)} {o:Ob} {j:Nat} (h:(o.zi (j0 l)).mentions j=true):o.mentions j=true:=by cases o with
 |box t cells=>grind[Ob.zi,Ob.mentions,F2]
 |_=>exact h
theorem YA {l m:List (Nat×Option AV)} (o:Ob) (h:∀p∈l,∀q∈m,p.1≠q.1):(o.zi (j0 m)).zi (j0 l)=(o.zi (j0 l)).zi (j0 m):=by cases o with
 |box t cells=>simp[Ob.zi,fk];grind[List.map_congr_left,Dr]
 |_=>rfl
def Bc (o:Ob):o.zi (j0 [])=o:=vJ λp l=>by cases l
structure IM (sf:St->Option St) (s:St) (f:gi) (ev:Nat->Option SV) (ov:Nat->Option Ob) (l:List (Nat×Option AV)):Prop where
 keys:∀p∈l,p.1∈f.mv
 run:∀x:St,(∀t∈f.rs,x.env t=s.env t)->(∀j∈f.ro,x.ob j=s.ob j)->(∀j∈f.rl,(x.ob j).map Ob.tN=(s.ob j).map Ob.tN)->sf x=some (fK f ev ov l x)
 len:∀j∈f.wo,f.kp j=true->(ov j).map Ob.tN=(s.ob j).map Ob.tN
 ace:∀t∈f.ws,∀v id,ev t=some v->v.mentions id=true->id∈f.men
 acf:∀j∈f.wo,∀o id,ov j=some o->o.mentions id=true->id∈f.men
 mvm:∀id∈f.mv,id∈f.men
structure Qi (s:St) (f:gi):Prop where
 inE:∀t∈f.rs,∀v id,s.env t=some v->v.mentions id=true->id∈f.men
 inO:∀j∈f.ro,∀o id,s.ob j=some o->o.mentions id=true->id∈f.men
 we:∀t v id,s.env t=some v->id∈f.mv->v.mentions id=true->f.we t=true
 oe:∀j o id,s.ob j=some o->id∈f.mv->o.mentions id=true->f.oe j=true
def js {a b:List Nat} {x y:Nat} (h:meets a b=false) (l:x∈a) (q:y∈b):x≠y:=λe=>by grind[YB]
def M0 (g:SV->SV) (o:Ob):(o.zi g).tN=o.tN:=by cases o<;>rfl
def skN {f:gi} {q:Nat->Option SV} {w:Nat->Option Ob} {l:List (Nat×Option AV)} {x:St} {j:Nat} (h:¬j∈f.wo):((fK f q w l x).ob j).map Ob.tN=(x.ob j).map Ob.tN:=by simp[fK,aA h];cases x.ob j with
 |none=>rfl
 |some o=>simp[M0]
def skO {f:gi} {w:Nat->Option SV} {q:Nat->Option Ob} {l:List (Nat×Option AV)} {x:St} {j:Nat} (h:j∈f.wo):(fK f w q l x).ob j=q j:=by simp[fK,aB h]
def rl_kp {r w:List Nat} {k:Nat->Bool} {j:Nat} (h:(r.any λj=>w.contains j&& !(k j))=false) (l:j∈r) (q:j∈w):k j=true:=by simp_all
def swapFx {sp si:St->Option St} {s:St} {B G:gi} {U R:Nat->Option SV} {op S:Nat->Option Ob} {lp li:List (Nat×Option AV)} (K:IM sp s B U op lp) (H:Qi s B) (I:IM si (fK B U op lp s) G R S li) (hc:B.conflict G=false):
  IM si s G R S li/\IM sp (fK G R S li s) B U op lp/\Qi (fK G R S li s) B/\fK B U op lp (fK G R S li s)=fK G R S li (fK B U op lp s):=by
 unfold gi.conflict at hc;simp only[jT] at hc;obtain⟨⟨⟨⟨⟨⟨⟨⟨⟨⟨⟨⟨⟨_,_⟩,d1⟩,d2⟩,d3⟩,d4⟩,d5⟩,d6⟩,d7⟩,d8⟩,d9⟩,d10⟩,d11⟩,d12⟩:=hc;have w9:∀t∈G.rs,B.we t=false:=λt l=>by simp_all
 have w10:∀t∈G.ro,B.oe t=false:=λt l=>by simp_all
 have aE:∀t∈G.rs,(fK B U op lp s).env t=s.env t:=λt l=>by simp only[fK];rw[aA λh=>js d1 h l rfl];cases e:s.env t with
  |none=>rfl
  |some v=>simp only[cV];rw[xZ λp F=> ?_];cases w:v.mentions p.1 with
   |false=>rfl
   |true=>have:=H.we t v p.1 e (K.keys p F) w;simp_all
 have aO:∀t∈G.ro,(fK B U op lp s).ob t=s.ob t:=λt l=>by simp only[fK];rw[aA λh=>js d4 h l rfl];cases e:s.ob t with
  |none=>rfl
  |some v=>simp only[cV];rw[vJ λp F=> ?_];cases w:v.mentions p.1 with
   |false=>rfl
   |true=>have:=H.oe t v p.1 e (K.keys p F) w;simp_all
 have bE:∀t∈B.rs,(fK G R S li s).env t=s.env t:=λt l=>by simp only[fK];rw[aA λh=>js d2 l h rfl];cases e:s.env t with
  |none=>rfl
  |some v=>simp only[cV];rw[xZ λp F=> ?_];cases w:v.mentions p.1 with
   |false=>rfl
   |true=>exact absurd rfl (js d8 (I.keys p F) (H.inE t l v p.1 e w))
 have bO:∀t∈B.ro,(fK G R S li s).ob t=s.ob t:=λt l=>by simp only[fK];rw[aA λh=>js d5 l h rfl];cases e:s.ob t with
  |none=>rfl
  |some v=>simp only[cV];rw[vJ λp F=> ?_];cases w:v.mentions p.1 with
   |false=>rfl
   |true=>exact absurd rfl (js d8 (I.keys p F) (H.inO t l v p.1 e w))
 have nO:∀t∈B.wo,¬t∈G.wo:=λt D z=>js d6 D z rfl
 have aL:∀t∈G.rl,((fK _ U op lp s).ob t).map _=(s.ob t).map _:=λt l=>by
  by_cases h:t∈B.wo
  .rw[skO h];exact K.len t h (rl_kp d11 l h)
  .exact skN h
 have bK :=λt l hk=>(I.len t l hk).trans (skN λh=>nO t h l)
 have bL:∀t∈B.rl,((fK _ R S li s).ob t).map Ob.tN=(s.ob t).map Ob.tN:=λt l=>by
  by_cases h:t∈G.wo
  .rw[skO h];simp_all
  .exact skN h
 have hk :=λp F q V=>js d7 (K.keys p F) (I.mvm _ (I.keys q V))
 refine⟨⟨I.keys,λx D z h3=>I.run x (λt l=>(D t l).trans (aE t l).symm) (λt l=>(z t l).trans (aO t l).symm) (λt l=>(h3 t l).trans (aL t l).symm),bK,I.ace,I.acf,I.mvm⟩,
  ⟨K.keys,λx D z h3=>K.run x (λt l=>(D t l).trans (bE t l)) (λt l=>(z t l).trans (bO t l)) (λt l=>(h3 t l).trans (bL t l)),λt l hk=>(K.len t l hk).trans (skN (nO t l)).symm,K.ace,K.acf,K.mvm⟩,
  ⟨λt l v id e w=>H.inE t l v _ ((bE t l).symm.trans e) w,λt l v id e w=>H.inO t l v _ ((bO t l).symm.trans e) w,λt v id e O w=> ?_,λt v id e O w=> ?_⟩,?_⟩
 .simp[fK] at e;split at e
  .rename_i l;exact absurd rfl (js d7 O (I.ace t l v _ e w))
  .cases e0:s.env t with
   |none=>simp_all
   |some v0=>rw[e0] at e;simp at e;subst e;exact H.we t _ _ e0 O (F2 w)
 .simp[fK] at e;split at e
  .rename_i l;exact absurd rfl (js d7 O (I.acf t l v _ e w))
  .cases e0:s.ob t with
   |none=>simp_all
   |some v0=>rw[e0] at e;simp at e;subst e;exact H.oe t _ _ e0 O (abV w)
 .simp[fK,St.mk.injEq];constructor
  .funext t;by_cases D:t∈B.ws
   .rw[aB D,aA λz=>js d3 D z rfl];rw[aB D];cases e:U t with
    |none=>rfl
    |some v=>simp;rw[xZ λq V=> ?_];cases w:v.mentions _ with
     |false=>rfl
     |true=>exact absurd rfl (js d8 (I.keys q V) (K.ace t D v _ e w))
   .rw[aA D];by_cases z:t∈G.ws
    .rw[aB z,aB z];cases e:R t with
     |none=>rfl
     |some v=>simp;rw[xZ λq V=> ?_];cases w:v.mentions _ with
      |false=>rfl
      |true=>exact absurd rfl (js d7 (K.keys q V) (I.ace t z v _ e w))
    .rw[aA z,aA z,aA D];cases s.env t with
     |none=>rfl
     |some v=>grind[Dr]
  .funext t;by_cases D:t∈B.wo
   .rw[aB D,aA λz=>js d6 D z rfl];rw[aB D];cases e:op t with
    |none=>rfl
    |some v=>simp;rw[vJ λq V=> ?_];cases w:v.mentions _ with
     |false=>rfl
     |true=>exact absurd rfl (js d8 (I.keys q V) (K.acf t D v _ e w))
   .rw[aA D];by_cases z:t∈G.wo
    .rw[aB z,aB z];cases e:S t with
     |none=>rfl
     |some v=>simp;rw[vJ λq V=> ?_];cases w:v.mentions _ with
      |false=>rfl
      |true=>exact absurd rfl (js d7 (K.keys q V) (I.acf t z v _ e w))
    .rw[aA z,aA z,aA D];cases s.ob t with
     |none=>rfl
     |some v=>grind[YA]
def Nf (w:Nat->St->Option St):List (Nat×gi)->St->St->Prop
 |[],s,q=>s=q
 |p::l,s,q=>∃z,w p.1 s=some z/\(p.2.all=false->∃B D m,IM (w p.1) s p.2 B D m/\Qi s p.2)/\Nf w l z q
def ZU {a b:gi} (h:a.conflict b=false):a.all=false/\b.all=false:=by simp_all[gi.conflict]
def Nf.front {z:Nat->St->Option St} {i:Nat} {f:gi} {post:List (Nat×gi)} {V:St}:∀(pre:List (Nat×gi)) (s:St),Nf z (pre++(i,f)::post) s V->(∀p∈pre,p.2.conflict f=false)->
  ∃w,z i s=some w/\Nf z (pre++post) w V/\(f.all=false->∃ev ov m,IM (z i) s f ev ov m)
 |[],s,⟨U,B,G,D⟩,_=>⟨U,B,D,λH=>by simp_all⟩
 |p::pre,s,⟨U,B,G,D⟩,I=>by
  have l:=I p ai;obtain⟨H,hb⟩:=ZU l;obtain⟨ep,op,lp,O,F⟩:=G H;obtain⟨w,k1,k2,k3⟩:=Nf.front _ _ D λq hq=>I q (by simp[hq])
  obtain⟨ei,oi,li,K⟩:=k3 hb;have e1 :=by have:=O.run s (λ_ _=>rfl) (λ_ _=>rfl) (λ_ _=>rfl);rw[B] at this;injection this
  subst e1;obtain⟨R,S,r3,r4⟩:=swapFx O F K l;have e2 :=by have:=K.run _ (λ_ _=>rfl) (λ_ _=>rfl) (λ_ _=>rfl);rw[k1] at this;injection this
  refine⟨_,R.run s (λ_ _=>rfl) (λ_ _=>rfl) (λ_ _=>rfl),⟨w,?_,λ_=>⟨ep,op,lp,S,r3⟩,k2⟩,λ_=>⟨ei,oi,li,R⟩⟩;rw[S.run _ (λ_ _=>rfl) (λ_ _=>rfl) (λ_ _=>rfl),r4,e2]
def qO (P:Program) (h:Hint) (cC:eM) (l:Array Oper) (k:Nat) (q:St):Option St:=
 match l[k]? with
 |some o=>match ql l o q with
  |some true=>step P h cC o q
  |some false=>some (q.set o.dst .undef)
  |none=>none
 |none=>none
def adC {id:Nat} {cells:List SV} (h:cells.any (SV.mentions id)=true):id∈cells.flatMap SV.ids:=by grind[zk]
theorem acq {id:Nat} {o:Ob} (h:o.mentions id=true):id∈o.ids:=by cases o with
 |box t cells=>exact adC h
 |_=>cases h
def NP {G:St->Option St} {s D:St} {f:gi} {l:List (Nat×Option AV)} (K:∀p∈l,p.1∈f.mv) (B:∀x:St,(∀t∈f.rs,x.env t=s.env t)->(∀j∈f.ro,x.ob j=s.ob j)->(∀j∈f.rl,(x.ob j).map Ob.tN=(s.ob j).map Ob.tN)->G x=some (fK f D.env D.ob l x))
  (w:∀j∈f.wo,f.kp j=true->(D.ob j).map Ob.tN=(s.ob j).map Ob.tN):
  ∃H O m,IM G s (f.fill s D) H O m/\Qi s (f.fill s D):=by
 have mem:∀{id:Nat} {g:Nat->List _} {l:List _} {t:Nat},t∈l->id∈g t->id∈l.flatMap g:=λF h=>List.mem_flatMap.2 ⟨_,F,h⟩
 refine⟨_,_,l,⟨K,B,w,λt F v id e z=> ?_,λj I o id e z=> ?_,λid q=> ?_⟩,⟨λt F v id e z=> ?_,λj I o id e z=> ?_,λt v id e q z=> ?_,λj o id e q z=> ?_⟩⟩
 .grind[gi.fill,NJ,zk]
 .grind[gi.fill,WY,acq]
 .simp_all[gi.fill]
 .grind[gi.fill,NJ,zk]
 .grind[gi.fill,WY,acq]
 .grind[gi.fill]
 grind[gi.fill]
def iz {l:Type} {x:Option l} {g:l->l} (h:∀v,g v=v):x.map g=x:=by cases x<;>simp[h]
def acK {f:gi} {s x:St} {d:Option Nat} {v:SV} (l:f.ws=d.toList) (q:f.wo=[]):x.set d v=fK f (s.set d v).env (s.set d v).ob [] x:=by
 refine St.same (λt=> ?_) (λj=> ?_)
 .simp only[fK,l];cases d with
  |none=>exact(iz λ_=>rfl).symm
  |some d=>
   by_cases e:d=t
   .simp_all[St.set,c7]
   .have:¬t∈(some d).toList:=by simp;exact λh=>e h.symm
    rw[aA this];simp[St.set,bR _ _ e];exact(iz λ_=>rfl).symm
 .simp[fK,q];rw[iz Bc];cases d<;>rfl
def F4 {f:gi} {s x:St} {d id:Nat} {o:Ob} {v:SV} (l:f.ws=[d]) (q:f.wo=[id]):(x.new id o).set (some d) v=fK f ((s.new id o).set (some d) v).env ((s.new id o).set (some d) v).ob [(id,none)] x:=by
 refine St.same (λt=> ?_) (λj=> ?_)
 .simp[fK,l,bS];by_cases e:t=d
  .simp_all[St.set,c7]
  .rw[aA e];simp[St.set,bR _ _ (λh=>e h.symm)];rfl
 .simp[fK,q,bS];by_cases e:j=id
  .simp_all[St.set,St.new,c7]
  .rw[aA e];simp[St.set,St.new,St.dA,bR _ _ (λh=>e h.symm)];rfl
def skip_ok {l:Array Oper} {k:Nat} {o:Oper} {s:St} (B:l[k]? =some o) (D:ql l o s=some false):
  ∃q F m,IM (qO P h cC l k) s ((tD l o).fill s (s.set o.dst .undef)) q F m/\Qi s ((tD l o).fill s (s.set o.dst .undef)):=
 NP (l:=[]) ai (λx w _ _=>by
  simp[qO,B];rw[zR w,D]
  rw[acK (f:=tD _ o) rfl rfl]) λj z _=>by cases z
def jQ (z:St->Option St) (s:St) (f:gi) (w:Nat->Option SV) (q:Nat->Option Ob) (l:List (Nat×Option AV)):Prop:=
 (∀p∈l,p.1∈f.mv)/\(∀j∈f.wo,f.kp j=true->(q j).map Ob.tN=(s.ob j).map Ob.tN)/\
  ∀x:St,(∀t∈f.rs,x.env t=s.env t)->(∀j∈f.ro,x.ob j=s.ob j)->(∀j∈f.rl,(x.ob j).map Ob.tN=(s.ob j).map Ob.tN)->z x=some (fK f w q l x)
def jQ.imp {H:St->Option St} {s:St} {f q:gi} {D:Nat->Option SV} {G:Nat->Option Ob} {l:List (Nat×Option AV)} (B:jQ H s f D G l) (I:∀t∈f.rs,t∈q.rs) (K:∀t∈f.ro,t∈q.ro) (O:∀t∈f.mv,t∈q.mv) (R:∀t,t∈f.ws↔t∈q.ws) (z:∀t,t∈f.wo↔t∈q.wo) (S:∀t∈f.rl,t∈q.rl) (U:∀t∈f.wo,q.kp t=true->f.kp t=true):jQ H s q D G l:=
 ⟨λp hp=>O _ (B.1 p hp),λj F V=>B.2.1 j ((z j).2 F) (U j ((z j).2 F) V),λx k1 k2 k3=>by
  rw[B.2.2 x (λt w=>k1 t (I t w)) (λt w=>k2 t (K t w)) (λt w=>k3 t (S t w))]
  simp[fK,R,z]⟩
def jQ.at {B:St->Option St} {s z:St} {f:gi} {q:Nat->Option SV} {w:Nat->Option Ob} {l:List (Nat×Option AV)} (D:jQ B s f q w l) (h:B s=some z):z=fK f q w l s:=by have:=D.2.2 s (λ_ _=>rfl) (λ_ _=>rfl) (λ_ _=>rfl);simp_all
def Xw {U V:St->Option St} {s:St} {w B:gi} {q H:Nat->Option SV} {l I:Nat->Option Ob} {D F:List (Nat×Option AV)} (O:jQ U s w q l D) (R:jQ V (fK w q l D s) B H I F):
  ∃ev ov,jQ (λx=>(U x).bind V) s (w.then B) ev ov (D++F):=by
 refine⟨λt=>if t∈B.ws then H t else(q t).map (j0 F),λj=>if j∈B.wo then I j else(l j).map (Ob.zi (j0 F)),λp hp=> ?_,λj S K=> ?_,λx k1 k2 k3=> ?_⟩
 .simp[gi.then,bA];exact(bA.1 hp).imp (O.1 p) (R.1 p)
 .simp[gi.then,aK,gA,gO,List.contains_eq_mem,aS] at K;simp[gi.then,bA] at S;have G:((fK w q l D s).ob j).map Ob.tN=(s.ob j).map Ob.tN:=by
   by_cases a:j∈w.wo
   .rw[skO a];exact O.2.1 j a (K.1.resolve_right λh=>h a)
   .exact skN a
  by_cases a:j∈B.wo
  .simp[aB a];exact(R.2.1 j a (K.2.resolve_right λh=>h a)).trans G
  .simp[aA a];have b :=S.resolve_left a;rw[<-O.2.1 j b (K.1.resolve_right λh=>h b)];cases l j with
   |none=>rfl
   |some o=>simp[M0]
 .have e1:=O.2.2 x (λt z=>k1 t (by simp[gi.then,z])) (λt z=>k2 t (by simp[gi.then,z])) (λt z=>k3 t (by simp[gi.then,z]))
  have e2:=R.2.2 (fK w q l D x) (λt z=>by simp_all[fK,gi.then]) (λt z=>by simp_all[fK,gi.then]) (λt z=>by
   by_cases a:t∈w.wo
   .rw[skO a,skO a]
   simp_all[skN,gi.then])
  simp[e1,eG,e2,aM];have mm:∀v,j0 F (j0 D v)=j0 (D++F) v:=λv=>by simp[j0]
  refine St.same (λt=> ?_) (λj=> ?_)
  .simp[fK,gi.then];by_cases a:t∈B.ws
   .simp_all
   .by_cases b:t∈w.ws
    .simp_all
    .simp[a,b];cases x.env t with
     |none=>rfl
     |some v=>simp_all
  .simp[fK,gi.then];by_cases a:j∈B.wo
   .simp_all
   .by_cases b:j∈w.wo
    .simp_all
    .simp[a,b];cases x.ob j with
     |none=>rfl
     |some o=>cases o with
      |box t cells=>simp_all[Ob.zi]
      |_=>rfl
def jQ.nil (s:St) (f:gi) (l:f.ws=[]) (q:f.wo=[]):jQ some s f (λ_=>none) (λ_=>none) []:=
 ⟨ai,λj w=>(by simp_all),λx _ _ _=>by
  congr 1;refine St.same (λt=> ?_) (λj=> ?_)
  .simp[fK,l];exact(iz λ_=>rfl).symm
  simp_all[fK,iz,Bc]⟩
def Dz {s H:St} {id:Nat} (q:s.cZ id=some H):∃w G l,jQ (λx=>x.cZ id) s { ro:=[id],wo:=[id],mv:=[id] } w G l:=by
 unfold St.cZ at q;split at q
 .rename_i v D F;refine⟨λ_=>none,λ_=>none,[(id,some v)],by simp,λj _ B=>(by cases B),λx _ z _=> ?_⟩;have e:x.ob id=s.ob _:=z _ ai;unfold St.cZ;simp[e,D,F,aM];refine St.same (λt=> ?_) (λj=> ?_)
  .rfl
  .simp[fK,bS];by_cases a:j=id
   .subst a;simp[c7]
   .rw[aA a,bR _ _ (λh=>a h.symm)];rfl
 simp_all
def Bq:∀{cells:List SV} {s H:St},pq cells s=some H->∃q z l,jQ (pq cells) s { ro:=vV cells,wo:=vV cells,mv:=vV cells } q z l
 |[],s,H,_=>⟨_,_,_,jQ.nil s _ rfl rfl⟩
 |c::cells,s,H,G=>by
  have other:(∀id,c≠ .row id)->(∀x,pq (c::cells) x=pq cells x)/\vV (c::cells)=vV _:=λD=>by cases c<;>first|exact absurd rfl (D _)|exact⟨λ_=>rfl,rfl⟩
  by_cases I:∃id,c= .row id
  .obtain⟨id,rfl⟩:=I;obtain⟨s1,w,B⟩:=dx.1 G;obtain⟨q,z,l,K⟩:=Dz w;obtain⟨S,ov',l',O⟩:=Bq B;rw[K.at w] at O;obtain⟨U,ov2,r3⟩:=Xw K O;exact⟨_,_,_,r3.imp (λt F=>by assumption) (λt F=>by assumption) (λt F=>by assumption) (λt=>by rfl) (λt=>by simp[gi.then,vV,or_comm]) (λt F=>by assumption) (λt _ hk=>by cases hk)⟩
  .obtain⟨e1,R⟩:=other λid h=>I ⟨id,h⟩
   rw[e1] at G;obtain⟨q,z,l,r⟩:=Bq G;refine⟨q,z,l,?_⟩;rw[R];exact⟨r.1,r.2.1,λx w B V=>by rw[e1];exact r.2.2 x w B V⟩
theorem YP {s S:St} {t:Nat} (D:qt s t=some S):∃z B l,jQ (λx=>qt x t) s (OO s t) z B l:=by
 unfold qt at D;unfold OO;split at D
 .rename_i id F;obtain⟨z,B,l,r⟩:=Dz D;refine⟨z,B,l,r.1,r.2.1,λx q w G=> ?_⟩;have e :=q t ai;simp[qt,e,F];exact r.2.2 x ai w ai
 .rename_i id F;obtain⟨z,B,l,r⟩:=Dz D;refine⟨z,B,l,r.1,r.2.1,λx q w G=> ?_⟩;have e :=q t ai;simp[qt,e,F];exact r.2.2 x ai w ai
 .rename_i id R F;split at D
  .rename_i U cells I;obtain⟨z,B,l,r⟩:=Bq D;refine⟨z,B,l,r.1,r.2.1,λx q w G=> ?_⟩;have e :=q t ai;have K:x.ob id=s.ob _:=w _ ai;simp[qt,e,F,K,I];exact r.2.2 x ai (λj H=>w j (by simp[H])) ai
  simp_all
 .refine⟨λ_=>none,λ_=>none,[],?_⟩;have O:∀x:St,x.env t=s.env t->qt x t=some x:=λx e=>by
   simp_all[qt]
  refine⟨ai,λj H=>(by simp at H),λx q w G=> ?_⟩;simp only;rw[O x (q t ai)];exact(jQ.nil s _ rfl rfl).2.2 x q w G
theorem RF {w l:St} {t:TypeId} {x z:Operand} (U:∀ty,bG P ty w x=bG P ty l x) (R:∀ty,bG P ty w z=bG P ty l z) (B:∀ty H,bG P ty w x=some H->∀id∈H.ids,(w.ob id).map Ob.tN=(l.ob id).map Ob.tN):xT P w t x z=xT P l t x z:=by
 unfold xT;rw[<-U,<-R];split<;>try rfl
 .rename_i e s id q i hs S hq;have k:=B t _ S id (by simp[SV.ids]);cases e1:w.ob _ with
  |none=>grind
  |some V=>rw[e1] at k;cases I:l.ob _ with
   |none=>simp_all
   |some F=>rw[I] at k;simp at k;cases V with
    |row K sz xs=>cases F with
     |row O G ys=>
      simp[Ob.tN,Ob.row.injEq] at k;obtain⟨_,rfl,D⟩:=k;have :=by simpa using aR List.length D
      simp_all
     |_=>cases k
    |rn K sz q1 q2 q3 xs zs=>cases F with
     |rn O G q4 q5 q6 ys zs2=>
      simp only[Ob.tN,Ob.rn.injEq] at k;obtain⟨_,rfl,_,_,_,D,_⟩:=k;have :=by simpa using aR List.length D
      simp_all
     |_=>cases k
    |_=>cases F<;>first|rfl|cases k
theorem N4 {w l:St} {n:Nat} {e:TypeId} {x q:Operand} (B:∀ty,bG P ty w x=bG P ty l x) (z:∀ty,bG P ty w q=bG P ty l q):Dk P w n e x q=Dk P l n e x q:=by unfold Dk;simp_all
def S9 {B:Array Oper} {o:Oper} {s:St} {v:SV} (U:dW P h cC o s=some v):jQ (step0 P h cC o) s (vC P h B o s) (s.set o.dst v).env (s.set o.dst v).ob []:=
 ⟨ai,λj O=>(by cases O),λx H I K=>by
  have q:dW P h _ o s=dW P h cC o x->step0 P h cC o x=some (fK (vC P h B o s) (s.set _ v).env _ _ x):=λthis=>by rw[U] at this;simp[step0,<-this];rw[acK (f:=vC P h _ o s) rfl rfl]
  cases D:aaJ o.op with
  |true=>cases w:o.op with
   |indexAddr t a ix=>
    have z:∀y∈o.op.operands.toList,∀ty,bG P ty s y=bG P _ x y:=λy V ty=>jo (λu e=>(H u (by
     subst e
     exact cT _ (fe.2 ⟨_,V,rfl⟩))).symm) _
    have ha:=z a (by rw[w];simp[Op.operands]);have hi:=z ix (by rw[w];simp[Op.operands])
    have hl:∀ty G,bG P ty s a=some G->∀id∈G.ids,(s.ob _).map _=(x.ob _).map _:=λty G e id l=>(K _ (by
     simp[vC,D]
     exact vk (by rw[w];simp[Op.operands]) e l)).symm
    refine q ?_;simp[dW,w,eU];grind[RF,N4]
   |_=>rw[w] at D;cases D
  |false=>
   have F:∀id∈Kw P h o s,s.ob id=x.ob id:=λid l=>by grind[Sd,vC,Kw]
   exact q (Ua (λR id l=>(I _ (by simp[vC,R,D,l])).symm) F (λt S=>(H t (by simp[vC,fq,S])).symm))⟩
def ac3 {l:Array Oper} {k:Nat} {o:Oper} {s:St} {v:SV} (G:l[k]? =some o) (I:ql l o s=some true) (q:EU h o=[]) (H:dW P h cC o s=some v):
  ∃z K m,IM (qO P h cC l k) s ((vC P h l o s).fill s (s.set o.dst v)) z K m/\Qi s ((vC P h l o s).fill s (s.set o.dst v)):=
 NP (l:=[]) ai (λx w B D=>by
  simp[qO,G];rw[zR w,I];simp[step,q]
  exact(S9 H).2.2 x w B D) λj F _=>by cases F
def Zx {o:Oper} {s s':St} {c:Call} {d id:Nat} {x y:Operand} {t R:TypeId} (U:o.op= .call c) (hc:c.callee= .builtin .append) (q:c.args.toList=[x,y]) (V:c.argTypes.toList=[t,R]) (hd:o.dst=some d) (hx:bG P t s x=some (.row id)) (l:step0 P h cC o s=some s'):
  ∃ob:Ob,s'=(s.new id ob).set (some d) (.row id)/\
   ∀x:St,(∀t∈slotsOf o,x.env t=s.env t)->(∀j∈id::CO s o,x.ob j=s.ob j)->step0 P h cC o x=some ((x.new id ob).set (some d) (.row id)):=by
 have hf:∀x:St,dW P h cC o x=none:=λx=>by simp_all[dW,x8]
 have he:∀F:St,step0 P h cC o F=(match isSlice P t,bG P t F x,bG P R F y with
  |some (e,s),some (.row id),some y=>match F.ob id,elems F y,P.info? e with
   |some (.row I w xs),some (G,B),some i=>
    if t=R/\e=I/\s=w/\w=G/\0<w/\(xs.length+B.length) *i.bytes<=140737488355328/\xs.length+B.length<=4611686018427387904/\i.zero.map (λz=>z.cells.size)=some w/\gE id=true then
     some ((F.new id (.row e w (xs++B))).set (some d) (.row id)) else none
   |some (.rn I w k e2 s2 xs zs),some (G,B),some i=>
    if t=R/\e=I/\s=w/\w=G/\0<w/\(xs.length+B.length) *i.bytes<=140737488355328/\xs.length+B.length<=4611686018427387904/\i.zero.map (λz=>z.cells.size)=some w/\gE id=true/\B.all (qE k)=true then
     some ((F.new id (.rn e w k e2 s2 (xs++B.map λc=>c.set k .hole) (zs++B.map λ_=>some []))).set (some d) (.row id)) else none
   |_,_,_=>none
  |some (e,s),some (.aq id .full),some y=>match F.ob id,elems F y,P.info? e with
   |some (.row I w xs),some (G,B),some i=>
    if t=R/\e=I/\s=w/\w=G/\0<w/\(xs.length+B.length) *i.bytes<=140737488355328/\xs.length+B.length<=4611686018427387904/\i.zero.map (λz=>z.cells.size)=some w/\gE id=true/\B.isEmpty=false then
     some ((F.new id (.row e w (xs++B))).set (some d) (.row id)) else none
   |_,_,_=>none
  |_,_,_=>none):=λF=>by
  simp only[step0,hf,mD,U,hc,hd,q,V];rfl
 rw[he] at l;split at l
 .rename_i e sz0 id2 sy hs O hy;rw[hx] at O;simp only[aM,SV.row.injEq] at O;subst O;split at l
  .rename_i I w xs G B i qC hel hi;split at l
   .rename_i S;injection l with l;refine⟨.row e w (xs++B),l.symm,λF K H=> ?_⟩
    have D:∀z∈[x,y],∀ty,bG P ty F z=bG P ty s z:=λz hz ty=>jo (λu e=>K u (by
     subst e;refine fe.2 ⟨.tmp u,?_,rfl⟩;rw[U];simp only[Op.operands,Call.operands,hc,jd,bA];right
     rw[q];exact hz)) ty
    rw[he,D x ai t,D y ai R,hx,hy,hs];have e1:F.ob id=s.ob id:=H id ai
    have e2:elems F sy=elems s sy:=wF (λj hj=>H j (dF _ (vk (P:=P) (x:=y) (ty:=R) (by
     rw[U];simp only[Op.operands,Call.operands,hc,jd,bA];right
     rw[q];simp) hy hj)))
    grind
   .cases l
  .rename_i I w k e3 s3 xs zs G B i qC hel hi;split at l
   .rename_i S;injection l with l;refine⟨.rn e w k e3 s3 (xs++B.map λc=>c.set k .hole) (zs++B.map λ_=>some []),l.symm,λF K H=> ?_⟩
    have D:∀z∈[x,y],∀ty,bG P ty _ z=bG P _ s z:=λz hz ty=>jo (λu e=>K u (by
     subst e;refine fe.2 ⟨.tmp u,?_,rfl⟩;rw[U];simp only[Op.operands,Call.operands,jd,bA];right
     rw[q];exact hz)) _
    rw[he,D x ai t,D y ai _,hx,hy,hs];have e1:F.ob id=s.ob _:=H _ ai
    have e2 :=wF (λj hj=>H j (dF _ (vk (by
     rw[U];simp only[Op.operands,Call.operands,jd]
     rw[q];simp) hy hj)))
    grind
   .cases l
  .cases l
 .simp_all
 simp_all
def XO {o:Oper} {s s':St} {c:Call} {d id:Nat} {x y:Operand} {t K:TypeId} (O:o.op= .call c) (hc:c.callee= .builtin .append) (w:c.args.toList=[x,y]) (I:c.argTypes.toList=[t,K]) (hd:o.dst=some d) (hx:bG P t s x=some (.aq id .full)) (l:step0 P h cC o s=some s'):
  ∃ob:Ob,s'=(s.new id ob).set (some d) (.row id)/\
   ∀x:St,(∀t∈slotsOf o,x.env t=s.env t)->(∀j∈id::CO s o,x.ob j=s.ob j)->step0 P h cC o x=some ((x.new id ob).set (some d) (.row id)):=by
 have hf:∀x:St,dW P h cC o x=none:=λx=>by simp_all[dW,x8]
 have he:∀D:St,step0 P h cC o D=(match isSlice P t,bG P t D x,bG P K D y with
  |some (e,s),some (.row id),some y=>match D.ob id,elems D y,P.info? e with
   |some (.row H q xs),some (F,B),some i=>
    if t=K/\e=H/\s=q/\q=F/\0<q/\(xs.length+B.length) *i.bytes<=140737488355328/\xs.length+B.length<=4611686018427387904/\i.zero.map (λz=>z.cells.size)=some q/\gE id=true then
     some ((D.new id (.row e q (xs++B))).set (some d) (.row id)) else none
   |some (.rn H q k U s2 xs zs),some (F,B),some i=>
    if t=K/\e=H/\s=q/\q=F/\0<q/\(xs.length+B.length) *i.bytes<=140737488355328/\xs.length+B.length<=4611686018427387904/\i.zero.map (λz=>z.cells.size)=some q/\gE id=true/\B.all (qE k)=true then
     some ((D.new id (.rn e q k U s2 (xs++B.map λc=>c.set k .hole) (zs++B.map λ_=>some []))).set (some d) (.row id)) else none
   |_,_,_=>none
  |some (e,s),some (.aq id .full),some y=>match D.ob id,elems D y,P.info? e with
   |some (.row H q xs),some (F,B),some i=>
    if t=K/\e=H/\s=q/\q=F/\0<q/\(xs.length+B.length) *i.bytes<=140737488355328/\xs.length+B.length<=4611686018427387904/\i.zero.map (λz=>z.cells.size)=some q/\gE id=true/\B.isEmpty=false then
     some ((D.new id (.row e q (xs++B))).set (some d) (.row id)) else none
   |_,_,_=>none
  |_,_,_=>none):=λD=>by
  simp only[step0,hf,mD,O,hc,hd,w,I];rfl
 rw[he] at l;split at l
 .simp_all
 .rename_i e sz0 id2 sy hs G hy;rw[hx] at G;simp at G;subst G;split at l
  .split at l
   .injection l with l;refine⟨_,l.symm,λD S R=> ?_⟩
    have V:∀z∈[x,y],∀ty,bG P ty _ z=bG P _ s z:=λz hz ty=>jo (λu e=>S u (by
     subst e;refine fe.2 ⟨.tmp u,?_,rfl⟩;rw[O];simp only[Op.operands,Call.operands,jd,bA];right
     rw[w];exact hz)) _
    have U :=wF (λj hj=>R j (dF _ (vk (by
     rw[O];simp only[Op.operands,Call.operands,jd]
     rw[w];simp) hy hj)))
    grind
   .cases l
  .cases l
 simp_all
def kp_E0 {q:Array Oper} {o:Oper} {s:St} (w:¬∃t x,o.op= .load t x) (z:¬∃t a x id B i l j,o.op= .store t a x/\bG P 0 s a=some (.rp id B i l)/\bG P t s x=some (.row j)) (j:Nat):(lI P h q o s).kp j=false:=by
 unfold lI Et B2 NS;split
 .split
  .grind
  .rfl
  .split<;>rfl
 .cases h.rows.contains _<;>rfl
 .cases h.fP.contains _<;>cases h.rows.contains _<;>rfl
 .cases h.rows.contains _ with
  |false=>rfl
  |true=>simp only[aj,A4];split<;>rfl
 .rfl
 .split
  .split
   .split<;>rfl
   .rfl
  .cases(o.dst.any _&& !(o.dst.any _)) with
   |true=>rfl
   |false=>rename_i c _ _ f _;cases(!(o.dst.any _)&&(!(o.dst.any _)&&wide s c f)) with
    |false=>cases o.dst.any h.owns.contains with
     |false=>rfl
     |true=>
      simp only[aj,au,Es];split
      .split
       .split
        .rfl
        .rfl
       .rfl
      .rfl
    |true=>simp[vB];split<;>rfl
  .rfl
 .simp_all
 .rfl
def take_fx {D:Array Oper} {o:Oper} {s s':St} {t:TypeId} {a:Operand} (ho:o.op= .load t a) (l:step0 P h cC o s=some s') (q:(lI P h D o s).all=false):
  ∃ev ov m,jQ (step0 P h cC o) s (lI P h D o s) ev ov m:=by
 obtain⟨F,w⟩:∃F,lI P h D o s=F:=⟨_,rfl⟩
 rw[w] at q⊢;unfold lI at w;rw[ho] at w;cases H:o.dst with
 |none=>rw[H] at w;subst w;cases q
 |some d=>rw[H] at w;simp only at w;cases I:h.take.contains d with
  |false=>rw[I] at w;subst w;cases q
  |true=>
   rw[I] at w;simp[aj,Rq] at w;split at w
   .rename_i id sz i B V;split at w
    .rename_i e R k e' s2 xs ys z;subst w;have he:∀x:St,bG P 0 x a=some (.rp id sz i B)->x.ob id=some (.rn e R k e' s2 xs ys)->step0 P h cC o x=w6 P x t a d:=λx h1 h2=>by
      simp_all[dW,step0,mD]
     rw[he s V z] at l;unfold w6 at l;rw[V] at l;split at l
     .rename_i id2 sz2 i2 off2 e1 G;obtain⟨rfl,rfl,rfl,rfl⟩:=e1;rw[z] at l;simp at l;split at l
      .rename_i zs hy;cases hb:(Nat.beq sz R&&Nat.beq B k&& !(Nat.beq id d)&&Nat.blt id 10000) with
       |false=>simp_all
       |true=>
       rw[hb] at l;simp at l;have U:id≠d:=λe=>by simp_all
       refine⟨s'.env,s'.ob,[(d,none)],by simp,λj hj hk=> ?_,λx h1 h2 _=> ?_⟩<;>subst l
       rotate_left
       .have O:bG P 0 x a=some (.rp id sz i B):=by
         rw[<-V]
         exact jo (λu e=>h1 u (by
          subst e
          exact cT _ (fe.2 ⟨.tmp u,by rw[ho];simp[Op.operands],rfl⟩))) 0
        have K :=(h2 _ ai).trans z;rw[he x O K];unfold w6;rw[O,G];simp only[K,hy,hb];refine aR _ (St.same (λu=> ?_) (λu=> ?_))
        .simp[fK,bS];by_cases e:u=d
         .simp_all[St.set,c7]
         .rw[aA e];simp[St.set,bR _ _ (λh=>e h.symm)];rfl
        .simp[fK,aI,nF,pV];by_cases e:u=d
         .simp_all[St.set,St.new,c7]
         .by_cases e2:u=id
          .subst e2;simp[true_or,fZ,St.set,St.new,St.dA,bR _ _ (λh=>e h.symm),c7]
          .rw[aA af];simp[St.set,St.new,St.dA,bR _ _ (λh=>e h.symm),bR _ _ (λh=>e2 h.symm)];rfl
       .have S :=by
         simp only[aK] at hk;exact beq_iff.1 hk.1
        subst S;rw[z];simp[St.set,St.new,St.dA,bR _ _ (λh=>U h.symm),c7,cV,Ob.dA,Ob.tN]
      simp_all
     simp_all
    .subst w;cases q
   .subst w;cases q
def rQ {R:Type} {b:Bool} {x:Option R} {r:R} (l:(bif b then x else none)=some r):b=true/\x=some r:=by grind
def oo:∀(l:List Nat) (q:St) (t:Nat),(fu l q).env t=(q.env t).map (j0 (l.map λi=>(i,none)))
 |[],q,t=>by exact(iz λ_=>rfl).symm
 |id::l,q,t=>by simp[fu];rw[oo l _ t];simp[St.dA,Option.map_map];rfl
def r9:∀(l:List Nat) (q:St) (j:Nat),j∉l->(fu l q).ob j=(q.ob j).map (Ob.zi (j0 (l.map λi=>(i,none))))
 |[],q,j,_=>by simp_all[fu,iz,Bc]
 |id::l,q,j,w=>by simp at w;simp[fu];rw[r9 l _ j w.2];simp only[St.dA,bR _ _ (λh=>w.1 h.symm)];cases q.ob j with
  |none=>rfl
  |some o=>cases o<;>simp only[cV,Ob.dA,Ob.zi,fk]<;>rfl
theorem qg:∀(l:List Nat) (w q:St) (j:Nat),w.ob j=q.ob j->(fu l w).ob j=(fu l q).ob j
 |[],w,q,j,h=>h
 |id::l,w,q,j,h=>by
  refine qg l _ _ j ?_;by_cases e:id=j
  .simp_all[St.dA,c7]
  simp_all[St.dA,bR]
theorem back_mem {names:List Nat} {F:Nat->Nat}:∀{m:List (Nat×Nat)} {w l:List (Nat×Ob)},mM names F m w=some l->∀{j:Nat} {o:Ob},find l j=some o->j∈m.map (·.1)
 |[],[],l,h,j,o,q=>by simp[mM,aM] at h;subst h;cases q
 |[],_::_,l,h,_,_,_=>by simp[mM] at h
 |_::_,[],l,h,_,_,_=>by simp[mM] at h
 |(id,G)::m,(D,H)::w,l,h,j,o,q=>by obtain⟨_,h⟩:=rQ h;simp at h;obtain⟨r,B,rfl⟩:=h;simp[find] at q;cases z:Nat.beq id j with
  |true=>simp_all
  |false=>rw[z] at q;exact dF _ (back_mem B q)
def many_fx {B:Array Oper} {o:Oper} {s s':St} {c:Call} {f:Operand} (ho:o.op= .call c) (hc:c.callee= .value f) (how:o.dst.any h.owns.contains=false) (U:o.dst.any h.stay.contains=false) (hw:wide s c f=true)
  (w:step0 P h cC o s=some s') (F:(vB P h B o s c f).all=false):∃ev ov m,jQ (step0 P h cC o) s (vB P h B o s c f) ev ov m:=by
 have Yp:∀x:St,(∀t∈fq B o,x.env t=s.env t)->∀y∈o.op.operands.toList,∀ty,bG P ty x y=bG P ty s y:=λx h1 y hy' ty=>jo (λu e=>h1 u (by
  subst e
  exact cT _ (fe.2 ⟨.tmp u,hy',rfl⟩))) ty
 have G:∀x∈c.args.toList,x∈o.op.operands.toList:=λx hx=>by simp_all[Op.operands,Call.operands,jd,bA]
 have hfo:f∈o.op.operands.toList:=by rw[ho];simp[Op.operands,Call.operands,hc]
 have hwide:∀x:St,(∀t∈fq B o,x.env t=s.env t)->wide x c f=wide s c f:=λx h1=>by
  have henv:∀y∈o.op.operands.toList,∀u,y= .tmp u->x.env u=s.env u:=λy hy u e=>h1 u (by
   subst e
   exact cT _ (fe.2 ⟨.tmp u,hy,rfl⟩))
  have e1:Um x f=Um s f:=by cases f with
   |tmp u=>simp only[Um,henv _ hfo u rfl]
   |_=>rfl
  have e2:∀l:List Operand,(∀y∈l,y∈o.op.operands.toList)->l.any (EA x)=l.any (EA s):=by intro l;induction l with
   |nil=>simp
   |cons y l ih=>intro hl;simp only[nj];rw[ih λz hz=>hl z (by simp[hz])];cases y with
    |tmp u=>simp only[EA,henv _ (hl (.tmp u) ai) u rfl]
    |_=>rfl
  unfold wide;rw[e1,e2 _ G]
 have he:∀x:St,(∀t∈fq B o,x.env t=s.env t)->step0 P h cC o x=jX P h cC x c f o.dst:=λx h1=>by
  have hwx:=(hwide x h1).trans hw;have hfn:dW P h cC o x=none:=by simp only[dW,ho,hc,how,U,hwx,au,pX,uA,aj]
  unfold step0;rw[hfn];cases O:o.dst with
  |none=>simp only[mD,ho,hc,O,hwx,Option.any_none,au,pX,aj]
  |some d=>rw[O] at how U;simp only[mD,ho,hc,O,how,U,hwx,au,pX,aj]
 rw[he s λ_ _=>rfl] at w;have hr0:∃g args,uj P h s c f=some (g,args):=by
  unfold vB at F;split at F
  .simp_all
  .cases F
 obtain⟨g,args,hra⟩:=hr0;have hF:vB P h B o s c f={ rs:=fq B o,ws:=o.dst.toList,ro:=jB s args,wo:=jB s args,mv:=(jB s args).filter (ij false s (pH args)) }:=by unfold vB;rw[hra]
 rw[hF];have D:=hra;unfold uj at D;split at D
 .rename_i g0 pre q V hfn hvs;simp only[aM,bD] at D;obtain⟨rfl,rfl⟩:=D;unfold jX at w;rw[hfn,hvs] at w;simp only[U] at w;obtain⟨K,w⟩:=rQ w;split at w
  .rename_i cL S;split at w
   .rename_i r A9 I;split at w
    .rename_i back H;obtain⟨Wg,w⟩:=rQ w;injection w with w;generalize R:gD s 200 ((pre++(V++q)).flatMap SV.ids) []=ids at K S I H w;have hro:jB s (pre++(V++q))=ids:=R;rw[hro];have hfst:(iW (ij false s (pH (pre++(V++q)))) 0 ids).map (·.1)=ids:=tG _ _ _;refine⟨s'.env,s'.ob,(ids.filter (ij false s (pH (pre++(V++q))))).map λi=>(i,none),λp hp=> ?_,λj _ hk=>(by cases hk),λx h1 h2 _=> ?_⟩
     .obtain⟨i,hi,rfl⟩:=aD.1 hp;exact hi
     .have k1:bG P 0 x f=bG P 0 s f:=Yp x h1 f hfo 0;have k2:tW P h x c.args.toList c.argTypes.toList=tW P h s c.args.toList c.argTypes.toList:=y3 λy hy ty=>Yp x h1 y (G y hy) ty
      have k3:gD x 200 ((pre++(V++q)).flatMap SV.ids) []=ids:=by rw[<-R];exact(oU 200 _ _ λid hid=>(h2 id (by rw[R] at hid;exact hid)).symm).symm
      have k4:∀id∈ids,ij false x (pH (pre++(V++q))) id=ij false s (pH (pre++(V++q))) id:=λid hid=>by simp only[ij,N7,h2 id hid]
      have k5:∀(l:List Nat) (n:Nat),(∀id∈l,id∈ids)->iW (ij false x (pH (pre++(V++q)))) n l=iW (ij false s (pH (pre++(V++q)))) n l:=by intro l;induction l with
       |nil=>intro n _;rfl
       |cons i l ih=>simp_all[iW]
      have k6:=k5 ids 0 λ_ h=>h
      have k7:jN x ids (iD (iW (ij false s (pH (pre++(V++q)))) 0 ids)) (iW (ij false s (pH (pre++(V++q)))) 0 ids)=some cL:=by
       rw[<-S];exact sY λp hp=>h2 p.1 (by grind)
      have k8 :=lQ λi hi=>k4 i hi
      rw[he x h1];unfold jX;rw[k1,k2,hfn,hvs];simp only[U,k3,k6,K,k7,I,H,Wg];refine aR _ (St.same (λt=> ?_) (λj=> ?_))
      .simp[fK];cases O:o.dst with
       |none=>simp_all[St.set,oo]
       |some d=>
        by_cases e:d=t
        .subst e;rw[<-w,O];simp[St.set,c7]
        .rw[aA (by grind)];simp_all[St.set,bR,oo]
      .have aaA:∀(y) (v),(St.set y o.dst v).ob=y.ob:=λy v=>by cases o.dst<;>rfl
       simp[fK,aaA];by_cases e:j∈ids
       .grind[qg]
       .have hb:find back j=none:=by
         cases hf:find _ j with
         |none=>rfl
         |some o'=>grind[back_mem]
        simp_all[r9]
    simp_all
   simp_all
  simp_all
 simp_all
def Hf {d:Nat}:∀{l:List (Nat×Ob)} {k:Nat} {p:Nat×Nat},p∈newNames d k l->k+l.length<=8->p.1∈og d
 |[],k,p,h,_=>by cases h
 |x::l,k,p,h,q=>by
  simp only[newNames,aI,bw] at h q;rcases h with rfl|h
  .exact aD.2 ⟨k,gp.2 af,rfl⟩
  .exact Hf h af
def EJ {d:Nat}:∀{l:List (Nat×Ob)} {k:Nat},(newNames d k l).length=l.length
 |[],k=>rfl
 |x::l,k=>by simp[newNames,EJ]
def GI {B l:St} {w:List Nat} {d:Nat}:∀{xs:List Operand} {q:List TypeId} {j:Nat},(∀x∈xs,∀ty,bG P ty B x=bG P ty l x)->Cx P w d B j xs q=Cx P w d l j xs q
 |[],_,_,_=>rfl
 |x::xs,q,j,z=>by unfold Cx argG;rw[z x ai,GI λy D=>z y (by simp[D])]
def Ew {d:Nat}:∀{xs:List Operand} {l:List TypeId} {j:Nat},mS P [] d j xs l=[]
 |[],_,_=>rfl
 |x::xs,l,j=>by simp[mS,Ew]
def QA {G:St} {g:Nat} {args:List SV} {z q:Nat->Nat} {d:Option Nat} (B:∀i∈jB G args,z i=q i):jW cC G g args z d=jW cC G g args q d:=by
 unfold jW;simp only[];generalize F:gD G 200 (args.flatMap SV.ids) []=ids;have H:jB G args=ids:=F;rw[H] at B;have V:∀(l:List Nat) (n:Nat),(∀i∈l,i∈ids)->qq z n l=qq q n l:=by intro l;induction l with
  |nil=>intro n _;rfl
  |cons i l U=>intro n K;simp only[qq];rw[U _ λj O=>K j (dF _ O),B i (K i (fN ..))]
 have k6:=V ids 0 λ_ h=>h
 have D:∀i∈ids,given z i=given q i:=λi w=>by simp only[given,B i w]
 have S:∀i∈ids,(!(stays z i))= !(stays q i):=λi w=>by simp only[stays,B i w]
 have k7:(qq q 0 ids).filter (λp=> !(given z p.1))=(qq q 0 ids).filter (λp=> !(given q p.1)):=lQ λp R=>by rw[D p.1 (q9 q 0 ids p R).1]
 have k8:ids.filter (λi=> !(stays z i))=ids.filter (λi=> !(stays q i)):=lQ S;have k9:ids.all (λi=> !(given z i))=ids.all (λi=> !(given q i)):=by rw[iF,cF,cF];exact⟨λh i w=>by rw[<-D i w];exact h i w,λh i w=>by rw[D i w];exact h i w⟩
 have I:ids.all (λi=> !(given z i)||iC i)=ids.all (λi=> !(given q i)||iC i):=by rw[iF,cF,cF];exact⟨λh i w=>by rw[<-D i w];exact h i w,λh i w=>by rw[D i w];exact h i w⟩
 simp only[k6,k7,k8,k9,I]
def gen_fx {F:Array Oper} {o:Oper} {s s':St} {c:Call} {f:Operand} (ho:o.op= .call c) (hc:c.callee= .value f) (how:o.dst.any h.owns.contains=true)
  (l:step0 P h cC o s=some s') (D:(Es P h F o s c f).all=false):∃ev ov m,jQ (step0 P h cC o) s (Es P h F o s c f) ev ov m:=by
 have Yp:∀x:St,(∀t∈fq F o,x.env t=s.env t)->∀y∈o.op.operands.toList,∀ty,bG P ty x y=bG P ty s y:=λx K y hy' ty=>jo (λu e=>K u (by
  subst e
  exact cT _ (fe.2 ⟨.tmp u,hy',rfl⟩))) ty
 have hargs:∀x∈c.args.toList,x∈o.op.operands.toList:=λx hx=>by simp_all[Op.operands,Call.operands,jd,bA]
 have hfo:f∈o.op.operands.toList:=by rw[ho];simp[Op.operands,Call.operands,hc]
 have he:∀x,step0 P h cC o x=iI P h cC x c f o.dst:=λx=>by
  have hfn:dW P h cC o x=none:=by simp only[dW,ho,hc,how,aj]
  unfold step0;rw[hfn];cases G:o.dst with
  |none=>rw[G] at how;cases how
  |some d=>rw[G] at how;simp only[mD,ho,hc,G,how,aj]
 rw[he] at l;unfold Es at D⊢;split at D
 .rename_i d G;split at D
  .rename_i key hgv;split at D
   .rename_i g pre S vs hf hvs;generalize hkr:vH [] 0 vs=kr;have key:∀x:St,(∀t∈fq F o,x.env t=s.env t)->iI P h cC x c f (some d)=jW cC x g (pre++(vs++S)) (Jz x (ij false x kr)) (some d):=λx K=>by
     unfold iI;simp only[hgv];unfold Cz;simp only[Ew,iJ,yF,aj];rw[Yp x K f hfo 0,GI λy hy ty=>Yp x K y (hargs y hy) ty,hf,hvs,<-hkr]
    rw[G,key s λ_ _=>rfl] at l;generalize pre++(vs++S)=args at key l;generalize hcls:Jz s (ij false s kr)=q at l⊢;have hroI:jB s args=gD s 200 (args.flatMap SV.ids) []:=rfl;unfold jW at l;simp only[] at l;generalize V:gD s 200 (args.flatMap SV.ids) []=ids at l hroI;rw[hroI];obtain⟨zW,l⟩:=rQ l;split at l
    .rename_i cL RA;split at l
     .rename_i r O wI;simp only[nE] at l;obtain⟨z,l⟩:=rQ l;generalize hmB:(qq q 0 ids).filter (λp=> !(given q p.1))=mB at l z;generalize hnw:newNames d 0 (O.drop mB.length)=I at l z;have hlen:(O.drop mB.length).length<=8:=by
       simp only[aK] at z;have:=ff z.1.1.1.1;rwa[<-hnw,EJ] at this
      have hin:∀j∈I.map (·.1),j∈og d:=λj H=>by obtain⟨p,R,rfl⟩:=aD.1 H;rw[<-hnw] at R;exact Hf R af
      have hinB:∀j∈mB.map (·.1),j∈ids:=λj H=>by obtain⟨p,R,rfl⟩:=aD.1 H;rw[<-hmB] at R;exact(q9 q 0 ids p (cE.1 R).1).1
      split at l
      .rename_i B hb;have aan:∀{j:Nat} {o':Ob},find B j=some o'->j∈ids++og d:=λ{j o'} hf=>by
        have:=back_mem hb hf;rw[bZ,bA] at this;rcases this with h|h
        .exact cT _ (hinB _ h)
        .exact gQ _ (hin _ h)
       have hx:∀x:St,(∀t∈fq F o,x.env t=s.env t)->(∀j∈ids++og d,x.ob j=s.ob j)->∀w,(match(generalizing:=false) r with
         | .gM [.gM [.self 0, .qz,y]]=>bif(vE y).closed ((mB++I).map (·.2)) then
           some (St.set { env:=(fu (ids.filter (λi=> !(stays q i))++I.map (·.1)) x).env,ob:=λi=>(find B i).orElse λ_=>(fu (ids.filter (λi=> !(stays q i))++I.map (·.1)) x).ob i } (some d) (Kj (find B) ((vE y).pG (iD (swap (mB++I))))))
          else none
         |r=>bif r.jF then
           some (St.set { env:=(fu (ids.filter (λi=> !(stays q i))++I.map (·.1)) x).env,ob:=λi=>(find B i).orElse λ_=>(fu (ids.filter (λi=> !(stays q i))++I.map (·.1)) x).ob i } (some d) (.pv r))
          else none)=w->iI P h cC x c f (some d)=w:=λx K U w hw=>by
        have h2':∀j∈ids,x.ob j=s.ob j:=λj H=>U j (cT _ H)
        have k3:gD x 200 (args.flatMap SV.ids) []=ids:=by rw[<-V];exact(oU 200 _ _ λid hid=>(h2' id (by rw[V] at hid;exact hid)).symm).symm
        have k4:∀i∈jB x args,Jz x (ij false x kr) i=q i:=λi hi=>by
         have hi':i∈ids:=by
          have:jB x args=ids:=k3
          rwa[this] at hi
         rw[<-hcls];simp only[Jz,EI,Uo,ij,N7,h2' i hi']
        have k7:jN x ids (iD (qq q 0 ids)) (qq q 0 ids)=some cL:=by rw[<-RA];exact sY λp R=>h2' p.1 (q9 q 0 ids p R).1
        rw[key x K,QA k4];unfold jW;simp only[k3,zW,aj,k7,wI,nE,hmB,hnw,z,hb];exact hw
       have go:∀v:SV,s'=St.set { env:=(fu (ids.filter (λi=> !(stays q i))++I.map (·.1)) s).env,ob:=λi=>(find B i).orElse λ_=>(fu (ids.filter (λi=> !(stays q i))++I.map (·.1)) s).ob i } (some d) v->
         (∀x:St,(∀t∈fq F o,x.env t=s.env t)->(∀j∈ids++og d,x.ob j=s.ob j)->iI P h cC x c f (some d)=some (St.set { env:=(fu (ids.filter (λi=> !(stays q i))++I.map (·.1)) x).env,ob:=λi=>(find B i).orElse λ_=>(fu (ids.filter (λi=> !(stays q i))++I.map (·.1)) x).ob i } (some d) v))->
         ∃ev ov m,jQ (step0 P h cC o) s { rs:=fq F o,ws:=[d],ro:=ids++og d,wo:=ids++og d,mv:=ids.filter (λi=> !(stays q i))++og d } ev ov m:=λv hs' hx=>by
        refine⟨s'.env,s'.ob,(ids.filter (λi=> !(stays q i))++I.map (·.1)).map λi=>(i,none),λp R=> ?_,λj _ hk=>(by cases hk),λx K U _=> ?_⟩
        .obtain⟨i,hi,rfl⟩:=aD.1 R;rcases bA.1 hi with hi|hi
         .exact cT _ hi
         .exact gQ _ (hin i hi)
        .rw[he,G,hx x K U,hs'];refine aR some (St.same (λt=> ?_) (λj=> ?_))
         .simp only[fK,bS];by_cases e:t=d
          .subst e;simp[St.set,c7]
          .rw[aA e];simp only[St.set,bR _ _ (λh=>e h.symm),oo]
         .have aaA:∀(y) (v),(St.set y (some d) v).ob=y.ob:=λy v=>rfl
          simp only[fK,aaA];by_cases e:j∈ids++og d
          .rw[aB e,qg _ _ _ _ (U j e)]
          .rw[aA e];have hb0:find B j=none:=by
            cases hf:find B j with
            |none=>rfl
            |some o'=>exact absurd (aan hf) e
           have H:j∉ids.filter (λi=> !(stays q i))++I.map (·.1):=λH=>e (by
            rcases bA.1 H with H|H
            .exact cT _ (cE.1 H).1
            .exact gQ _ (hin j H))
           rw[hb0,r9 _ _ _ H];rfl
       split at l
       .rename_i y;obtain⟨hc3,l⟩:=rQ l;injection l with l;exact go _ l.symm λx K U=>hx x K U _ (by simp only[hc3,aj])
       .rename_i hno;obtain⟨hc3,l⟩:=rQ l;injection l with l;refine go _ l.symm λx K U=>hx x K U _ ?_
        split
        .exact absurd rfl (hno _)
        .simp only[hc3,aj]
      .cases l
     .cases l
    .cases l
   .cases D
  .cases D
 .cases D
def put_fx {G:Array Oper} {o:Oper} {s s':St} {t:TypeId} {a y:Operand} {id R i w j:Nat} (ho:o.op= .store t a y) (V:bG P 0 s a=some (.rp id R i w)) (hy:bG P t s y=some (.row j)) (l:step0 P h cC o s=some s') (D:(lI P h G o s).all=false):
  ∃ev ov m,jQ (step0 P h cC o) s (lI P h G o s) ev ov m:=by
 obtain⟨F,B⟩:∃F,lI P h G o s=F:=⟨_,rfl⟩
 rw[B] at D⊢;unfold lI at B;rw[ho] at B;cases I:o.dst with
 |some d=>rw[I] at B;subst B;cases D
 |none=>
  rw[I] at B;simp[Et,V,hy] at B;subst B;have he:∀x:St,bG P 0 x a=some (.rp id R i w)->bG P t x y=some (.row j)->step0 P h cC o x=Hp P x t id R i w j:=λx h1 U=>by simp_all[dW,eU,step0,mD]
  rw[he s V hy] at l;unfold Hp at l;split at l
  .rename_i e sz' k e' s2 xs ys S s3 zs H hsz qC K;cases hb:(Nat.beq R sz'&&Nat.beq w k&&Nat.blt id 10000&&Nat.blt j 10000&&Nat.beq e' S&&Nat.beq s2 s3&&Nat.blt i ys.length&& !(Nat.beq id j)) with
   |false=>simp_all
   |true=>
   rw[hb] at l;simp at l;refine⟨s'.env,s'.ob,[(j,none),(id+40000,none)],by simp,λq hq hk=> ?_,λx h1 U _=> ?_⟩<;>subst l
   .simp_all[c7,Ob.tN]
   .have O:∀z∈o.op.operands.toList,∀ty,bG P ty x z=bG P _ s z:=λz hz ty=>jo (λu e=>h1 u (by
     subst e
     exact cT _ (fe.2 ⟨_,hz,rfl⟩))) _
    have k1:=O a (by rw[ho];simp[Op.operands]) 0;have k2:=O y (by rw[ho];simp[Op.operands]) t;have x1 :=(U _ ai).trans qC;have x2 :=(U j ai).trans K;rw[he x (k1.trans V) (k2.trans hy)];unfold Hp;simp only[H,hsz,x1,x2,hb];refine aR _ (St.same (λu=> ?_) (λu=> ?_))
    .exact oo [j,id+40000] x u
    .simp[fK];by_cases e:u=id
     .simp_all[c7]
     .simp[bR _ _ (λh=>e h.symm)];by_cases S:u=j
      .rw[aB (.inr (.inl S))];exact qg [j,id+40000] x s u (by simp_all)
      .by_cases e3:u=id+40000
       .simp_all[St.dA,c7]
       .rw[aA af];exact r9 [j,id+40000] x u (by simp_all)
  simp_all
def vM (q:List (Nat×Nat×TypeId×Nat)):∀(l:List (Nat×TypeId×Nat)) (w:St) (t:Nat),(iJ q l w).env t=(w.env t).map (j0 (l.map λx=>(x.1,none)))
 |[],w,t=>by exact(iz λ_=>rfl).symm
 |(id,e,s)::l,w,t=>by simp only[iJ];rw[vM q l _ t];simp[St.new,St.dA,Option.map_map];rfl
def CN (q:List (Nat×Nat×TypeId×Nat)):∀(l:List (Nat×TypeId×Nat)) (w:St) (j:Nat),j∉l.map (·.1)->(iJ q l w).ob j=(w.ob j).map (Ob.zi (j0 (l.map λx=>(x.1,none))))
 |[],w,j,_=>by simp_all[iJ,iz,Bc]
 |(id,e,s)::l,w,j,z=>by simp only[bu,aI,nC] at z;simp only[iJ];rw[CN q l _ j z.2];simp only[St.new,St.dA,bR _ _ (λh=>z.1 h.symm)];cases w.ob j with
  |none=>rfl
  |some o=>cases o<;>simp only[cV,Ob.dA,Ob.zi,fk,bu]<;>rfl
def uf (w:List (Nat×Nat×TypeId×Nat)):∀(l:List (Nat×TypeId×Nat)) (z q:St) (j:Nat),z.ob j=q.ob j->(iJ w l z).ob j=(iJ w l q).ob j
 |[],z,q,j,h=>h
 |(id,e,s)::l,z,q,j,h=>by
  refine uf w l _ _ j ?_;by_cases e:id=j
  .simp_all[St.new,c7]
  simp_all[St.new,St.dA,bR]
def R5 {v:AV}:∀l:List (Nat×Option AV),j0 l (.pv v)= .pv v
 |[]=>rfl
 |p::l=>by
  obtain⟨c,_,e,_⟩:=JS p (.pv v);have e:R7 p (.pv v)= .pv v:=by rw[e];rfl
  show j0 l (R7 p (.pv v))= .pv v;rw[e,R5 l]
def EK {w:List (Nat×Nat×TypeId×Nat)} {l:List (Nat×TypeId×Nat)} {z:St} {t:TypeId} {y:Operand} {v:AV} (q:bG P t z y=some (.pv v)):bG P t (iJ w l z) y=some (.pv v):=by cases y with
 |tmp i=>simp only[bG] at q⊢;rw[vM,q,cV,R5]
 |_=>exact q
def YM {st st':St} {v:AV}:F7 st (.pv v)=F7 st' (.pv v):=by cases v<;>rfl
def ER {ty:Nat->TypeId} {st st1 st2:St}:∀{l:List (Nat×Operand)} {q:List (Nat×AV)},(∀y∈l.map (·.2),∀t v,bG P t st y=some (.pv v)->bG P t st1 y=some (.pv v)/\bG P t st2 y=some (.pv v))->partsOf P ty st l=some q->
  qF P ty st1 l=qF P ty st2 l/\∀G,qF P ty st1 l=some G->∀p∈G,∀c∈p.2,∃v,c= .pv v
 |[],_,_,_=>⟨rfl,λG h p F=>by simp only[qF,aM] at h;subst h;cases F⟩
 |(i,y)::l,q,V,K=>by
  unfold partsOf at K;split at K
  .rename_i v vs hv R;obtain⟨sv,O,I⟩:=dx.1 hv;cases sv with
   |pv v'=>
    obtain⟨U,h2⟩:=V y ai (ty i) v' O;obtain⟨k1,k2⟩:=ER (λz hz=>V z (by simp only[bu,aI];exact .inr hz)) R;refine⟨?_,λG B p F c H=> ?_⟩
    .simp only[qF];rw[U,h2,k1];simp only[eG];rw[YM (st:=st1) (st':=st2)]
    .unfold qF at B;split at B
     .rename_i w ws D S;injection B with B;subst B;rcases aI.1 F with rfl|F
      .rw[U] at D;simp only[eG] at D;unfold F7 at D;split at D
       .injection D with D;subst D;obtain⟨a,_,rfl⟩:=aD.1 H;exact⟨a,rfl⟩
       .obtain⟨_,D⟩:=rQ D;injection D with D;subst D;rw[bS.1 H];exact⟨_,rfl⟩
      .exact k2 _ S p F c H
     .cases B
   |_=>simp[iU] at I
  .cases K
def Mk {Q:SV->Prop} {place:Nat->Option (Nat×Nat)}:∀{l:List (Nat×List SV)} {cells r:List SV},GU place cells l=some r->(∀c∈cells,Q c)->(∀p∈l,∀c∈p.2,Q c)->∀c∈r,Q c
 |[],cells,r,h,w,_=>by simp only[GU,aM] at h;subst h;exact w
 |(i,v)::l,cells,r,h,w,z=>by
  unfold GU at h;split at h
  .cases h
  .split at h
   .refine Mk h (λc q=> ?_) λp B=>z p (dF _ B)
    rcases bA.1 q with q|q
    .rcases bA.1 q with q|q
     .exact w c (sJ q)
     .exact z (i,v) (fN ..) c q
    .exact w c (iK q)
   .cases h
def AU {K:List Nat} {d:Nat}:∀(j:Nat) (F:List TypeId) (G:List Value) (w:List SV) (l:List (Nat×TypeId×Nat)),nV P K d j F G=some (w,l)->∀c∈w,(∃v,c= .pv v)\/∃id∈l.map (·.1),c= .row id
 |j,[],[],w,l,q,c,z=>by simp only[nV,aM,bD] at q;obtain⟨rfl,rfl⟩:=q;cases z
 |j,[],_::_,w,l,q,c,z=>by simp[nV] at q
 |j,_::_,[],w,l,q,c,z=>by simp[nV] at q
 |j,t::F,v::G,w,l,q,c,z=>by
  unfold nV at q;split at q
  .rename_i D I B;split at q
   .obtain⟨_,q⟩:=rQ q;simp only[aM,bD] at q;obtain⟨rfl,rfl⟩:=q;rcases aI.1 z with rfl|z
    .exact .inr ⟨_,by simp,rfl⟩
    .rcases AU (j+1) F G D I B c z with h|⟨id,H,h⟩
     .exact .inl h
     .exact .inr ⟨id,by simp only[bu,aI];exact .inr H,h⟩
   .simp only[cv,bD] at q;obtain⟨a,_,rfl,rfl⟩:=q;rcases aI.1 z with rfl|z
    .exact .inl ⟨a,rfl⟩
    .exact AU (j+1) F G D I B c z
  .cases q
def CA {w q:St}:∀{l:List SV},(∀c∈l,oJ w c=oJ q c)->wE w l=wE q l
 |[],_=>rfl
 |c::l,h=>by unfold wE ZK;rw[h c (fN ..),CA λx z=>h x (dF _ z)]
def rows_fx {U:Array Oper} {o:Oper} {s s':St} {d:Nat} {t:TypeId} {z:Array (Nat×Operand)} (ho:o.op= .build t z) (G:o.dst=some d) (R:h.rows.contains d=true) (w:step0 P h cC o s=some s')
  (B:(A4 P h U o s d t z.toList).all=false):∃ev ov m,jQ (step0 P h cC o) s (A4 P h U o s d t z.toList) ev ov m:=by
 have he:∀x,step0 P h cC o x=vj P h x d t z.toList:=λx=>by
  have hfn:dW P h cC o x=none:=by simp only[dW,eU,ho,G,rC,R,aj]
  unfold step0;rw[hfn];simp only[mD,G,ho,R,aj]
 rw[he] at w;unfold A4 at B⊢;split at B
 .rename_i svs l q hz hq;unfold vj at w;rw[hz] at w;split at w
  .rename_i fs svs' l' hu e1;injection e1 with e1;injection e1 with e1 e2;subst e1;subst e2;obtain⟨hfs,w⟩:=rQ w;split at w
   .rename_i ps I;split at w
    .rename_i cs hcs;injection w with w;obtain⟨sv,D,hca⟩:=dx.1 hcs;obtain⟨vs,_,F⟩:=dx.1 hz;refine⟨s'.env,s'.ob,l.map λx=>(x.1,none),λp hp=> ?_,λj _ hk=>(by cases hk),λx h1 h2 _=> ?_⟩
     .obtain⟨i,hi,rfl⟩:=aD.1 hp;exact aD.2 ⟨i,hi,rfl⟩
     .have Yp:∀y∈z.toList.map (·.2),∀ty,bG P ty x y=bG P ty s y:=λy hy ty=>jo (λu e=>h1 u (by
       subst e
       exact cT _ (fe.2 ⟨.tmp u,by rw[ho];simpa[Op.operands] using hy,rfl⟩))) ty
      have O:=ER (ty:=Eo P t) (st:=s) (st1:=iJ h.nest l s) (st2:=iJ h.nest l x) (λy hy ty v hv=>⟨EK hv,EK ((Yp y hy ty).trans hv)⟩) hq;have K:qF P (Eo P t) (iJ h.nest l x) z.toList=some ps:=by rw[<-O.1];exact I
      have H:∀c∈sv,oJ (iJ h.nest l x) c=oJ (iJ h.nest l s) c:=λc V=>by
       rcases Mk (Q:=λc=>(∃v,c= .pv v)\/∃id∈l.map (·.1),c= .row id) D (AU 0 _ _ _ _ F) (λp hp c V=> .inl (O.2 _ I p hp c V)) c V with⟨v,rfl⟩|⟨id,hid,rfl⟩
       .cases v<;>rfl
       .simp only[oJ,uf h.nest l x s id (h2 id hid)]
      rw[he];unfold vj;rw[hz];simp only[hu,hfs,aj,K,D,eG];rw[CA H,hca];refine aR some (St.same (λu=> ?_) (λj=> ?_))
      .simp only[fK,bS];by_cases e:u=d
       .subst e;rw[<-w];simp[St.set,c7]
       .rw[aA e];simp only[St.set,bR _ _ (λh=>e h.symm),vM]
      .have S:∀(y) (v),(St.set y (some d) v).ob=y.ob:=λy v=>rfl
       simp only[fK,S];by_cases e:j∈l.map (·.1)
       .rw[aB e,uf h.nest l x s j (h2 j e),<-w];rfl
       .rw[aA e,CN _ _ _ _ e]
    .cases w
   .cases w
  .cases w
 .cases B
def T3 {H:Array Oper} {o:Oper} {s s':St} (q:step0 P h cC o s=some s') (B:(lI P h H o s).all=false):
  ∃ev ov m,jQ (step0 P h cC o) s (lI P h H o s) ev ov m:=by
 by_cases hld:∃t x,o.op= .load t x
 .obtain⟨t,a,ho⟩:=hld;exact take_fx ho q B
 by_cases hpt:∃t a x id sz i off j,o.op= .store t a x/\bG P 0 s a=some (.rp id sz i off)/\bG P t s x=some (.row j)
 .obtain⟨t,a,x,id,sz,i,off,j,ho,ha,hx⟩:=hpt;exact put_fx ho ha hx q B
 by_cases hct:∃t a x id off j sz lo hi,o.op= .store t a x/\bG P 0 s a=some (.ptr id off)/\bG P t s x=some (.sub j sz lo hi)
 .obtain⟨t,a,x,id,off,j,sz,lo,hi,ho,ha,hx⟩:=hct;unfold lI at B;rw[ho] at B;cases G:o.dst with
  |some d=>rw[G] at B;cases B
  |none=>rw[G] at B;simp only[Et,ha,hx] at B;cases B
 have go:∀{l:List (Nat×Option AV)},(∀p∈l,p.1∈(lI P h H o s).mv)->(∀t∈fq H o,t∈(lI P h H o s).rs)->(∀x:St,(∀t∈(lI P h H o s).rs,x.env t=s.env t)->(∀j∈(lI P h H o s).ro,x.ob j=s.ob j)->step0 P h cC o x=some (fK (lI P h H o s) s'.env s'.ob l x))->
   ∃ev ov m,jQ (step0 P h cC o) s (lI P h H o s) ev ov m:=λhk _ O=>⟨_,_,_,hk,λj _ hj=>(by rw[kp_E0 hld hpt] at hj;cases hj),λx K U _=>O x K U⟩
 obtain⟨F,D⟩:∃F,lI P h H o s=F:=⟨_,rfl⟩
 rw[D] at B go⊢;unfold lI at D;split at D
 ·
  rename_i t ax ay w hdn;replace D:B2 P H o s ax=F:=by
   rw[<-D];unfold Et;split
   .rename_i K U;exact absurd ⟨_,_,_,_,_,_,_,_,w,K,U⟩ hpt
   .rename_i K U;exact absurd ⟨_,_,_,_,_,_,_,_,_,w,K,U⟩ hct
   .rfl
  unfold B2 at D;split at D
  .rename_i id hx;subst D;obtain⟨sa,hsa,htg⟩:=dx.1 hx;have R:∀x,dW P h cC o x=none:=λx=>by simp[dW,w,eU]
   have V:=q;unfold step0 at V;rw[R] at V;simp only[mD,hdn,w,hsa] at V;split at V
   .rename_i K U;injection K with K;subst K;exact absurd ⟨_,_,_,_,_,_,_,_,w,hsa,U⟩ hpt
   .rename_i K U;injection K with K;subst K;exact absurd ⟨_,_,_,_,_,_,_,_,_,w,hsa,U⟩ hct
   .rename_i sa' sv _ hnr e1 hy;injection e1 with e1;subst e1;obtain⟨l1,l2,l3⟩:=LY V htg;refine go (l:=[]) ai (λt ht=>ht) λx K U=> ?_
    have Yp:∀y∈o.op.operands.toList,∀ty,bG P ty x y=bG P ty s y:=λy hy' ty=>jo (λu e=>K u (by
     subst e
     exact cT _ (fe.2 ⟨.tmp u,hy',rfl⟩))) ty
    have k1:=Yp ax (by rw[w];simp[Op.operands]) 0;have k2:=Yp ay (by rw[w];simp[Op.operands]) t;unfold step0;rw[R];have hsel:mD P h cC o x=storeAt P t x sa sv:=by simp only[mD,hdn,w,k1,k2,hsa,hy]
    simp only;rw[hsel,l3 x (U id ai) λj hj=>U j (dF _ (vk (P:=P) (x:=ay) (ty:=t) (by rw[w];simp[Op.operands]) hy hj))];congr 1;refine St.same (λu=> ?_) (λu=> ?_)
    .simp only[fK,nF,eF];exact(iz λ_=>rfl).symm
    .simp only[fK,bS];by_cases e:u=id
     .subst e;simp[c7]
     .rw[aA e,bR _ _ (λh=>e h.symm)];exact(iz Bc).symm
   .cases V
  .subst D;cases B
 ·
  rename_i t d w G;cases S:h.rows.contains d with
  |true=>rw[S] at D;subst D;cases B
  |false=>
   rw[S] at D;simp only[au] at D;subst D;have he:∀x,step0 P h cC o x=match Nb P h (some d) t with
    |some z=>some ((x.new d (.box t (z.map .pv))).set (some d) (.ptr d 0))
    |none=>none:=λx=>by
    have R:dW P h cC o x=none:=by simp[dW,w,eU]
    unfold step0;rw[R];simp only[mD,G,w,S,au];rfl
   rw[he] at q;split at q
   .rename_i z hz;injection q with q;subst q;refine go (l:=[(d,none)]) ai (λt ht=>ht) λx K U=> ?_
    rw[he,hz];simp only;rw[F4 (f:={ rs:=fq H o,ws:=[d],wo:=[d],mv:=[d] }) (s:=s) rfl rfl]
   .cases q
 ·
  rename_i t len I d w G;cases hby:h.fP.contains d with
  |true=>rw[hby] at D;subst D;cases B
  |false=>
  rw[hby] at D;simp only[au] at D;cases S:h.rows.contains d with
  |false=>rw[S] at D;subst D;cases B
  |true=>
   rw[S] at D;simp only[aj] at D;subst D;have he:∀x,step0 P h cC o x=match lu P t len I.toList x with
    |some (e,s,xs)=>match find h.nest d with
     |none=>some ((x.new d (.row e s xs)).set (some d) (.row d))
     |some (k,e',s')=>bif Nat.blt k s&&xs.all (qE k) then some ((x.new d (.rn e s k e' s' (xs.map λc=>c.set k .hole) (xs.map λ_=>some []))).set (some d) (.row d)) else none
    |none=>none:=λx=>by
    have R:dW P h cC o x=none:=by simp only[dW,w,G,rC,S,uA,aj]
    unfold step0;rw[R];simp only[mD,G,w,hby,au];rfl
   have hl:∀x:St,(∀t∈fq H o,x.env t=s.env t)->lu P t len I.toList x=lu P t len I.toList s:=λx K=>by
    unfold lu
    have hp:∀ty,partsOf P ty x I.toList=partsOf P ty s I.toList:=λty=>s6 (λy hy t=>jo (λu e=>K u (by
     subst e
     exact cT _ (fe.2 ⟨.tmp u,by rw[w];simpa[Op.operands] using hy,rfl⟩))) t)
    simp only[hp]
   rw[he] at q;obtain⟨ob,hs',O⟩:∃ob:Ob,s'=(s.new d ob).set (some d) (.row d)/\∀x:St,lu P t len I.toList x=lu P t len I.toList s->step0 P h cC o x=some ((x.new d ob).set (some d) (.row d)):=by
    split at q
    .rename_i e sz xs hlit;split at q
     .rename_i hn;injection q with q;exact⟨_,q.symm,λx hx=>by rw[he,hx,hlit];simp only[hn]⟩
     .rename_i k e' s2 hn;obtain⟨hb,q⟩:=rQ q;injection q with q;exact⟨_,q.symm,λx hx=>by rw[he,hx,hlit];simp only[hn,hb,aj]⟩
    .cases q
   subst hs';refine go (l:=[(d,none)]) ai (λt ht=>ht) λx K U=> ?_
   rw[O x (hl x K),F4 (f:={ rs:=fq H o,ws:=[d],wo:=[d],mv:=[d] }) (s:=s) rfl rfl]
 ·
  rename_i t I d w G;cases S:h.rows.contains d with
  |false=>rw[S] at D;subst D;cases B
  |true=>rw[S] at D;simp only[aj] at D;subst D;exact rows_fx w G S q B
 ·
  rename_i t l c d w G;subst D;have R:∀x,dW P h cC o x=none:=λx=>by simp[dW,w,eU]
  obtain⟨ob,hs',O⟩:∃ob:Ob,s'=(s.new d ob).set (some d) (.row d)/\∀x:St,(∀y∈o.op.operands.toList,∀ty,bG P ty x y=bG P ty s y)->step0 P h cC o x=some ((x.new d ob).set (some d) (.row d)):=by
   unfold step0 at q;rw[R] at q;simp only[mD,G,w] at q;split at q
   .rename_i e sz k1 nl k2 nc K U h3;split at q
    .rename_i z i hz hi;split at q
     .rename_i hc;injection q with q;refine⟨_,q.symm,λx hx=> ?_⟩;unfold step0;rw[R];simp only[mD,G,w,hx l (by rw[w];simp[Op.operands]) 0,hx c (by rw[w];simp[Op.operands]) 0,K,U,h3,hz,hi];rw[aB hc]
     .cases q
    .cases q
   .cases q
  subst hs';refine go (l:=[(d,none)]) ai (λt ht=>ht) λx K U=> ?_
  rw[O x (λy hy ty=>jo (λu e=>K u (by subst e;exact cT _ (fe.2 ⟨.tmp u,hy,rfl⟩))) ty),F4 (f:={ rs:=fq H o,ws:=[d],wo:=[d],mv:=[d] }) (s:=s) rfl rfl]
 .rename_i c w;split at D
  ·
   rename_i hc;unfold NS at D;split at D
   .rename_i x y t t' d hargs htys G;split at D
    .rename_i id hx;subst D;obtain⟨ob,hs',O⟩:=Zx w hc hargs htys G hx q;subst hs';refine go (l:=[(id,none)]) ai (λt ht=>ht) λx K U=> ?_
     rw[O x (λt ht=>K t (by simp[fq,ht])) U,F4 (f:={ rs:=fq H o,ws:=[d],ro:=id::CO s o,wo:=[id],mv:=[id] }) (s:=s) rfl rfl]
    .rename_i id hx;subst D;obtain⟨ob,hs',O⟩:=XO w hc hargs htys G hx q;subst hs';refine go (l:=[(id,none)]) ai (λt ht=>ht) λx K U=> ?_
     rw[O x (λt ht=>K t (by simp[fq,ht])) U,F4 (f:={ rs:=fq H o,ws:=[d],ro:=id::CO s o,wo:=[id],mv:=[id] }) (s:=s) rfl rfl]
    .subst D;cases B
   .subst D;cases B
  ·
   rename_i f hc;cases how2:(o.dst.any h.owns.contains&& !(o.dst.any (λd=>(wO h d).isSome))) with
   |false=>rw[how2] at D;simp only[au] at D;cases hmn:(!(o.dst.any h.owns.contains)&&(!(o.dst.any h.stay.contains)&&wide s c f)) with
    |false=>rw[hmn] at D;simp only[au] at D;cases how3:o.dst.any h.owns.contains with
     |false=>rw[how3] at D;subst D;cases B
     |true=>rw[how3] at D;simp only[aj] at D;subst D;exact gen_fx w hc how3 q B
    |true=>rw[hmn] at D;simp only[aj] at D;rw[<-D] at B⊢;simp only[aK,gO] at hmn;exact many_fx w hc hmn.1 hmn.2.1 hmn.2.2 q B
   |true=>
    rw[how2] at D;simp only[aj] at D;subst D;obtain⟨how,JB⟩:=lP.1 how2;have he:∀x,step0 P h cC o x=iI P h cC x c f o.dst:=λx=>by
     have R:dW P h cC o x=none:=by simp only[dW,w,hc,how,aj]
     unfold step0;rw[R];cases G:o.dst with
     |none=>rw[G] at how;cases how
     |some d=>rw[G] at how;simp only[mD,w,hc,G,how,aj]
    have Yp:∀x:St,(∀t∈fq H o,x.env t=s.env t)->∀y∈o.op.operands.toList,∀ty,bG P ty x y=bG P ty s y:=λx K y hy' ty=>jo (λu e=>K u (by
     subst e
     exact cT _ (fe.2 ⟨.tmp u,hy',rfl⟩))) ty
    rw[he] at q;unfold iI at q;split at q
    .rename_i d G;have hn:(wO h d).isSome=false:=by simpa[G] using JB
     have hgv:find h.ua d=none:=by cases hg:find h.ua d with
      |none=>rfl
      |some gv=>simp[wO,hg] at hn
     rw[hn,hgv] at q;simp only[] at q;split at q
     .rename_i g caps vs hf hvs;split at q
      rotate_left
      .rename_i cs' hr
       have:wO h d=none:=by simpa using hn
       rw[this] at q;cases q
      .cases q
      rename_i e sz xs hr;injection q with q;subst q;refine go (l:=[(d,none)]) (by simp[G]) (λt ht=>ht) λx K U=> ?_
      have k1:=Yp x K f (by rw[w];simp[Op.operands,Call.operands,hc]) 0;have k2:=Br (P:=P) (b:=false) (st:=x) (st':=s) (xs:=c.args.toList) (ts:=c.argTypes.toList) (λy hy=>Yp x K y (by rw[w];simp only[Op.operands,Call.operands,jd,bA];exact .inr hy));rw[he];unfold iI;rw[G];simp only[hgv,hn,k1,k2,hf,hvs,hr,au];exact aR some (F4 (f:={ rs:=fq H o,ws:=(some d).toList,wo:=(some d).toList,mv:=(some d).toList }) (s:=s) rfl rfl)
     .cases q
    .cases q
  .subst D;cases B
 .rename_i hq _;exact absurd ⟨_,_,hq⟩ hld
 .subst D;cases B
def Rp {ops:Array Oper} {o:Oper}:∀{l:List Nat} {s s':St},(mX l s).bind (step0 P h cC o)=some s'->(Mo P h ops o l s).all=false->∃ev ov m,jQ (λx=>(mX l x).bind (step0 P h cC o)) s (Mo P h ops o l s) ev ov m
 |[],s,s',q,w=>by simp only[mX,eG] at q⊢;simp only[Mo] at w⊢;cases z:isF h s o with
  |false=>simp_all[au,T3]
  |true=>rw[z] at w;simp only[aj] at w⊢;cases S:(isW o.op||isWc s o.op) with
   |false=>rw[S] at w;cases w
   |true=>simp only[aj];cases D:dW P h cC o s with
    |some v=>exact⟨_,_,_,S9 D⟩
    |none=>exfalso;unfold step0 at q;rw[D] at q;simp only at q;cases B:o.op with
     |buildSlice t len R=>
      simp only[isF,B] at z;obtain⟨z,G⟩:o.dst.any h.rows.contains=false/\o.dst.any h.fP.contains=false:=by simpa using z
      simp only[dW,B,z,G,Bool.or_self,au,Option.map_eq_none_iff] at D;cases H:o.dst with
      |none=>simp[mD,B,H] at q
      |some d=>rw[H] at G;simp only[rC] at G;simp only[mD,B,H,G,au,D] at q;cases q
     |build t R=>
      simp only[isF,B] at z;have z:o.dst.any h.rows.contains=false:=by simpa using z
      cases H:o.dst with
      |none=>simp[mD,B,H] at q
      |some d=>simp_all[mD,au]
     |load t x=>
      simp only[isF,B] at z;have z:o.dst.any h.take.contains=false:=by simpa using z
      cases H:o.dst with
      |none=>simp[mD,B,H] at q
      |some d=>simp_all[mD,au]
     |call c=>simp only[isW,B,ja,isWc] at S;cases hc:c.callee with
      |value f=>
       rw[hc] at S;simp only[gO] at S;have U:∀x∈c.args.toList,lC s x=false:=λx hx=>by grind
       have hag:c.args.toList.any (xd s)=false:=by rw[uy];intro x hx ha;have F:=U x hx;cases x with
        |tmp i=>simp only[xd] at ha;simp only[lC] at F;grind
        |_=>cases ha
       have oE:∀l:List Operand,(∀x∈l,lC s x=false)->mD.iq s l=some s:=by intro l;induction l with
        |nil=>intro _;rfl
        |cons x l ih=>
         intro hl;have F:=hl x ai;have h2:=ih λy hy=>hl y (by simp[hy])
         cases x with
         |tmp i=>simp only[mD.iq];simp only[lC] at F;grind
         |_=>exact h2
       have hpa:mD.jG s c.args.toList=some s:=by unfold mD.jG;rw[hag];exact oE _ U
       simp only[isF,B,hc,aK,gO,gA] at z;obtain⟨how,z⟩:=z
       have he:mD P h cC o s=(bif o.dst.any h.owns.contains then iI P h cC s c f o.dst else bif o.dst.any h.stay.contains&&wide s c f then none else bif wide s c f then jX P h cC s c f o.dst else bif c.args.toList.any (λx=>(pE h s x).isSome) then qa P h cC s c f o.dst else
        match mD.jG s c.args.toList with
        |some I=>match bG P 0 I f,jM P I c.args.toList c.argTypes.toList with
         |some (.pv (.fn g K)),some vs=>match cC g ((vs++K).map .pv) [] with
          |some (r,[])=>bif c.args.toList.any (lC I)|| !r.jF then none else some (I.set o.dst (.pv r))
          |_=>none
         |_,_=>none
        |none=>none):=by
        cases H:o.dst<;>simp only[mD,B,hc,H]<;>rfl
       rw[he,how] at q;simp only[au] at q;rcases z with z|z
       .simp_all
       .obtain⟨Ys,hrf⟩:=(jT).1 z;rw[Ys,hrf,hpa] at q;simp only at q;simp only[dW,B,hc] at D;rw[how,Ys,hrf] at D;split at q
        .rename_i g K vs F h2;rw[F,h2] at D;simp only at D;split at q
         .rename_i r hr;rw[hr] at D;simp[S] at D q;cases V:r.jF with
          |true=>rw[V] at D;cases D
          |false=>rw[V] at q;cases q
         simp_all
        simp_all
      |_=>simp_all
     |_=>simp[isW,isWc,B] at S
 |t::l,s,s',q,w=>by simp[mX] at q;cases F:qt s t with
  |none=>simp_all
  |some s1=>
   rw[F] at q;simp[Mo,F] at w⊢;have O :=by simp[gi.then,jT] at w;exact w.2
   obtain⟨ev,ov,m,r1⟩:=YP F;obtain⟨ev',ov',m',r2⟩:=Rp q O;have e1:=r1.at F;rw[e1] at r2;obtain⟨ev2,ov2,r3⟩:=Xw r1 r2;rw[<-e1] at r3;refine⟨ev2,_,_,r3.1,r3.2.1,λx k1 k2 k3=> ?_⟩;rw[<-r3.2.2 x k1 k2 k3];grind[mX]
theorem Yc {l:Array Oper} {k:Nat} {o:Oper} {s F:St} (U:l[k]? =some o) (V:ql l o s=some true) (B:step P h cC o s=some F) (w:((uu P h l o s).fill s F).all=false):
  ∃G O m,IM (qO P h cC l k) s ((uu P h l o s).fill s F) G O m/\Qi s ((uu P h l o s).fill s F):=by
 have z :=by simp[uu,gi.then,rB] at w;exact w
 obtain⟨G,O,m,r⟩:=Rp B z;have D:jQ (step P h _ o) s (uu P h l o s) _ _ m:=r.imp (λt q=>by simp[uu,gi.then,q]) (λt q=>by simp[uu,gi.then,q]) (λt q=>by simp[uu,gi.then,q]) (λt=>by rfl) (λt=>by rfl) (λt q=>by simp[uu,gi.then,q]) (λt q K=>by simp_all[uu,gi.then]);have e:=D.at B;refine NP D.1 (λx H R S=> ?_) λj I K=> ?_
 rotate_left
 .rw[e,skO I];exact D.2.1 j I K
 simp[qO,U];rw[zR λt q=>H t (by simp[uu,gi.then,q]),V];simp only;rw[D.2.2 x H R S,e];congr 1;refine St.same (λt=> ?_) (λj=> ?_)
 .simp[fK];simp_all
 .simp[fK];simp_all
def run_of {w:Array Oper}:∀(l:List Oper) (i:Nat) (z:List (Nat×gi)) (B s:St),(∀k o,l[k]? =some o->w[i+k]? =some o)->kz P h cC w i l z B=some s->
  ∃F:List (Nat×gi),F.length=l.length/\(∀j,j∈F.map (·.1)↔i<=j/\j<i+l.length)/\F.Pairwise (λp q=>p.1<q.1)/\Nf (qO P h cC w) F B s/\
   (∀p∈z,∀q∈F,p.2.conflict q.2=true->reach w 12 q.1 p.1=true)/\F.Pairwise (λp q=>p.2.conflict q.2=true->reach w 12 q.1 p.1=true):=by
 intro l;induction l with
 |nil=>intro i z B s _ D;simp only[kz,aM] at D;exact⟨[],rfl,by simp, .nil,D,by simp, .nil⟩
 |cons o l ih=>
  intro i z B s R D;have V:w[i]? =some o:=by simpa using R 0 o ai
  have H:∀(f:gi) (G:St),qO P h cC w i B=some G->(f.all=false->∃ev ov m,IM (qO P h cC w i) B f ev ov m/\Qi B f)->xw w z i f=true->kz P h cC w (i+1) l ((i,f)::z) G=some s->
    ∃F:List (Nat×gi),F.length=(o::l).length/\(∀j,j∈F.map (·.1)↔i<=j/\j<i+(o::l).length)/\F.Pairwise (λp q=>p.1<q.1)/\Nf (qO P h cC w) F B s/\
     (∀p∈z,∀q∈F,p.2.conflict q.2=true->reach w 12 q.1 p.1=true)/\F.Pairwise (λp q=>p.2.conflict q.2=true->reach w 12 q.1 p.1=true):=λf G h1 h2 h3 h4=>by
   obtain⟨F,k0,k1,k2,k3,k4,k5⟩:=ih (i+1) ((i,f)::z) G s (λk o' hk=>by
    have:=R (k+1) o' (by assumption)
    grind) h4
   refine⟨(i,f)::F,by simp[k0],λj=> ?_, .cons (λq O=> ?_) k2,⟨G,h1,h2,k3⟩,λp hp q O K=> ?_, .cons (λq O=>k4 (i,f) ai q O) k5⟩
   .simp only[bu,aI,k1,bw];omega
   .have:=(k1 q.1).1 (aD.2 ⟨q,O,rfl⟩);omega
   .rcases aI.1 O with rfl|O
    .have:=cF.1 h3 p hp;simpa[K] using this
    grind
  simp only[kz] at D;split at D
  .cases D
  .rename_i b hw;cases b with
   |false=>simp only[au] at D;cases I:xw w z i ((tD w o).fill B (B.set o.dst .undef)) with
    |false=>simp[I] at D
    |true=>simp only[I,aj] at D;exact H _ _ (by simp only[qO,V,hw]) (λ_=>skip_ok V hw) I D
   |true=>cases hF:(isF h B o&&(EU h o).isEmpty) with
    |true=>
     have S :=by simp only[aK] at hF;exact yH.1 hF.2
     simp[hF] at D;cases U:dW P h cC o B with
     |none=>simp[U] at D
     |some v=>simp[U] at D;cases K:xw w z i ((vC P h w o B).fill B (B.set o.dst v)) with
      |false=>simp[K] at D
      |true=>simp[K] at D;exact H _ _ (by simp[qO,V,hw,step,S,mX,eG,step0,U]) (λ_=>ac3 V hw S U) K D
    |false=>cases hs:step P h cC o B with
     |none=>simp_all
     |some G=>cases K:xw w z i ((uu P h w o B).fill B G) with
      |false=>simp_all
      |true=>grind[qO,Yc]
def X5:∀{l:List Oper} {i:Nat},sN i l=true->∀(p:Nat) (o:Oper),l[p]? =some o->∀e∈o.after.toList,Region.binds .any e=true->e.on<i+p:=by intro l;induction l with
 |nil=>simp
 |cons x l D=>intro i w p o q e z B;simp only[sN,aK] at w;cases p with
  |zero=>simp at q;subst q;have:=cF.1 w.1 e z;simp_all
  |succ p=>grind
def OY {l:Array Oper} {D:Nat->Prop} (w:∀j o,D j->l[j]? =some o->∀e∈o.after.toList,Region.binds .any e=true->D e.on):
  ∀(n i j:Nat),(∀o,l[i]? =some o->∀e∈o.after.toList,Region.binds .any e=true->D e.on)->reach l n i j=true->D j:=by
 intro n;induction n with
 |zero=>simp_all[reach]
 |succ n B=>intro i j q h;simp[reach] at h;cases z:l[i]? with
  |none=>grind
  |some o=>
   simp[z,gA] at h;rcases h with h|h
   .simp[Z0] at h;grind[beq_iff]
   grind
def Rel.dA {N:Nat} {w0:World} {μ0:Mu} {L:sI} {μ:Mu} {F:Nat->Value} {z:St} {a:Act} {w:World} (H:Rel N w0 μ0 L μ F z a w) (id:Nat):Rel N w0 μ0 L μ F (z.dA id) a w:=by
 have l:∀j o,(z.dA id).ob j=some o->∃G,z.ob j=some G/\o=G.dA id:=λj o q=>by
  simp[St.dA] at q;by_cases e:id=j
  .subst e;simp[c7] at q
  .simp[bR _ _ e] at q;cases B:z.ob j with
   |none=>simp_all
   |some G=>simp_all
 refine { H with env:=λi sv K=> ?_,obs:=λj o q=> ?_,apart:=λi j oi oj hi hj=> ?_ }
 .simp[St.dA] at K;cases B:z.env i with
  |none=>simp_all
  |some s=>simp[B] at K;subst K;obtain⟨v,hv,hs⟩:=H.env i s B;simp_all[jA]
 .obtain⟨G,D,rfl⟩:=l j o q;have:=H.obs j _ D;cases G with
  |row e sz xs=>exact this
  |mp k e ks I=>exact this
  |mr k e s ks I=>exact this
  |rn e s k e' s' xs ys=>exact this
  |it s n=>exact this
  |lp s=>exact this
  |box t cells=>obtain⟨b,I,B,h2,S,h4,U,V⟩:=this;refine⟨b,I,B,h2,S,h4,?_,V⟩;clear S V D q;induction cells generalizing I with
   |nil=>exact U
   |cons c cs ih=>obtain⟨u,us,rfl,k1,k2⟩:=U;exact⟨u,us,rfl,jA k1,ih _ k2⟩
 .obtain⟨oi',O,_⟩:=l i _ hi;obtain⟨oj',R,_⟩:=l j _ hj;exact H.apart i j _ _ O R
def Rel.r7 {N:Nat} {w0:World} {μ0:Mu} {L:sI} {D:Mu} {q:Nat->Value} {a:Act} {w:World}:∀(l:List Nat) (B:St),Rel N w0 μ0 L D q B a w->Rel N w0 μ0 L D q (AM.r7 l B) a w
 |[],_,z=>z
 |p::l,B,z=>Rel.r7 l _ (z.dA p)
end
section
variable {P:Program} {N:Nat} {w0:World} {μ0:Mu} {L:sI} {h:Hint} {cC:eM} {Q:Exit->Act->World->Prop}
def TY (wI:iw L.q μ0 P cC) {z:Array Oper} {st stF:St} (hedges:sN 0 z.toList=true)
  (hrun:kz P h cC z 0 z.toList [] (r7 (xK z.toList) st)=some stF) (hd:∀o∈z.toList,∀i,o.dst=some i->i<N)
  (hQ:∀a' w' μ' O,Rel N w0 μ0 L μ' O stF a' w'->Q .normal a' w') {μ:Mu} {loc:Nat->Value} {a:Act} {w:World} (hR:Rel N w0 μ0 L μ loc st a w) {F:Fence} (hF:Wd F):
  wpAnyIn F 0 P .any z Q z.size (Array.replicate z.size false) a w:=by
 obtain⟨fs0,hl0,hm0,hs0,hr0,_,hp0⟩:=run_of z.toList 0 [] _ _ (λk o hk=>by simp_all) hrun;let D:Array Bool->Nat->Prop:=λl j=>l.getD j false=true
 have main:∀(B:Nat) (l:Array Bool) (a:Act) (w:World) (μ:Mu) (loc:Nat->Value) (fs:List (Nat×gi)) (x:St),l.size=z.size->fs.length<=B->
   (∀j o,D l j->z[j]? =some o->∀e∈o.after.toList,Region.binds .any e=true->D l e.on)->
   (∀j,j∈fs.map (·.1)↔j<z.size/\¬D l j)->fs.Pairwise (λp q=>p.1<q.1)->Nf (qO P h cC z) fs x stF->fs.Pairwise (λp q=>p.2.conflict q.2=true->reach z 12 q.1 p.1=true)->Rel N w0 μ0 L μ loc x a w->
   wpAnyIn F 0 P .any z Q B l a w:=by
  intro B;induction B with
  |zero=>intro l a w μ loc fs x hsz hle hcl G _ I _ R;have JB:fs=[]:=kR af;subst JB;have hx:x=stF:=I;subst hx;refine⟨?_,hQ _ _ _ _ R⟩;unfold Region.ready;apply yG.2;grind
  |succ B ih=>
   intro l a w μ loc fs x hsz hle hcl G K I G2 R;have hready:∀i,i∈Region.ready .any z l->∃o,z[i]? =some o/\i<z.size/\¬D l i/\∀e∈o.after.toList,Region.binds .any e=true->D l e.on:=by
    intro i hi;unfold Region.ready at hi;simp only[cE,gp,aK,gO] at hi;obtain⟨U,hnl,H⟩:=hi;have ho:z[i]? =some (z[i]'U):=Ay U;refine⟨_,ho,U,?_,?_⟩
    .have hl':i<l.size:=by omega
     have:l[i]=false:=by simpa[Array.getD,hl'] using hnl
     simp[D,Array.getD,hl',this]
    .intro e he hb;simp only[ho,cV,nE] at H;have:=DP.1 H e (by simpa using he);simpa[hb,D] using this
   have aaA:∀i,i<z.size->∀j,D (l.setIfInBounds i true) j↔(D l j\/j=i):=by
    intro i hi j;have hl':i<l.size:=by omega
    by_cases S:j<l.size
    .by_cases e:i=j
     .subst e;simp[D,Array.getD,S]
     .have e':j≠i:=λh=>e h.symm
      simp[D,Array.getD,S,e,e',Array.getElem_setIfInBounds]
    .have e':j≠i:=λh=>by subst h;exact S hl'
     have h1:(l.setIfInBounds i true).getD j false=false:=by simp[Array.getD,S]
     have h2:l.getD j false=false:=by simp[Array.getD,S]
     simp only[D,h1,h2,e',pV]
   refine⟨λJB=> ?_,λi hi=> ?_⟩
   ·
    cases fs with
    |nil=>have hx:x=stF:=I;subst hx;exact hQ _ _ _ _ R
    |cons p fs=>
     exfalso;have hp:=(G p.1).1 ai;have hlow:∀k,k<p.1->D l k:=λk hk=>ef λhn=>by
      have:=(G k).2 ⟨af,hn⟩;simp only[bu,aI] at this;rcases this with e|hk'
      .omega
      .obtain⟨q,hq,rfl⟩:=aD.1 hk';have:=(dO.1 K).1 q hq;omega
     have ho:z[p.1]? =some (z[p.1]'hp.1):=Ay hp.1;have hs2:=X5 hedges p.1 (z[p.1]'hp.1) ai;have hl':p.1<l.size:=by omega
     have hmem':p.1∈Region.ready .any z l:=by
      unfold Region.ready;simp only[cE,gp,aK,gO];refine⟨hp.1,?_,?_⟩
      .grind
      .simp only[ho,cV,nE];apply DP.2;intro e he;cases hb:Region.binds .any e with
       |false=>rfl
       |true=>have:=hlow e.on (by simpa using hs2 e (by simpa using he) hb);simpa[D] using this
     rw[JB] at hmem';cases hmem'
   .obtain⟨o,ho,U,hnD,H⟩:=hready i hi;obtain⟨p,hpm,hpe⟩:=aD.1 ((G i).2 ⟨U,hnD⟩);obtain⟨pre,post,rfl⟩:=DQ hpm;subst hpe;have hpre:∀q∈pre,q.2.conflict p.2=false:=λq hq=>by
     cases hc:q.2.conflict p.2 with
     |false=>rfl
     |true=>have hr:=(rD.1 G2).2.2 q hq p ai hc;have:=OY hcl 12 p.1 q.1 (λo' ho'=>by rw[ho] at ho';injection ho' with ho';subst ho';exact H) hr;exact absurd this ((G q.1).1 (by simp only[bZ,bA];exact .inl (aD.2 ⟨q,hq,rfl⟩))).2
    obtain⟨s1,V,hruns',_⟩:=Nf.front (i:=p.1) (f:=p.2) pre x I hpre;have hnext:∀a' w' μ' O,Rel N w0 μ0 L μ' O s1 a' w'->wpAnyIn F 0 P .any z Q B (l.setIfInBounds p.1 true) a' w':=λa' w' μ' O hR'=>by
     have hnp:∀q∈pre++post,q.1≠p.1:=λq hq e=>by
      rcases bA.1 hq with h1|h1
      .have:=(rD.1 K).2.2 q h1 p (by simp);omega
      .have:=(dO.1 (rD.1 K).2.1).1 q h1;omega
     refine ih _ a' w' μ' O (pre++post) s1 (by simp[hsz]) (by simp at hle⊢;omega) (λj oj S hoj e he hb=> ?_) (λj=> ?_) (K.sublist ai) hruns' (G2.sublist ai) hR'
     .grind
     .rw[aaA _ U];have:=G j;simp only[bZ,bu,bA,aI] at this⊢;constructor
      .intro S;obtain⟨k1,k2⟩:=this.1 (S.elim .inl λh=> .inr (.inr h));refine⟨k1,λh=>h.elim k2 λe=> ?_⟩;subst e;rcases S with S|S<;>obtain⟨q,hq,e⟩:=aD.1 S<;>exact hnp q (by simp[hq]) e
      .rintro⟨k1,k2⟩;rcases this.2 ⟨k1,λh=>k2 (.inl h)⟩ with h1|h1|h1
       .exact .inl h1
       .exact absurd (.inr h1) k2
       .exact .inr h1
    have hdo :=hd o (by grind);unfold wpOpIn;simp[ho];simp[qO,ho] at V;split at V
    .rename_i hw;rw[zS R hw];exact KI R wI hdo V hnext F hF
    .rename_i hw;injection V with V;subst V;rw[zS R hw];exact⟨λf _=>hF.fn f,hnext _ _ _ _ (R.set hdo (rfl))⟩
    simp_all
 have hnone:∀j,¬D (Array.replicate z.size false) j:=λj=>by by_cases S:j<z.size<;>simp[D,Array.getD]
 refine main _ _ a w _ _ _ _ ai (by simp[hl0]) (λj o S=>absurd S (hnone j)) (λj=> ?_) hs0 hr0 hp0 (Rel.r7 _ _ hR);simp_all
end
