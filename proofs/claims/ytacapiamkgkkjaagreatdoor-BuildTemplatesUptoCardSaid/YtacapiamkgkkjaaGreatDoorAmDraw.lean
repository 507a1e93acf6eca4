/- THE ABSTRACT MACHINE. -/
import Derived.Test.YtacapiamkgkkjaaGreatDoorAmRun
set_option linter.all false
namespace Go.AM
open Go.RowKit
section
variable {P:Program} {h:Hint} {cr:eX}
def jA {st l:St} {x:Operand} (q:∀t,x= .tmp t->st.env t=l.env t) (ty:TypeId):bw P ty st x=bw P ty l x:=by cases x with
 |tmp t=>exact q t rfl
 |_=>rfl
def OJ (P:Program) (q l:St) (x:Operand):Prop:=∀ty w,bw P ty q x=some w->∀id∈w.ids,q.ob id=l.ob id
def xx {q l:St} {v:SV} (z:∀id∈v.ids,q.ob id=l.ob id):elems q v=elems l v:=by cases v with
 |sub id s B w=>grind[elems,SV.ids]
 |row id=>grind[elems,SV.ids]
 |pv x=>cases x<;>rfl
 |_=>rfl
def TU {w l:St} {v:SV} (z:∀id∈v.ids,w.ob id=l.ob id):lenOf w v=lenOf l v:=by cases v with
 |row id=>grind[lenOf,SV.ids]
 |pv x=>cases x<;>rfl
 |aq _ q=>cases q<;>rfl
 |_=>rfl
def K4 {q l:St} {v:SV} (w:∀id∈v.ids,q.ob id=l.ob id):maps q v=maps l v:=by cases v with
 |row id=>grind[maps,SV.ids]
 |pv x=>cases x<;>rfl
 |_=>rfl
def WB {z l:St} {v:SV} (B:∀id∈v.ids,z.ob id=l.ob id):nj z v=nj l v:=by cases v with
 |row id=>grind[nj,SV.ids]
 |ag w=>
  have key:∀w:List _,(∀id∈(SV.ag w).ids,z.ob id=l.ob id)->kY z w=kY l w:=by intro w;induction w with
   |nil=>intro _;rfl
   |cons c w D=>grind[SV.ids,kY]
  simp[nj,key _ B]
 |aq id q=>cases q with
  |full=>rfl
  |bs n=>rfl
  |nr i=>grind[nj,SV.ids]
 |_=>rfl
def M3 {st st':St} {xs:List Operand} {ts:List TypeId} (l:∀x∈xs,OJ P st st' x) (w:∀x∈xs,∀ty,bw P ty st x=bw P ty st' x):j8 P st xs ts=j8 P st' xs ts:=by induction xs generalizing ts with
 |nil=>rfl
 |cons x xs B=>
  have z:(bw P (ts.headD 0) st x).bind (nj st)=(bw P (ts.headD 0) st' x).bind (nj st'):=by rw[<-w x ai];cases q:bw P _ _ x with
   |none=>rfl
   |some D=>exact WB (l x ai _ _ q)
  simp_all[j8]
def B1 {st st':St} {b:Bool}:∀{xs:List Operand} {ts:List TypeId},(∀x∈xs,∀ty,bw P ty st x=bw P ty st' x)->sW P b st xs ts=sW P b st' xs ts
 |[],_,_=>rfl
 |x::xs,ts,l=>by simp[sW,Qv];rw[l x ai,B1 (λy q=>l y (by simp[q]))]
theorem ua {w q:St} {ty:Nat->TypeId} {l:List (Nat×Operand)} (z:∀x∈l.map (·.2),∀t,bw P t w x=bw P t q x):partsOf P ty w l=partsOf P ty q l:=by induction l with
 |nil=>rfl
 |cons p l B=>simp_all[partsOf]
theorem AY {z w:St} {b:Bool} {q:AV} {l:List Operand} (B:∀x∈l,∀t,bw P t z x=bw P t w x):nM P z b q l=nM P w b q l:=by induction l generalizing q with
 |nil=>rfl
 |cons x l D=>simp_all[nM]
def Ul {B l:St} {c:Call} (q:∀x∈c.args.toList,OJ P B l x) (G:∀x∈c.args.toList,∀ty,bw P ty B x=bw P ty l x):yV P c B=yV P c l:=by
 obtain⟨H,⟨args⟩,tys⟩:=c;unfold yV;simp at G q⊢;split
 .rename_i x;have z:=G x ai;have w:=q x ai;split
  .rename_i t _;rw[<-z t];cases F:bw P t _ x with
   |none=>simp
   |some I=>have:=TU (w t _ F);have D:=K4 (w t _ F);grind
  .rfl
 .grind[AY]
 .grind[AY]
 .rfl
def Dw {st st':St} {x:Option Operand} (l:∀y,x=some y->∀ty,bw P ty st y=bw P ty st' y):oz P st x=oz P st' x:=by cases x with
 |none=>rfl
 |some y=>simp[oz,l y _]
def W9 {B w:St} {o:Oper} (D:Ud o.op=false->∀x∈o.op.operands.toList,OJ P B w x) (q:∀x∈o.op.operands.toList,∀ty,bw P ty B x=bw P ty w x):fe P o B=fe P o w:=by obtain⟨dst,op,type,pos,after,guard⟩:=o;simp only at q;cases op with
 |move x=>simp_all[Op.operands,fe]
 |assign x=>simp_all[Op.operands,fe]
 |pick c a b=>simp_all[Op.operands,fe]
 |binOp op t x y t'=>simp_all[Op.operands,fe]
 |unOp op t x=>simp_all[Op.operands,fe]
 |convert s d x=>
  have z:=q x (by simp[Op.operands]);have G:=D rfl x (by simp[Op.operands]) s;have he:(bw P s B x).bind (elems B)=(bw P s w x).bind (elems w):=by rw[<-z s];cases F:bw P s B x with
   |none=>rfl
   |some I=>exact xx (G _ F)
  simp only[fe,z 0,he]
 |nilCheck x=>simp_all[Op.operands,fe]
 |fieldAddr t x f=>simp_all[Op.operands,fe]
 |field t x f=>simp_all[Op.operands,fe]
 |indexAddr t x i=>
  have z:=q x (by simp[Op.operands]);have S:=q i (by simp[Op.operands]);have G:=D rfl x (by simp[Op.operands]) t;have hsl:xD P B t x i=xD P w t x i:=by unfold xD;rw[<-z t,<-S 0];cases F:bw P t B x with
   |none=>simp
   |some I=>have H:=G _ F;grind[isSlice,id,bw,SV.ids]
  simp_all[D0,fe]
 |index t x i=>simp_all[Op.operands,fe]
 |load t x=>have z:=q x (by simp[Op.operands]);have G:=D rfl x (by simp[Op.operands]) 0;simp only[fe];rw[<-z 0];cases F:bw P 0 B x with
  |none=>rfl
  |some I=>have H:=G _ F;grind[id,SV.ids]
 |lookup t x k ok=>
  have z:=q x (by simp[Op.operands]);have hk:=q k (by simp[Op.operands]);have G:=D rfl x (by simp[Op.operands]) t;have R:(bw P t B x).bind (maps B)=(bw P t w x).bind (maps w):=by rw[<-z t];cases F:bw P t B x with
   |none=>rfl
   |some I=>exact K4 (G _ F)
  have O:(bw P t B x).bind (Ij B)=(bw P t w x).bind (Ij w):=by rw[<-z t];cases F:bw P t B x with
   |none=>rfl
   |some I=>have:=G _ F;cases I with
    |row id=>grind[Ij,id,SV.ids]
    |_=>rfl
  simp only[fe,R,hk,O]
 |extract x i=>simp_all[Op.operands,fe]
 |slice t x lo V mx=>cases mx with
  |some m=>simp only[fe,XZ];cases lo with
   |some l=>rfl
   |none=>cases V with
    |none=>rfl
    |some y=>have z:=q x (by simp[Op.operands]);have S:=q y (by simp[Op.operands]);have R:=q m (by simp[Op.operands]);have G:=D rfl x (by simp[Op.operands]) t;simp only;rw[<-S 0,<-R 0,<-z t];cases F:bw P t B x with
     |none=>rfl
     |some I=>have H:=G _ F;grind[id,SV.ids]
  |none=>have z:=q x (by simp[Op.operands]);have hl:=Dw (P:=P) (st:=B) (st':=w) (x:=lo) (λy e=>by simp_all[Op.operands]);have hh:=Dw (P:=P) (st:=B) (st':=w) (x:=V) (λy e=>by simp_all[Op.operands]);have G:=D rfl x (by simp[Op.operands]) t;simp[fe];rw[<-z t];cases F:bw P t _ x with
   |none=>simp
   |some I=>have H:=G _ F;grind[SV.ids]
 |build t U=>grind[ua,Op.operands,fe,zX]
 |call c=>
  have K:∀x∈c.args.toList,x∈(Op.call c).operands.toList:=λx z=>by simp_all[Op.operands,Call.operands]
  have:=Ul (λx z=>D rfl x (K x z)) (λx z=>q x (K x z));assumption
 |_=>simp[fe]
def vR {D:St}:∀{l:List Operand} {x:Operand} {ty:TypeId} {B:SV} {id:Nat},x∈l->bw P ty D x=some B->id∈B.ids->id∈NQ D l:=by intro l;induction l with
 |nil=>simp
 |cons y l F=>
  intro x ty B id z w q;rcases aJ.1 z with rfl|z
  .cases x with
   |tmp t=>simp_all[bw,NQ]
   |const v=>simp[bw] at w;cases G:ofConst P ty v with
    |none=>simp_all
    |some y=>grind[SV.ids]
   |func f=>grind[bw,SV.ids]
   |global g=>simp[bw] at w
  .have:=F z w q;cases y with
   |tmp t=>simp_all[NQ]
   |_=>assumption
def yc (q:St):∀(n:Nat) (l done:List Nat),∀id∈done,id∈gN q n l done
 |0,l,done,id,h=>by assumption
 |n+1,[],done,id,h=>by assumption
 |n+1,x::l,done,id,h=>by simp only[gN];cases done.contains x with
  |true=>exact yc _ n _ _ _ h
  |false=>exact yc _ n _ _ _ (by simp[h])
def pV {w q:St}:∀(n:Nat) (l done:List Nat),(∀id∈gN w n l done,w.ob id=q.ob id)->gN w n l done=gN q n l done
 |0,l,done,h=>by rfl
 |n+1,[],done,h=>by rfl
 |n+1,x::l,done,h=>by simp only[gN] at h⊢;cases z:done.contains x with
  |true=>rw[z] at h;exact pV n _ _ h
  |false=>
   rw[z] at h;have D :=h x (yc _ n _ _ x ai);have B:CC w x=CC q x:=by simp[CC,D]
   rw[<-B];exact pV n _ _ h
def tX {z w:St} {ids:List Nat} {B:Nat->Nat}:∀{l:List (Nat×Nat)},(∀p∈l,z.ob p.1=w.ob p.1)->kg z ids B l=kg w ids B l
 |[],_=>rfl
 |p::l,h=>by obtain⟨id,F⟩:=p;simp[kg];rw[h (id,F) ai,tX (λq D=>h q (by simp[D]))]
def zV {z l:St}:∀{xs:List Operand} {q:List TypeId},(∀x∈xs,∀ty,bw P ty z x=bw P ty l x)->uM P h z xs q=uM P h l xs q
 |[],q,_=>rfl
 |x::xs,q,w=>by simp[uM,abG];rw[w x ai,zV (λy B=>w y (by simp[B]))]
def OX {st st':St} {c:Call} {f:Operand} (D:bw P 0 st f=bw P 0 st' f) (B:∀x∈c.args.toList,∀ty,bw P ty st x=bw P ty st' x)
  (l:∀g args,uU P h st c f=some (g,args)->∀id∈jK st args,st.ob id=st'.ob id):tI P h cr st c f=tI P h cr st' c f:=by
 have e1:uU P h st c f=uU P h st' c f:=by unfold uU;rw[D,zV B]
 unfold tI;rw[<-e1];cases G:uU P h _ c f with
 |none=>rfl
 |some p=>
  obtain⟨g,args⟩:=p;simp only;have q:=l g _ G;have w:jK _ _=jK _ _:=pV _ _ _ q;rw[<-w];have z:kg _ (jK st args) (iV (mV (jK st args))) (mV (jK st args))=kg _ _ _ _:=
   tX (λp F=>q _ (by
    have:p.1∈(mV _).map _:=aG.2 ⟨p,F,rfl⟩
    simp_all[mV,uw]))
  rw[z]
def VV {D q:St} {o:Oper} (H:Ud o.op=false->∀id∈Dv D o,D.ob id=q.ob id) (R:∀id∈LO P h o D,D.ob id=q.ob id) (G:∀t∈slotsOf o,D.env t=q.env t):ec P h cr o D=ec P h cr o q:=by
 have K:Ud o.op=false->∀x∈o.op.operands.toList,OJ P D q x:=λhn x F ty sv ho id U=>H hn id (vR F ho U)
 have z:∀x∈o.op.operands.toList,∀ty,bw P ty D x=bw P ty q x:=λx F ty=>jA (λt e=>G t (by
  subst e
  exact fC.2 ⟨.tmp t,F,rfl⟩)) ty
 have I:=W9 (P:=P) (o:=o) K z;obtain⟨S,op,type,pos,after,guard⟩:=o;simp only at z;cases op with
 |buildSlice t len O=>
  have hp:∀ty,partsOf P ty D O.toList=partsOf P ty q O.toList:=λty=>ua (λx F=>z x (by simpa[Op.operands] using F))
  simp[ec,lX,hp]
 |call c=>obtain⟨cal,⟨args⟩,⟨tys⟩⟩:=c;cases cal with
  |value f=>
   have w:∀x∈args,x∈(Op.call { callee:=Callee.value f,args:=⟨args⟩,argTypes:=⟨tys⟩ }).operands.toList:=λx F=>by simp_all[Op.operands,Call.operands,gY,bf]
   have hf:=z f (by simp[Op.operands,Call.operands]);have ha:=M3 (P:=P) (st:=D) (st':=q) (xs:=args) (ts:=tys) (λx F=>K rfl x (w x F)) (λx F=>z x (w x F));have hr:args.any (lZ D)=args.any (lZ q):=by
    have key:∀x∈args,lZ D x=lZ q x:=λx F=>by cases x with
     |tmp t=>have:=z (.tmp t) (w _ F) 0;simp_all[bw,lZ]
     |_=>rfl
    clear ha w z I G K H R;induction args with
    |nil=>rfl
    |cons x xs ih=>simp_all
   have V:args.any (λx=>(qb h D x).isSome)=args.any (λx=>(qb h q x).isSome):=by
    have key:∀x∈args,qb h D x=qb h q x:=λx F=>by cases x with
     |tmp t=>have:=z (.tmp t) (w _ F) 0;simp_all[bw,qb]
     |_=>rfl
    clear ha w z I G hr K H R;induction args with
    |nil=>rfl
    |cons x xs ih=>simp_all
   have hwide:wide D { callee:=Callee.value f,args:=⟨args⟩,argTypes:=⟨tys⟩ } f=wide q { callee:=Callee.value f,args:=⟨args⟩,argTypes:=⟨tys⟩ } f:=by
    have kf:Wb D f=Wb q f:=by cases f with
     |tmp t=>simp_all[bw,Wb]
     |_=>rfl
    have key:∀x∈args,Fh D x=Fh q x:=λx F=>by cases x with
     |tmp t=>have:=z (.tmp t) (w _ F) 0;simp_all[bw,Fh]
     |_=>rfl
    have kk:args.any (Fh D)=args.any (Fh q):=by clear ha w z I G hr K H V R;induction args with
     |nil=>rfl
     |cons x xs ih=>simp_all
    simp only[wide,kf,kk]
   cases how:S.any h.owns.contains with
   |true=>simp[ec,how]
   |false=>
   cases hst:S.any h.stay.contains with
   |false=>simp_all[ec]
   |true=>
    have hc:=OX (P:=P) (h:=h) (cr:=cr) (st:=D) (st':=q) (c:={ callee:=Callee.value f,args:=⟨args⟩,argTypes:=⟨tys⟩ }) (f:=f) (hf 0) (λx F=>z x (w x F)) (λg as hg id U=>R id (by simp_all[LO,aj]));simp_all[ec]
  |_=>assumption
 |makeFunc f first B=>cases f with
  |func g=>
   have hc:uN D B.toList=uN q B.toList:=by
    have key:∀x∈B.toList,∀ty,bw P ty D x=bw P ty q x:=λx F=>z x (by simp_all[Op.operands,gY,bf])
    clear z I G K H;generalize B.toList=l at key;induction l with
    |nil=>rfl
    |cons x xs ih=>cases x with
     |tmp t=>simp_all[bw,uN]
     |_=>rfl
   have RY:rK D B.toList=rK q B.toList:=by
    have key:∀x∈B.toList,∀ty,bw P _ _ x=bw P _ _ x:=λx F=>z x (by simp_all[Op.operands])
    generalize B.toList=l at key;induction l with
    |nil=>rfl
    |cons x xs ih=>cases x with
     |tmp t=>simp_all[bw,rK]
     |_=>rfl
   have hc3:rK D first.toList=rK q first.toList:=by
    have key:∀x∈first.toList,∀ty,bw P _ _ x=bw P _ _ x:=λx F=>z x (by simp_all[Op.operands])
    generalize first.toList=l at key
    induction l with
    |nil=>rfl
    |cons x xs ih=>cases x with
     |tmp t=>simp_all[bw,rK]
     |_=>rfl
   simp[ec,hc,RY,hc3]
  |_=>rfl
 |assign x=>simp[ec,I]
 |lookup t x k ok=>simp[ec,I]
 |build t ps=>grind[ua,Op.operands,ec,zX]
 |load t x=>simp[ec,I]
 |_=>assumption
def AL {z q:St} {l:Array Oper} {o:Oper} (w:∀t∈fH l o,z.env t=q.env t):qN l o z=qN l o q:=by grind[qN,fH]
theorem aaA {a b:List Nat} {x:Nat} (l:x∈a) (q:x∈b):meets a b=true:=by simp[meets];grind[Nat.beq_refl]
def Ng {t:TypeId} {s D:St} {F w:SV} {id:Nat} (l:storeAt P t s F w=some D) (z:targetId F=some id):
  D.env=s.env/\(∀j,j≠id->D.ob j=s.ob j)/\∀x:St,x.ob id=s.ob id->(∀j∈w.ids,x.ob j=s.ob j)->storeAt P t x F w=some { x with ob:=put x.ob id (D.ob id) }:=by
 have H:∀x:St,(∀j∈w.ids,x.ob j=s.ob j)->pH x w=pH s w:=λx B=>by cases w with
  |row j=>simp_all[pH,SV.ids]
  |pv v=>cases v<;>rfl
  |_=>rfl
 cases F with
 |ptr i G=>
  simp[targetId,aW] at z;subst z;simp[storeAt] at l;split at l
  .split at l
   .split at l
    .injection l with l;subst l;refine⟨rfl,λj q=>bS _ _ (λe=>q e.symm),λx B _=> ?_⟩;simp_all[storeAt,di]
    simp_all
   .split at l
    .injection l with l;subst l;refine⟨rfl,λj q=>bS _ _ (λe=>q e.symm),λx B _=> ?_⟩;simp_all[storeAt,di]
    simp_all
   .split at l
    .injection l with l;subst l;refine⟨rfl,λj q=>bS _ _ (λe=>q e.symm),λx B I=> ?_⟩;simp[storeAt,di];simp_all
    simp_all
  simp_all
 |rp i K k G=>
  simp[targetId,aW] at z;subst z;simp[storeAt] at l;split at l
  .split at l
   .split at l
    .injection l with l;subst l;refine⟨rfl,λj q=>bS _ _ (λe=>q e.symm),λx B _=> ?_⟩;simp_all[storeAt,di]
    simp_all
   simp_all
  simp_all
 |_=>simp[targetId] at z
theorem Ai {id:Nat} {v:SV} (h:v.mentions id=true):id∈v.ids:=by
 have l:∀w:List _,w.any (pq.mentions id)=true->id∈w.filterMap (fun
  | .p j| .r j=>some j
  | .v _=>none):=λw G=>by
  grind[pq.mentions,beq_iff]
 induction v with
 |two s b D z=>
  rcases Bool.or_eq_true_iff.1 h with h|h
  .exact dx _ (D h)
  .exact gX _ (z h)
 |ptr j B=>simp[SV.ids,bZ];exact(beq_iff.1 h).symm
 |row j=>simp[SV.ids,bZ];exact(beq_iff.1 h).symm
 |rp j F i B=>simp[SV.ids,bZ];exact(beq_iff.1 h).symm
 |sub j F I H=>simp[SV.ids,bZ];exact(beq_iff.1 h).symm
 |cl f w=>exact l _ h
 |ag w=>exact l _ h
 |aq j q=>simp[SV.mentions] at h;simp[SV.ids];grind[beq_iff]
 |_=>simp[SV.mentions] at h
theorem St.same {x y:St} (l:∀t,x.env t=y.env t) (q:∀t,x.ob t=y.ob t):x=y:=by obtain⟨z,B⟩:=x;have e1 :=funext l;have w :=funext q;simp_all
def T4 (p:Nat×Option AV) (v:SV):SV:=match p.2 with
 |none=>v.dD p.1
 |some a=>SV.dh p.1 a v
def kJ (l:List (Nat×Option AV)) (v:SV):SV:=l.foldl (λv p=>T4 p v) v
def Ob.Ag (g:SV->SV):Ob->Ob
 | .box t cells=> .box t (cells.map g)
 |o=>o
def fU (f:gz) (q:Nat->Option SV) (w:Nat->Option Ob) (l:List (Nat×Option AV)) (x:St):St:=
 {env:=λt=>if t∈f.ws then q t else(x.env t).map (kJ l),ob:=λj=>if j∈f.wo then w j else(x.ob j).map (Ob.Ag (kJ l)) }
def La (p:Nat×Option AV) (v:SV):∃c:SV,(∀id,c.mentions id=false)/\T4 p v=(bif v.mentions p.1 then c else v)/\((∀j,v≠ .row j/\v≠ .ag [.r j])->c= .any):=by obtain⟨id,x⟩:=p;cases x with
 |none=>exact⟨_,λ_=>rfl,rfl,λ_=>rfl⟩
 |some a=>cases v with
  |row j=>exact⟨_,λ_=>rfl,rfl,λh=>absurd rfl (h j).1⟩
  |ag l=>
   by_cases q:∃j,l=[.r j]
   .obtain⟨j,rfl⟩:=q;exact⟨.pv (.agg [a]),λ_=>rfl,by simp[T4,SV.dh,SV.mentions,pq.mentions],λh=>absurd rfl (h j).2⟩
   .have e:T4 (id,some a) (.ag l)=(SV.ag l).dD id:=by
     show(SV.ag l).dh id a=_;unfold SV.dh;split
     .rename_i e;cases e
     .rename_i j e;cases e;exact absurd ⟨j,rfl⟩ q
     .rfl
    exact⟨_,λ_=>rfl,e,λ_=>rfl⟩
  |_=>exact⟨_,λ_=>rfl,rfl,λ_=>rfl⟩
def P6 {p:Nat×Option AV} {v:SV} (h:v.mentions p.1=false):T4 p v=v:=by obtain⟨c,_,e,_⟩:=La p v;simp_all
def mv1_sub {p:Nat×Option AV} {v:SV} {j:Nat} (h:(T4 p v).mentions j=true):v.mentions j=true:=by obtain⟨c,l,e,_⟩:=La p v;grind
theorem aeC {p q:Nat×Option AV} (l:p.1≠q.1) (v:SV):T4 p (T4 q v)=T4 q (T4 p v):=by obtain⟨c,G,e,k⟩:=La p v;obtain⟨c',B,F,k'⟩:=La q v;cases z:v.mentions p.1 with
 |false=>cases w:v.mentions q.1 with
  |false=>simp_all
  |true=>simp_all[P6]
 |true=>rw[e,z,aj,P6 (G _)];cases w:v.mentions q.1 with
  |false=>simp_all
  |true=>
   rw[F,w,aj,P6 (B _)]
   have H:∀j,v≠ .row j/\v≠ .ag [.r j]:=λj=>⟨λD=>by
    subst D;exact l ((beq_iff.1 z).symm.trans (beq_iff.1 w)),λD=>by
    subst D;simp only[SV.mentions,uj,List.any_nil,sq,pq.mentions] at z w
    exact l ((beq_iff.1 z).symm.trans (beq_iff.1 w))⟩
   simp_all
def yQ:∀{l:List (Nat×Option AV)} {v:SV},(∀p∈l,v.mentions p.1=false)->kJ l v=v
 |[],v,_=>rfl
 |p::l,v,h=>by show kJ l (T4 p v)=v;rw[P6 (h p ai)];exact yQ λq w=>h q (by simp[w])
theorem GU:∀{l:List (Nat×Option AV)} {v:SV} {j:Nat},(kJ l v).mentions j=true->v.mentions j=true
 |[],v,j,h=>h
 |p::l,v,j,h=>mv1_sub (GU h)
def aaC {l:List (Nat×Option AV)} {p:Nat×Option AV}:∀{v:SV},(∀q∈l,p.1≠q.1)->kJ l (T4 p v)=T4 p (kJ l v):=by induction l with
 |nil=>intro v _;rfl
 |cons q l w=>intro v h;show kJ l _=T4 p (kJ l _);grind[aeC]
theorem D4:∀{l m:List (Nat×Option AV)} (v:SV),(∀p∈l,∀q∈m,p.1≠q.1)->kJ l (kJ m v)=kJ m (kJ l v)
 |[],m,v,_=>rfl
 |p::l,m,v,h=>by show kJ l (T4 p _)=kJ m (kJ l _);rw[<-aaC (h p ai),D4 _ λr w=>h r (by simp[w])]
def mapS_id {g:SV->SV} {o:Ob} (h:∀v,(∀id,v.mentions id=true->o.mentions id=true)->g v=v):o.Ag g=o:=by cases o with
 |box t cells=>simp[Ob.Ag];congr 1;refine(iK λc l=>h c λid q=> ?_).trans (qo _);grind[Ob.mentions]
 |_=>rfl
def wJ {l:List (Nat×Option AV)} {o:Ob} (h:∀p∈l,o.mentions p.1=false):o.Ag (kJ l)=o:=
 mapS_id λv w=>yQ λp q=>by grind
def aep {l:List (Nat×Option AV)} {o:Ob} {j:Nat} (h:(o.Ag (kJ l)).mentions j=true):o.mentions j=true:=by cases o with
 |box t cells=>grind[Ob.Ag,Ob.mentions,GU]
 |_=>exact h
theorem aaz {l m:List (Nat×Option AV)} (o:Ob) (h:∀p∈l,∀q∈m,p.1≠q.1):(o.Ag (kJ m)).Ag (kJ l)=(o.Ag (kJ l)).Ag (kJ m):=by cases o with
 |box t cells=>simp[Ob.Ag,fF];grind[List.map_congr_left,D4]
 |_=>rfl
theorem BP (o:Ob):o.Ag (kJ [])=o:=wJ λp l=>by cases l
structure JV (sf:St->Option St) (s:St) (f:gz) (ev:Nat->Option SV) (ov:Nat->Option Ob) (l:List (Nat×Option AV)):Prop where
 keys:∀p∈l,p.1∈f.mv
 run:∀x:St,(∀t∈f.rs,x.env t=s.env t)->(∀j∈f.ro,x.ob j=s.ob j)->(∀j∈f.rl,(x.ob j).map Ob.uD=(s.ob j).map Ob.uD)->sf x=some (fU f ev ov l x)
 len:∀j∈f.wo,f.kp j=true->(ov j).map Ob.uD=(s.ob j).map Ob.uD
 aeF:∀t∈f.ws,∀v id,ev t=some v->v.mentions id=true->id∈f.men
 aeG:∀j∈f.wo,∀o id,ov j=some o->o.mentions id=true->id∈f.men
 mvm:∀id∈f.mv,id∈f.men
structure R6 (s:St) (f:gz):Prop where
 inE:∀t∈f.rs,∀v id,s.env t=some v->v.mentions id=true->id∈f.men
 inO:∀j∈f.ro,∀o id,s.ob j=some o->o.mentions id=true->id∈f.men
 we:∀t v id,s.env t=some v->id∈f.mv->v.mentions id=true->f.we t=true
 oe:∀j o id,s.ob j=some o->id∈f.mv->o.mentions id=true->f.oe j=true
def jD {a b:List Nat} {x y:Nat} (h:meets a b=false) (l:x∈a) (q:y∈b):x≠y:=λe=>by grind[aaA]
def Oo (g:SV->SV) (o:Ob):(o.Ag g).uD=o.uD:=by cases o<;>rfl
def skN {f:gz} {q:Nat->Option SV} {w:Nat->Option Ob} {l:List (Nat×Option AV)} {x:St} {j:Nat} (h:¬j∈f.wo):((fU f q w l x).ob j).map Ob.uD=(x.ob j).map Ob.uD:=by simp[fU,aA h];cases x.ob j with
 |none=>rfl
 |some o=>simp[Oo]
def skO {f:gz} {w:Nat->Option SV} {q:Nat->Option Ob} {l:List (Nat×Option AV)} {x:St} {j:Nat} (h:j∈f.wo):(fU f w q l x).ob j=q j:=by simp[fU,aC h]
def rl_kp {r w:List Nat} {k:Nat->Bool} {j:Nat} (h:(r.any λj=>w.contains j&& !(k j))=false) (l:j∈r) (q:j∈w):k j=true:=by simp_all
def swapFx {sp si:St->Option St} {s:St} {B G:gz} {U R:Nat->Option SV} {op S:Nat->Option Ob} {lp li:List (Nat×Option AV)} (K:JV sp s B U op lp) (H:R6 s B) (I:JV si (fU B U op lp s) G R S li) (hc:B.conflict G=false):
  JV si s G R S li/\JV sp (fU G R S li s) B U op lp/\R6 (fU G R S li s) B/\fU B U op lp (fU G R S li s)=fU G R S li (fU B U op lp s):=by
 unfold gz.conflict at hc;simp only[kE] at hc;obtain⟨⟨⟨⟨⟨⟨⟨⟨⟨⟨⟨⟨⟨_,_⟩,d1⟩,d2⟩,d3⟩,d4⟩,d5⟩,d6⟩,d7⟩,d8⟩,d9⟩,d10⟩,d11⟩,d12⟩:=hc;have w9:∀t∈G.rs,B.we t=false:=λt l=>by simp_all
 have w10:∀t∈G.ro,B.oe t=false:=λt l=>by simp_all
 have aE:∀t∈G.rs,(fU B U op lp s).env t=s.env t:=λt l=>by simp only[fU];rw[aA λh=>jD d1 h l rfl];cases e:s.env t with
  |none=>rfl
  |some v=>simp only[ey];rw[yQ λp F=> ?_];cases w:v.mentions p.1 with
   |false=>rfl
   |true=>have:=H.we t v p.1 e (K.keys p F) w;simp_all
 have aO:∀t∈G.ro,(fU B U op lp s).ob t=s.ob t:=λt l=>by simp only[fU];rw[aA λh=>jD d4 h l rfl];cases e:s.ob t with
  |none=>rfl
  |some v=>simp only[ey];rw[wJ λp F=> ?_];cases w:v.mentions p.1 with
   |false=>rfl
   |true=>have:=H.oe t v p.1 e (K.keys p F) w;simp_all
 have bE:∀t∈B.rs,(fU G R S li s).env t=s.env t:=λt l=>by simp only[fU];rw[aA λh=>jD d2 l h rfl];cases e:s.env t with
  |none=>rfl
  |some v=>simp only[ey];rw[yQ λp F=> ?_];cases w:v.mentions p.1 with
   |false=>rfl
   |true=>exact absurd rfl (jD d8 (I.keys p F) (H.inE t l v p.1 e w))
 have bO:∀t∈B.ro,(fU G R S li s).ob t=s.ob t:=λt l=>by simp only[fU];rw[aA λh=>jD d5 l h rfl];cases e:s.ob t with
  |none=>rfl
  |some v=>simp only[ey];rw[wJ λp F=> ?_];cases w:v.mentions p.1 with
   |false=>rfl
   |true=>exact absurd rfl (jD d8 (I.keys p F) (H.inO t l v p.1 e w))
 have nO:∀t∈B.wo,¬t∈G.wo:=λt D z=>jD d6 D z rfl
 have aL:∀t∈G.rl,((fU _ U op lp s).ob t).map _=(s.ob t).map _:=λt l=>by
  by_cases h:t∈B.wo
  .rw[skO h];exact K.len t h (rl_kp d11 l h)
  .exact skN h
 have bK :=λt l hk=>(I.len t l hk).trans (skN λh=>nO t h l)
 have bL:∀t∈B.rl,((fU _ R S li s).ob t).map Ob.uD=(s.ob t).map Ob.uD:=λt l=>by
  by_cases h:t∈G.wo
  .rw[skO h];simp_all
  .exact skN h
 have hk :=λp F q V=>jD d7 (K.keys p F) (I.mvm _ (I.keys q V))
 refine⟨⟨I.keys,λx D z h3=>I.run x (λt l=>(D t l).trans (aE t l).symm) (λt l=>(z t l).trans (aO t l).symm) (λt l=>(h3 t l).trans (aL t l).symm),bK,I.aeF,I.aeG,I.mvm⟩,
  ⟨K.keys,λx D z h3=>K.run x (λt l=>(D t l).trans (bE t l)) (λt l=>(z t l).trans (bO t l)) (λt l=>(h3 t l).trans (bL t l)),λt l hk=>(K.len t l hk).trans (skN (nO t l)).symm,K.aeF,K.aeG,K.mvm⟩,
  ⟨λt l v id e w=>H.inE t l v _ ((bE t l).symm.trans e) w,λt l v id e w=>H.inO t l v _ ((bO t l).symm.trans e) w,λt v id e O w=> ?_,λt v id e O w=> ?_⟩,?_⟩
 .simp[fU] at e;split at e
  .rename_i l;exact absurd rfl (jD d7 O (I.aeF t l v _ e w))
  .cases e0:s.env t with
   |none=>simp_all
   |some v0=>rw[e0] at e;simp at e;subst e;exact H.we t _ _ e0 O (GU w)
 .simp[fU] at e;split at e
  .rename_i l;exact absurd rfl (jD d7 O (I.aeG t l v _ e w))
  .cases e0:s.ob t with
   |none=>simp_all
   |some v0=>rw[e0] at e;simp at e;subst e;exact H.oe t _ _ e0 O (aep w)
 .simp[fU,St.mk.injEq];constructor
  .funext t;by_cases D:t∈B.ws
   .rw[aC D,aA λz=>jD d3 D z rfl];rw[aC D];cases e:U t with
    |none=>rfl
    |some v=>simp;rw[yQ λq V=> ?_];cases w:v.mentions _ with
     |false=>rfl
     |true=>exact absurd rfl (jD d8 (I.keys q V) (K.aeF t D v _ e w))
   .rw[aA D];by_cases z:t∈G.ws
    .rw[aC z,aC z];cases e:R t with
     |none=>rfl
     |some v=>simp;rw[yQ λq V=> ?_];cases w:v.mentions _ with
      |false=>rfl
      |true=>exact absurd rfl (jD d7 (K.keys q V) (I.aeF t z v _ e w))
    .rw[aA z,aA z,aA D];cases s.env t with
     |none=>rfl
     |some v=>grind[D4]
  .funext t;by_cases D:t∈B.wo
   .rw[aC D,aA λz=>jD d6 D z rfl];rw[aC D];cases e:op t with
    |none=>rfl
    |some v=>simp;rw[wJ λq V=> ?_];cases w:v.mentions _ with
     |false=>rfl
     |true=>exact absurd rfl (jD d8 (I.keys q V) (K.aeG t D v _ e w))
   .rw[aA D];by_cases z:t∈G.wo
    .rw[aC z,aC z];cases e:S t with
     |none=>rfl
     |some v=>simp;rw[wJ λq V=> ?_];cases w:v.mentions _ with
      |false=>rfl
      |true=>exact absurd rfl (jD d7 (K.keys q V) (I.aeG t z v _ e w))
    .rw[aA z,aA z,aA D];cases s.ob t with
     |none=>rfl
     |some v=>grind[aaz]
def OI (w:Nat->St->Option St):List (Nat×gz)->St->St->Prop
 |[],s,q=>s=q
 |p::l,s,q=>∃z,w p.1 s=some z/\(p.2.all=false->∃B D m,JV (w p.1) s p.2 B D m/\R6 s p.2)/\OI w l z q
def ab4 {a b:gz} (h:a.conflict b=false):a.all=false/\b.all=false:=by simp_all[gz.conflict]
def OI.front {z:Nat->St->Option St} {i:Nat} {f:gz} {post:List (Nat×gz)} {V:St}:∀(pre:List (Nat×gz)) (s:St),OI z (pre++(i,f)::post) s V->(∀p∈pre,p.2.conflict f=false)->
  ∃w,z i s=some w/\OI z (pre++post) w V/\(f.all=false->∃ev ov m,JV (z i) s f ev ov m)
 |[],s,⟨U,B,G,D⟩,_=>⟨U,B,D,λH=>by simp_all⟩
 |p::pre,s,⟨U,B,G,D⟩,I=>by
  have l:=I p ai;obtain⟨H,hb⟩:=ab4 l;obtain⟨ep,op,lp,O,F⟩:=G H;obtain⟨w,k1,k2,k3⟩:=OI.front _ _ D λq hq=>I q (by simp[hq])
  obtain⟨ei,oi,li,K⟩:=k3 hb;have e1 :=by have:=O.run s (λ_ _=>rfl) (λ_ _=>rfl) (λ_ _=>rfl);rw[B] at this;injection this
  subst e1;obtain⟨R,S,r3,r4⟩:=swapFx O F K l;have e2 :=by have:=K.run _ (λ_ _=>rfl) (λ_ _=>rfl) (λ_ _=>rfl);rw[k1] at this;injection this
  refine⟨_,R.run s (λ_ _=>rfl) (λ_ _=>rfl) (λ_ _=>rfl),⟨w,?_,λ_=>⟨ep,op,lp,S,r3⟩,k2⟩,λ_=>⟨ei,oi,li,R⟩⟩;rw[S.run _ (λ_ _=>rfl) (λ_ _=>rfl) (λ_ _=>rfl),r4,e2]
def rO (P:Program) (h:Hint) (cr:eX) (l:Array Oper) (k:Nat) (q:St):Option St:=
 match l[k]? with
 |some o=>match qN l o q with
  |some true=>step P h cr o q
  |some false=>some (q.set o.dst .undef)
  |none=>none
 |none=>none
def af0 {id:Nat} {cells:List SV} (h:cells.any (SV.mentions id)=true):id∈cells.flatMap SV.ids:=by grind[Ai]
theorem aeQ {id:Nat} {o:Ob} (h:o.mentions id=true):id∈o.ids:=by cases o with
 |box t cells=>exact af0 h
 |_=>cases h
def Pg {G:St->Option St} {s D:St} {f:gz} {l:List (Nat×Option AV)} (K:∀p∈l,p.1∈f.mv) (B:∀x:St,(∀t∈f.rs,x.env t=s.env t)->(∀j∈f.ro,x.ob j=s.ob j)->(∀j∈f.rl,(x.ob j).map Ob.uD=(s.ob j).map Ob.uD)->G x=some (fU f D.env D.ob l x))
  (w:∀j∈f.wo,f.kp j=true->(D.ob j).map Ob.uD=(s.ob j).map Ob.uD):
  ∃H O m,JV G s (f.fill s D) H O m/\R6 s (f.fill s D):=by
 have mem:∀{id:Nat} {g:Nat->List _} {l:List _} {t:Nat},t∈l->id∈g t->id∈l.flatMap g:=λF h=>List.mem_flatMap.2 ⟨_,F,h⟩
 refine⟨_,_,l,⟨K,B,w,λt F v id e z=> ?_,λj I o id e z=> ?_,λid q=> ?_⟩,⟨λt F v id e z=> ?_,λj I o id e z=> ?_,λt v id e q z=> ?_,λj o id e q z=> ?_⟩⟩
 .grind[gz.fill,Pc,Ai]
 .grind[gz.fill,YX,aeQ]
 .simp_all[gz.fill]
 .grind[gz.fill,Pc,Ai]
 .grind[gz.fill,YX,aeQ]
 .grind[gz.fill]
 grind[gz.fill]
theorem iF {l:Type} {x:Option l} {g:l->l} (h:∀v,g v=v):x.map g=x:=by cases x<;>simp[h]
def afa {f:gz} {s x:St} {d:Option Nat} {v:SV} (l:f.ws=d.toList) (q:f.wo=[]):x.set d v=fU f (s.set d v).env (s.set d v).ob [] x:=by
 refine St.same (λt=> ?_) (λj=> ?_)
 .simp only[fU,l];cases d with
  |none=>exact(iF λ_=>rfl).symm
  |some d=>
   by_cases e:d=t
   .simp_all[St.set,di]
   .have:¬t∈(some d).toList:=by simp;exact λh=>e h.symm
    rw[aA this];simp[St.set,bS _ _ e];exact(iF λ_=>rfl).symm
 .simp[fU,q];rw[iF BP];cases d<;>rfl
def GV {f:gz} {s x:St} {d id:Nat} {o:Ob} {v:SV} (l:f.ws=[d]) (q:f.wo=[id]):(x.new id o).set (some d) v=fU f ((s.new id o).set (some d) v).env ((s.new id o).set (some d) v).ob [(id,none)] x:=by
 refine St.same (λt=> ?_) (λj=> ?_)
 .simp[fU,l,bZ];by_cases e:t=d
  .simp_all[St.set,di]
  .rw[aA e];simp[St.set,bS _ _ (λh=>e h.symm)];rfl
 .simp[fU,q,bZ];by_cases e:j=id
  .simp_all[St.set,St.new,di]
  .rw[aA e];simp[St.set,St.new,St.dD,bS _ _ (λh=>e h.symm)];rfl
def skip_ok {l:Array Oper} {k:Nat} {o:Oper} {s:St} (B:l[k]? =some o) (D:qN l o s=some false):
  ∃q F m,JV (rO P h cr l k) s ((uu l o).fill s (s.set o.dst .undef)) q F m/\R6 s ((uu l o).fill s (s.set o.dst .undef)):=
 Pg (l:=[]) ai (λx w _ _=>by
  simp[rO,B];rw[AL w,D]
  rw[afa (f:=uu _ o) rfl rfl]) λj z _=>by cases z
def ko (z:St->Option St) (s:St) (f:gz) (w:Nat->Option SV) (q:Nat->Option Ob) (l:List (Nat×Option AV)):Prop:=
 (∀p∈l,p.1∈f.mv)/\(∀j∈f.wo,f.kp j=true->(q j).map Ob.uD=(s.ob j).map Ob.uD)/\
  ∀x:St,(∀t∈f.rs,x.env t=s.env t)->(∀j∈f.ro,x.ob j=s.ob j)->(∀j∈f.rl,(x.ob j).map Ob.uD=(s.ob j).map Ob.uD)->z x=some (fU f w q l x)
def ko.imp {H:St->Option St} {s:St} {f q:gz} {D:Nat->Option SV} {G:Nat->Option Ob} {l:List (Nat×Option AV)} (B:ko H s f D G l) (I:∀t∈f.rs,t∈q.rs) (K:∀t∈f.ro,t∈q.ro) (O:∀t∈f.mv,t∈q.mv) (R:∀t,t∈f.ws↔t∈q.ws) (z:∀t,t∈f.wo↔t∈q.wo) (S:∀t∈f.rl,t∈q.rl) (U:∀t∈f.wo,q.kp t=true->f.kp t=true):ko H s q D G l:=
 ⟨λp hp=>O _ (B.1 p hp),λj F V=>B.2.1 j ((z j).2 F) (U j ((z j).2 F) V),λx k1 k2 k3=>by
  rw[B.2.2 x (λt w=>k1 t (I t w)) (λt w=>k2 t (K t w)) (λt w=>k3 t (S t w))]
  simp[fU,R,z]⟩
def ko.at {B:St->Option St} {s z:St} {f:gz} {q:Nat->Option SV} {w:Nat->Option Ob} {l:List (Nat×Option AV)} (D:ko B s f q w l) (h:B s=some z):z=fU f q w l s:=by have:=D.2.2 s (λ_ _=>rfl) (λ_ _=>rfl) (λ_ _=>rfl);simp_all
def Zt {U V:St->Option St} {s:St} {w B:gz} {q H:Nat->Option SV} {l I:Nat->Option Ob} {D F:List (Nat×Option AV)} (O:ko U s w q l D) (R:ko V (fU w q l D s) B H I F):
  ∃ev ov,ko (λx=>(U x).bind V) s (w.then B) ev ov (D++F):=by
 refine⟨λt=>if t∈B.ws then H t else(q t).map (kJ F),λj=>if j∈B.wo then I j else(l j).map (Ob.Ag (kJ F)),λp hp=> ?_,λj S K=> ?_,λx k1 k2 k3=> ?_⟩
 .simp[gz.then,bf];exact(bf.1 hp).imp (O.1 p) (R.1 p)
 .simp[gz.then,aT,gC,gE,List.contains_eq_mem,bB] at K;simp[gz.then,bf] at S;have G:((fU w q l D s).ob j).map Ob.uD=(s.ob j).map Ob.uD:=by
   by_cases a:j∈w.wo
   .rw[skO a];exact O.2.1 j a (K.1.resolve_right λh=>h a)
   .exact skN a
  by_cases a:j∈B.wo
  .simp[aC a];exact(R.2.1 j a (K.2.resolve_right λh=>h a)).trans G
  .simp[aA a];have b :=S.resolve_left a;rw[<-O.2.1 j b (K.1.resolve_right λh=>h b)];cases l j with
   |none=>rfl
   |some o=>simp[Oo]
 .have e1:=O.2.2 x (λt z=>k1 t (by simp[gz.then,z])) (λt z=>k2 t (by simp[gz.then,z])) (λt z=>k3 t (by simp[gz.then,z]))
  have e2:=R.2.2 (fU w q l D x) (λt z=>by simp_all[fU,gz.then]) (λt z=>by simp_all[fU,gz.then]) (λt z=>by
   by_cases a:t∈w.wo
   .rw[skO a,skO a]
   simp_all[skN,gz.then])
  simp[e1,gZ,e2,aW];have mm:∀v,kJ F (kJ D v)=kJ (D++F) v:=λv=>by simp[kJ]
  refine St.same (λt=> ?_) (λj=> ?_)
  .simp[fU,gz.then];by_cases a:t∈B.ws
   .simp_all
   .by_cases b:t∈w.ws
    .simp_all
    .simp[a,b];cases x.env t with
     |none=>rfl
     |some v=>simp_all
  .simp[fU,gz.then];by_cases a:j∈B.wo
   .simp_all
   .by_cases b:j∈w.wo
    .simp_all
    .simp[a,b];cases x.ob j with
     |none=>rfl
     |some o=>cases o with
      |box t cells=>simp_all[Ob.Ag]
      |_=>rfl
def ko.nil (s:St) (f:gz) (l:f.ws=[]) (q:f.wo=[]):ko some s f (λ_=>none) (λ_=>none) []:=
 ⟨ai,λj w=>(by simp_all),λx _ _ _=>by
  congr 1;refine St.same (λt=> ?_) (λj=> ?_)
  .simp[fU,l];exact(iF λ_=>rfl).symm
  simp_all[fU,iF,BP]⟩
def Ec {s H:St} {id:Nat} (q:s.dh id=some H):∃w G l,ko (λx=>x.dh id) s { ro:=[id],wo:=[id],mv:=[id] } w G l:=by
 unfold St.dh at q;split at q
 .rename_i v D F;refine⟨λ_=>none,λ_=>none,[(id,some v)],by simp,λj _ B=>(by cases B),λx _ z _=> ?_⟩;have e:x.ob id=s.ob _:=z _ ai;unfold St.dh;simp[e,D,F,aW];refine St.same (λt=> ?_) (λj=> ?_)
  .rfl
  .simp[fU,bZ];by_cases a:j=id
   .subst a;simp[di]
   .rw[aA a,bS _ _ (λh=>a h.symm)];rfl
 simp_all
def B0:∀{cells:List SV} {s H:St},p9 cells s=some H->∃q z l,ko (p9 cells) s { ro:=wV cells,wo:=wV cells,mv:=wV cells } q z l
 |[],s,H,_=>⟨_,_,_,ko.nil s _ rfl rfl⟩
 |c::cells,s,H,G=>by
  have other:(∀id,c≠ .row id)->(∀x,p9 (c::cells) x=p9 cells x)/\wV (c::cells)=wV _:=λD=>by cases c<;>first|exact absurd rfl (D _)|exact⟨λ_=>rfl,rfl⟩
  by_cases I:∃id,c= .row id
  .obtain⟨id,rfl⟩:=I;obtain⟨s1,w,B⟩:=dB.1 G;obtain⟨q,z,l,K⟩:=Ec w;obtain⟨S,ov',l',O⟩:=B0 B;rw[K.at w] at O;obtain⟨U,ov2,r3⟩:=Zt K O;exact⟨_,_,_,r3.imp (λt F=>by assumption) (λt F=>by assumption) (λt F=>by assumption) (λt=>by rfl) (λt=>by simp[gz.then,wV,or_comm]) (λt F=>by assumption) (λt _ hk=>by cases hk)⟩
  .obtain⟨e1,R⟩:=other λid h=>I ⟨id,h⟩
   rw[e1] at G;obtain⟨q,z,l,r⟩:=B0 G;refine⟨q,z,l,?_⟩;rw[R];exact⟨r.1,r.2.1,λx w B V=>by rw[e1];exact r.2.2 x w B V⟩
def aaR {s S:St} {t:Nat} (D:qY s t=some S):∃z B l,ko (λx=>qY x t) s (Qm s t) z B l:=by
 unfold qY at D;unfold Qm;split at D
 .rename_i id F;obtain⟨z,B,l,r⟩:=Ec D;refine⟨z,B,l,r.1,r.2.1,λx q w G=> ?_⟩;have e :=q t ai;simp[qY,e,F];exact r.2.2 x ai w ai
 .rename_i id F;obtain⟨z,B,l,r⟩:=Ec D;refine⟨z,B,l,r.1,r.2.1,λx q w G=> ?_⟩;have e :=q t ai;simp[qY,e,F];exact r.2.2 x ai w ai
 .rename_i id R F;split at D
  .rename_i U cells I;obtain⟨z,B,l,r⟩:=B0 D;refine⟨z,B,l,r.1,r.2.1,λx q w G=> ?_⟩;have e :=q t ai;have K:x.ob id=s.ob _:=w _ ai;simp[qY,e,F,K,I];exact r.2.2 x ai (λj H=>w j (by simp[H])) ai
  simp_all
 .refine⟨λ_=>none,λ_=>none,[],?_⟩;have O:∀x:St,x.env t=s.env t->qY x t=some x:=λx e=>by
   simp_all[qY]
  refine⟨ai,λj H=>(by simp at H),λx q w G=> ?_⟩;simp only;rw[O x (q t ai)];exact(ko.nil s _ rfl rfl).2.2 x q w G
theorem Ts {w l:St} {t:TypeId} {x z:Operand} (U:∀ty,bw P ty w x=bw P ty l x) (R:∀ty,bw P ty w z=bw P ty l z) (B:∀ty H,bw P ty w x=some H->∀id∈H.ids,(w.ob id).map Ob.uD=(l.ob id).map Ob.uD):xD P w t x z=xD P l t x z:=by
 unfold xD;rw[<-U,<-R];split<;>try rfl
 .rename_i e s id q i hs S hq;have k:=B t _ S id (by simp[SV.ids]);cases e1:w.ob _ with
  |none=>grind
  |some V=>rw[e1] at k;cases I:l.ob _ with
   |none=>simp_all
   |some F=>rw[I] at k;simp at k;cases V with
    |row K sz xs=>cases F with
     |row O G ys=>
      simp[Ob.uD,Ob.row.injEq] at k;obtain⟨_,rfl,D⟩:=k;have :=by simpa using aU List.length D
      simp_all
     |_=>cases k
    |rn K sz q1 q2 q3 xs zs=>cases F with
     |rn O G q4 q5 q6 ys zs2=>
      simp only[Ob.uD,Ob.rn.injEq] at k;obtain⟨_,rfl,_,_,_,D,_⟩:=k;have :=by simpa using aU List.length D
      simp_all
     |_=>cases k
    |_=>cases F<;>first|rfl|cases k
theorem Pv {w l:St} {n:Nat} {e:TypeId} {x q:Operand} (B:∀ty,bw P ty w x=bw P ty l x) (z:∀ty,bw P ty w q=bw P ty l q):D0 P w n e x q=D0 P l n e x q:=by unfold D0;simp_all
def U2 {B:Array Oper} {o:Oper} {s:St} {v:SV} (U:ec P h cr o s=some v):ko (step0 P h cr o) s (wB P h B o s) (s.set o.dst v).env (s.set o.dst v).ob []:=
 ⟨ai,λj O=>(by cases O),λx H I K=>by
  have q:ec P h _ o s=ec P h cr o x->step0 P h cr o x=some (fU (wB P h B o s) (s.set _ v).env _ _ x):=λthis=>by rw[U] at this;simp[step0,<-this];rw[afa (f:=wB P h _ o s) rfl rfl]
  cases D:ac0 o.op with
  |true=>cases w:o.op with
   |indexAddr t a ix=>
    have z:∀y∈o.op.operands.toList,∀ty,bw P ty s y=bw P _ x y:=λy V ty=>jA (λu e=>(H u (by
     subst e
     exact dx _ (fC.2 ⟨_,V,rfl⟩))).symm) _
    have ha:=z a (by rw[w];simp[Op.operands]);have hi:=z ix (by rw[w];simp[Op.operands])
    have hl:∀ty G,bw P ty s a=some G->∀id∈G.ids,(s.ob _).map _=(x.ob _).map _:=λty G e id l=>(K _ (by
     simp[wB,D]
     exact vR (by rw[w];simp[Op.operands]) e l)).symm
    refine q ?_;simp[ec,w,fe];grind[Ts,Pv]
   |_=>rw[w] at D;cases D
  |false=>
   have F:∀id∈LO P h o s,s.ob id=x.ob id:=λid l=>by grind[Ud,wB,LO]
   exact q (VV (λR id l=>(I _ (by simp[wB,R,D,l])).symm) F (λt S=>(H t (by simp[wB,fH,S])).symm))⟩
def afy {l:Array Oper} {k:Nat} {o:Oper} {s:St} {v:SV} (G:l[k]? =some o) (I:qN l o s=some true) (q:FF h o=[]) (H:ec P h cr o s=some v):
  ∃z K m,JV (rO P h cr l k) s ((wB P h l o s).fill s (s.set o.dst v)) z K m/\R6 s ((wB P h l o s).fill s (s.set o.dst v)):=
 Pg (l:=[]) ai (λx w B D=>by
  simp[rO,G];rw[AL w,I];simp[step,q]
  exact(U2 H).2.2 x w B D) λj F _=>by cases F
def abF {o:Oper} {s s':St} {c:Call} {d id:Nat} {x y:Operand} {t R:TypeId} (U:o.op= .call c) (hc:c.callee= .builtin .append) (q:c.args.toList=[x,y]) (V:c.argTypes.toList=[t,R]) (hd:o.dst=some d) (hx:bw P t s x=some (.row id)) (l:step0 P h cr o s=some s'):
  ∃ob:Ob,s'=(s.new id ob).set (some d) (.row id)/\
   ∀x:St,(∀t∈slotsOf o,x.env t=s.env t)->(∀j∈id::Dv s o,x.ob j=s.ob j)->step0 P h cr o x=some ((x.new id ob).set (some d) (.row id)):=by
 have hf:∀x:St,ec P h cr o x=none:=λx=>by simp_all[ec,yV]
 have he:∀F:St,step0 P h cr o F=(match isSlice P t,bw P t F x,bw P R F y with
  |some (e,s),some (.row id),some y=>match F.ob id,elems F y,P.info? e with
   |some (.row I w xs),some (G,B),some i=>
    if t=R/\e=I/\s=w/\w=G/\0<w/\(xs.length+B.length) *i.bytes<=140737488355328/\xs.length+B.length<=4611686018427387904/\i.zero.map (λz=>z.cells.size)=some w/\gO id=true then
     some ((F.new id (.row e w (xs++B))).set (some d) (.row id)) else none
   |some (.rn I w k e2 s2 xs zs),some (G,B),some i=>
    if t=R/\e=I/\s=w/\w=G/\0<w/\(xs.length+B.length) *i.bytes<=140737488355328/\xs.length+B.length<=4611686018427387904/\i.zero.map (λz=>z.cells.size)=some w/\gO id=true/\B.all (rG k)=true then
     some ((F.new id (.rn e w k e2 s2 (xs++B.map λc=>c.set k .hole) (zs++B.map λ_=>some []))).set (some d) (.row id)) else none
   |_,_,_=>none
  |some (e,s),some (.aq id .full),some y=>match F.ob id,elems F y,P.info? e with
   |some (.row I w xs),some (G,B),some i=>
    if t=R/\e=I/\s=w/\w=G/\0<w/\(xs.length+B.length) *i.bytes<=140737488355328/\xs.length+B.length<=4611686018427387904/\i.zero.map (λz=>z.cells.size)=some w/\gO id=true/\B.isEmpty=false then
     some ((F.new id (.row e w (xs++B))).set (some d) (.row id)) else none
   |_,_,_=>none
  |_,_,_=>none):=λF=>by
  simp only[step0,hf,ni,U,hc,hd,q,V];rfl
 rw[he] at l;split at l
 .rename_i e sz0 id2 sy hs O hy;rw[hx] at O;simp only[aW,SV.row.injEq] at O;subst O;split at l
  .rename_i I w xs G B i qF hel hi;split at l
   .rename_i S;injection l with l;refine⟨.row e w (xs++B),l.symm,λF K H=> ?_⟩
    have D:∀z∈[x,y],∀ty,bw P ty F z=bw P ty s z:=λz hz ty=>jA (λu e=>K u (by
     subst e;refine fC.2 ⟨.tmp u,?_,rfl⟩;rw[U];simp only[Op.operands,Call.operands,hc,gY,bf];right
     rw[q];exact hz)) ty
    rw[he,D x ai t,D y ai R,hx,hy,hs];have e1:F.ob id=s.ob id:=H id ai
    have e2:elems F sy=elems s sy:=xx (λj hj=>H j (dF _ (vR (P:=P) (x:=y) (ty:=R) (by
     rw[U];simp only[Op.operands,Call.operands,hc,gY,bf];right
     rw[q];simp) hy hj)))
    grind
   .cases l
  .rename_i I w k e3 s3 xs zs G B i qF hel hi;split at l
   .rename_i S;injection l with l;refine⟨.rn e w k e3 s3 (xs++B.map λc=>c.set k .hole) (zs++B.map λ_=>some []),l.symm,λF K H=> ?_⟩
    have D:∀z∈[x,y],∀ty,bw P ty _ z=bw P _ s z:=λz hz ty=>jA (λu e=>K u (by
     subst e;refine fC.2 ⟨.tmp u,?_,rfl⟩;rw[U];simp only[Op.operands,Call.operands,gY,bf];right
     rw[q];exact hz)) _
    rw[he,D x ai t,D y ai _,hx,hy,hs];have e1:F.ob id=s.ob _:=H _ ai
    have e2 :=xx (λj hj=>H j (dF _ (vR (by
     rw[U];simp only[Op.operands,Call.operands,gY]
     rw[q];simp) hy hj)))
    grind
   .cases l
  .cases l
 .simp_all
 simp_all
def ZM {o:Oper} {s s':St} {c:Call} {d id:Nat} {x y:Operand} {t K:TypeId} (O:o.op= .call c) (hc:c.callee= .builtin .append) (w:c.args.toList=[x,y]) (I:c.argTypes.toList=[t,K]) (hd:o.dst=some d) (hx:bw P t s x=some (.aq id .full)) (l:step0 P h cr o s=some s'):
  ∃ob:Ob,s'=(s.new id ob).set (some d) (.row id)/\
   ∀x:St,(∀t∈slotsOf o,x.env t=s.env t)->(∀j∈id::Dv s o,x.ob j=s.ob j)->step0 P h cr o x=some ((x.new id ob).set (some d) (.row id)):=by
 have hf:∀x:St,ec P h cr o x=none:=λx=>by simp_all[ec,yV]
 have he:∀D:St,step0 P h cr o D=(match isSlice P t,bw P t D x,bw P K D y with
  |some (e,s),some (.row id),some y=>match D.ob id,elems D y,P.info? e with
   |some (.row H q xs),some (F,B),some i=>
    if t=K/\e=H/\s=q/\q=F/\0<q/\(xs.length+B.length) *i.bytes<=140737488355328/\xs.length+B.length<=4611686018427387904/\i.zero.map (λz=>z.cells.size)=some q/\gO id=true then
     some ((D.new id (.row e q (xs++B))).set (some d) (.row id)) else none
   |some (.rn H q k U s2 xs zs),some (F,B),some i=>
    if t=K/\e=H/\s=q/\q=F/\0<q/\(xs.length+B.length) *i.bytes<=140737488355328/\xs.length+B.length<=4611686018427387904/\i.zero.map (λz=>z.cells.size)=some q/\gO id=true/\B.all (rG k)=true then
     some ((D.new id (.rn e q k U s2 (xs++B.map λc=>c.set k .hole) (zs++B.map λ_=>some []))).set (some d) (.row id)) else none
   |_,_,_=>none
  |some (e,s),some (.aq id .full),some y=>match D.ob id,elems D y,P.info? e with
   |some (.row H q xs),some (F,B),some i=>
    if t=K/\e=H/\s=q/\q=F/\0<q/\(xs.length+B.length) *i.bytes<=140737488355328/\xs.length+B.length<=4611686018427387904/\i.zero.map (λz=>z.cells.size)=some q/\gO id=true/\B.isEmpty=false then
     some ((D.new id (.row e q (xs++B))).set (some d) (.row id)) else none
   |_,_,_=>none
  |_,_,_=>none):=λD=>by
  simp only[step0,hf,ni,O,hc,hd,w,I];rfl
 rw[he] at l;split at l
 .simp_all
 .rename_i e sz0 id2 sy hs G hy;rw[hx] at G;simp at G;subst G;split at l
  .split at l
   .injection l with l;refine⟨_,l.symm,λD S R=> ?_⟩
    have V:∀z∈[x,y],∀ty,bw P ty _ z=bw P _ s z:=λz hz ty=>jA (λu e=>S u (by
     subst e;refine fC.2 ⟨.tmp u,?_,rfl⟩;rw[O];simp only[Op.operands,Call.operands,gY,bf];right
     rw[w];exact hz)) _
    have U :=xx (λj hj=>R j (dF _ (vR (by
     rw[O];simp only[Op.operands,Call.operands,gY]
     rw[w];simp) hy hj)))
    grind
   .cases l
  .cases l
 simp_all
def kp_E0 {q:Array Oper} {o:Oper} {s:St} (w:¬∃t x,o.op= .load t x) (z:¬∃t a x id B i l j,o.op= .store t a x/\bw P 0 s a=some (.rp id B i l)/\bw P t s x=some (.row j)) (j:Nat):(mo P h q o s).kp j=false:=by
 unfold mo Fb CA Pk;split
 .split
  .grind
  .rfl
  .split<;>rfl
 .cases h.rows.contains _<;>rfl
 .cases h.ga.contains _<;>cases h.rows.contains _<;>rfl
 .cases h.rows.contains _ with
  |false=>rfl
  |true=>simp only[aj,BK];split<;>rfl
 .rfl
 .split
  .split
   .split<;>rfl
   .rfl
  .cases(o.dst.any _&& !(o.dst.any _)) with
   |true=>rfl
   |false=>rename_i c _ _ f _;cases(!(o.dst.any _)&&(!(o.dst.any _)&&wide s c f)) with
    |false=>cases o.dst.any h.owns.contains with
     |false=>rfl
     |true=>
      simp only[aj,au,Fa];split
      .split
       .split
        .rfl
        .rfl
       .rfl
      .rfl
    |true=>simp[wA];split<;>rfl
  .rfl
 .simp_all
 .rfl
def take_fx {D:Array Oper} {o:Oper} {s s':St} {t:TypeId} {a:Operand} (ho:o.op= .load t a) (l:step0 P h cr o s=some s') (q:(mo P h D o s).all=false):
  ∃ev ov m,ko (step0 P h cr o) s (mo P h D o s) ev ov m:=by
 obtain⟨F,w⟩:∃F,mo P h D o s=F:=⟨_,rfl⟩
 rw[w] at q⊢;unfold mo at w;rw[ho] at w;cases H:o.dst with
 |none=>rw[H] at w;subst w;cases q
 |some d=>rw[H] at w;simp only at w;cases I:h.take.contains d with
  |false=>rw[I] at w;subst w;cases q
  |true=>
   rw[I] at w;simp[aj,Tb] at w;split at w
   .rename_i id sz i B V;split at w
    .rename_i e R k e' s2 xs ys z;subst w;have he:∀x:St,bw P 0 x a=some (.rp id sz i B)->x.ob id=some (.rn e R k e' s2 xs ys)->step0 P h cr o x=xW P x t a d:=λx h1 h2=>by
      simp_all[ec,step0,ni]
     rw[he s V z] at l;unfold xW at l;rw[V] at l;split at l
     .rename_i id2 sz2 i2 off2 e1 G;obtain⟨rfl,rfl,rfl,rfl⟩:=e1;rw[z] at l;simp at l;split at l
      .rename_i zs hy;cases hb:(Nat.beq sz R&&Nat.beq B k&& !(Nat.beq id d)&&Nat.blt id 10000) with
       |false=>simp_all
       |true=>
       rw[hb] at l;simp at l;have U:id≠d:=λe=>by simp_all
       refine⟨s'.env,s'.ob,[(d,none)],by simp,λj hj hk=> ?_,λx h1 h2 _=> ?_⟩<;>subst l
       rotate_left
       .have O:bw P 0 x a=some (.rp id sz i B):=by
         rw[<-V]
         exact jA (λu e=>h1 u (by
          subst e
          exact dx _ (fC.2 ⟨.tmp u,by rw[ho];simp[Op.operands],rfl⟩))) 0
        have K :=(h2 _ ai).trans z;rw[he x O K];unfold xW;rw[O,G];simp only[K,hy,hb];refine aU _ (St.same (λu=> ?_) (λu=> ?_))
        .simp[fU,bZ];by_cases e:u=d
         .simp_all[St.set,di]
         .rw[aA e];simp[St.set,bS _ _ (λh=>e h.symm)];rfl
        .simp[fU,aJ,mG,qp];by_cases e:u=d
         .simp_all[St.set,St.new,di]
         .by_cases e2:u=id
          .subst e2;simp[true_or,gj,St.set,St.new,St.dD,bS _ _ (λh=>e h.symm),di]
          .rw[aA af];simp[St.set,St.new,St.dD,bS _ _ (λh=>e h.symm),bS _ _ (λh=>e2 h.symm)];rfl
       .have S :=by
         simp only[aT] at hk;exact beq_iff.1 hk.1
        subst S;rw[z];simp[St.set,St.new,St.dD,bS _ _ (λh=>U h.symm),di,ey,Ob.dD,Ob.uD]
      simp_all
     simp_all
    .subst w;cases q
   .subst w;cases q
def sK {R:Type} {b:Bool} {x:Option R} {r:R} (l:(bif b then x else none)=some r):b=true/\x=some r:=by grind
def oO:∀(l:List Nat) (q:St) (t:Nat),(fJ l q).env t=(q.env t).map (kJ (l.map λi=>(i,none)))
 |[],q,t=>by exact(iF λ_=>rfl).symm
 |id::l,q,t=>by simp[fJ];rw[oO l _ t];simp[St.dD,Option.map_map];rfl
def sY:∀(l:List Nat) (q:St) (j:Nat),j∉l->(fJ l q).ob j=(q.ob j).map (Ob.Ag (kJ (l.map λi=>(i,none))))
 |[],q,j,_=>by simp_all[fJ,iF,BP]
 |id::l,q,j,w=>by simp at w;simp[fJ];rw[sY l _ j w.2];simp only[St.dD,bS _ _ (λh=>w.1 h.symm)];cases q.ob j with
  |none=>rfl
  |some o=>cases o<;>simp only[ey,Ob.dD,Ob.Ag,fF]<;>rfl
theorem qI:∀(l:List Nat) (w q:St) (j:Nat),w.ob j=q.ob j->(fJ l w).ob j=(fJ l q).ob j
 |[],w,q,j,h=>h
 |id::l,w,q,j,h=>by
  refine qI l _ _ j ?_;by_cases e:id=j
  .simp_all[St.dD,di]
  simp_all[St.dD,bS]
theorem back_mem {names:List Nat} {F:Nat->Nat}:∀{m:List (Nat×Nat)} {w l:List (Nat×Ob)},nF names F m w=some l->∀{j:Nat} {o:Ob},find l j=some o->j∈m.map (·.1)
 |[],[],l,h,j,o,q=>by simp[nF,aW] at h;subst h;cases q
 |[],_::_,l,h,_,_,_=>by simp[nF] at h
 |_::_,[],l,h,_,_,_=>by simp[nF] at h
 |(id,G)::m,(D,H)::w,l,h,j,o,q=>by obtain⟨_,h⟩:=sK h;simp at h;obtain⟨r,B,rfl⟩:=h;simp[find] at q;cases z:Nat.beq id j with
  |true=>simp_all
  |false=>rw[z] at q;exact dF _ (back_mem B q)
def many_fx {B:Array Oper} {o:Oper} {s s':St} {c:Call} {f:Operand} (ho:o.op= .call c) (hc:c.callee= .value f) (how:o.dst.any h.owns.contains=false) (U:o.dst.any h.stay.contains=false) (hw:wide s c f=true)
  (w:step0 P h cr o s=some s') (F:(wA P h B o s c f).all=false):∃ev ov m,ko (step0 P h cr o) s (wA P h B o s c f) ev ov m:=by
 have hox:∀x:St,(∀t∈fH B o,x.env t=s.env t)->∀y∈o.op.operands.toList,∀ty,bw P ty x y=bw P ty s y:=λx h1 y hy' ty=>jA (λu e=>h1 u (by
  subst e
  exact dx _ (fC.2 ⟨.tmp u,hy',rfl⟩))) ty
 have G:∀x∈c.args.toList,x∈o.op.operands.toList:=λx hx=>by simp_all[Op.operands,Call.operands,gY,bf]
 have hfo:f∈o.op.operands.toList:=by rw[ho];simp[Op.operands,Call.operands,hc]
 have hwide:∀x:St,(∀t∈fH B o,x.env t=s.env t)->wide x c f=wide s c f:=λx h1=>by
  have henv:∀y∈o.op.operands.toList,∀u,y= .tmp u->x.env u=s.env u:=λy hy u e=>h1 u (by
   subst e
   exact dx _ (fC.2 ⟨.tmp u,hy,rfl⟩))
  have e1:Wb x f=Wb s f:=by cases f with
   |tmp u=>simp only[Wb,henv _ hfo u rfl]
   |_=>rfl
  have e2:∀l:List Operand,(∀y∈l,y∈o.op.operands.toList)->l.any (Fh x)=l.any (Fh s):=by intro l;induction l with
   |nil=>simp
   |cons y l ih=>intro hl;simp only[uj];rw[ih λz hz=>hl z (by simp[hz])];cases y with
    |tmp u=>simp only[Fh,henv _ (hl (.tmp u) ai) u rfl]
    |_=>rfl
  unfold wide;rw[e1,e2 _ G]
 have he:∀x:St,(∀t∈fH B o,x.env t=s.env t)->step0 P h cr o x=kG P h cr x c f o.dst:=λx h1=>by
  have hwx:=(hwide x h1).trans hw;have hfn:ec P h cr o x=none:=by simp only[ec,ho,hc,how,U,hwx,au,sr,u9,aj]
  unfold step0;rw[hfn];cases O:o.dst with
  |none=>simp only[ni,ho,hc,O,hwx,Option.any_none,au,sr,aj]
  |some d=>rw[O] at how U;simp only[ni,ho,hc,O,how,U,hwx,au,sr,aj]
 rw[he s λ_ _=>rfl] at w;have hr0:∃g args,uU P h s c f=some (g,args):=by
  unfold wA at F;split at F
  .simp_all
  .cases F
 obtain⟨g,args,hra⟩:=hr0;have hF:wA P h B o s c f={ rs:=fH B o,ws:=o.dst.toList,ro:=jK s args,wo:=jK s args,mv:=(jK s args).filter (iB false s (q7 args)) }:=by unfold wA;rw[hra]
 rw[hF];have D:=hra;unfold uU at D;split at D
 .rename_i g0 pre q V hfn hvs;simp only[aW,ck] at D;obtain⟨rfl,rfl⟩:=D;unfold kG at w;rw[hfn,hvs] at w;simp only[U] at w;obtain⟨K,w⟩:=sK w;split at w
  .rename_i cM S;split at w
   .rename_i r BN I;split at w
    .rename_i back H;obtain⟨hns,w⟩:=sK w;injection w with w;generalize R:gN s 200 ((pre++(V++q)).flatMap SV.ids) []=ids at K S I H w;have hro:jK s (pre++(V++q))=ids:=R;rw[hro];have hfst:(jj (iB false s (q7 (pre++(V++q)))) 0 ids).map (·.1)=ids:=uw _ _ _;refine⟨s'.env,s'.ob,(ids.filter (iB false s (q7 (pre++(V++q))))).map λi=>(i,none),λp hp=> ?_,λj _ hk=>(by cases hk),λx h1 h2 _=> ?_⟩
     .obtain⟨i,hi,rfl⟩:=aG.1 hp;exact hi
     .have k1:bw P 0 x f=bw P 0 s f:=hox x h1 f hfo 0;have k2:uM P h x c.args.toList c.argTypes.toList=uM P h s c.args.toList c.argTypes.toList:=zV λy hy ty=>hox x h1 y (G y hy) ty
      have k3:gN x 200 ((pre++(V++q)).flatMap SV.ids) []=ids:=by rw[<-R];exact(pV 200 _ _ λid hid=>(h2 id (by rw[R] at hid;exact hid)).symm).symm
      have k4:∀id∈ids,iB false x (q7 (pre++(V++q))) id=iB false s (q7 (pre++(V++q))) id:=λid hid=>by simp only[iB,Py,h2 id hid]
      have k5:∀(l:List Nat) (n:Nat),(∀id∈l,id∈ids)->jj (iB false x (q7 (pre++(V++q)))) n l=jj (iB false s (q7 (pre++(V++q)))) n l:=by intro l;induction l with
       |nil=>intro n _;rfl
       |cons i l ih=>simp_all[jj]
      have k6:=k5 ids 0 λ_ h=>h
      have k7:kg x ids (iV (jj (iB false s (q7 (pre++(V++q)))) 0 ids)) (jj (iB false s (q7 (pre++(V++q)))) 0 ids)=some cM:=by
       rw[<-S];exact tX λp hp=>h2 p.1 (by grind)
      have k8 :=mE λi hi=>k4 i hi
      rw[he x h1];unfold kG;rw[k1,k2,hfn,hvs];simp only[U,k3,k6,K,k7,I,H,hns];refine aU _ (St.same (λt=> ?_) (λj=> ?_))
      .simp[fU];cases O:o.dst with
       |none=>simp_all[St.set,oO]
       |some d=>
        by_cases e:d=t
        .subst e;rw[<-w,O];simp[St.set,di]
        .rw[aA (by grind)];simp_all[St.set,bS,oO]
      .have acR:∀(y) (v),(St.set y o.dst v).ob=y.ob:=λy v=>by cases o.dst<;>rfl
       simp[fU,acR];by_cases e:j∈ids
       .grind[qI]
       .have hb:find back j=none:=by
         cases hf:find _ j with
         |none=>rfl
         |some o'=>grind[back_mem]
        simp_all[sY]
    simp_all
   simp_all
  simp_all
 simp_all
def Iv {d:Nat}:∀{l:List (Nat×Ob)} {k:Nat} {p:Nat×Nat},p∈newNames d k l->k+l.length<=8->p.1∈oL d
 |[],k,p,h,_=>by cases h
 |x::l,k,p,h,q=>by
  simp[newNames,aJ,bA] at h q;rcases h with rfl|h
  .exact aG.2 ⟨k,gL.2 af,rfl⟩
  .exact Iv h af
def Fv {d:Nat}:∀{l:List (Nat×Ob)} {k:Nat},(newNames d k l).length=l.length
 |[],k=>rfl
 |x::l,k=>by simp[newNames,Fv]
def HO {B l:St} {w:List Nat} {d:Nat}:∀{xs:List Operand} {q:List TypeId} {j:Nat},(∀x∈xs,∀ty,bw P ty B x=bw P ty l x)->C7 P w d B j xs q=C7 P w d l j xs q
 |[],_,_,_=>rfl
 |x::xs,q,j,z=>by unfold C7 argG;rw[z x ai,HO λy D=>z y (by simp[D])]
def Ff {d:Nat}:∀{xs:List Operand} {l:List TypeId} {j:Nat},nK P [] d j xs l=[]
 |[],_,_=>rfl
 |x::xs,l,j=>by simp[nK,Ff]
def Sr {F:St} {g:Nat} {args:List SV} {w q:Nat->Nat} {d:Option Nat} (z:∀i∈jK F args,w i=q i):kF cr F g args w d=kF cr F g args q d:=by
 unfold kF;simp only[];generalize D:gN F 200 (args.flatMap SV.ids) []=ids;have G:jK F args=ids:=D;rw[G] at z;have R:∀(l:List Nat) (n:Nat),(∀i∈l,i∈ids)->qU w n l=qU q n l:=by intro l;induction l with
  |nil=>intro n _;rfl
  |cons i l S=>simp_all[qU,dF,iN]
 have U:=R ids 0 λ_ h=>h
 have H:∀i∈ids,given w i=given q i:=λi B=>by simp[given,z i B]
 have K:∀i∈ids,(!(stays w i))= !(stays q i):=λi B=>by simp[stays,z i B]
 have k7:(qU q 0 _).filter (λp=> !(given _ _))=(qU _ 0 _).filter _:=mE λp I=>by rw[H _ (r9 _ 0 _ p I).1]
 have V :=mE K;have k9:ids.all (λi=> !(given w i))=ids.all (λi=> !(given q i)):=by rw[ia,cv,cv];exact⟨λh i B=>by simp_all,λh i B=>by simp_all⟩
 have O:ids.all (λi=> !(given w i)||iJ i)=ids.all (λi=> !(given q i)||iJ i):=by rw[ia,cv,cv];exact⟨λh i B=>by simp_all,λh i B=>by simp_all⟩
 simp_all
def gen_fx {F:Array Oper} {o:Oper} {s s':St} {c:Call} {f:Operand} (ho:o.op= .call c) (hc:c.callee= .value f) (how:o.dst.any h.owns.contains=true)
  (l:step0 P h cr o s=some s') (D:(Fa P h F o s c f).all=false):∃ev ov m,ko (step0 P h cr o) s (Fa P h F o s c f) ev ov m:=by
 have hox:∀x:St,(∀t∈fH F o,x.env t=s.env t)->∀y∈o.op.operands.toList,∀ty,bw P ty x y=bw P ty s y:=λx K y hy' ty=>jA (λu e=>K u (by
  subst e
  exact dx _ (fC.2 ⟨.tmp u,hy',rfl⟩))) ty
 have hargs:∀x∈c.args.toList,x∈o.op.operands.toList:=λx hx=>by simp_all[Op.operands,Call.operands,gY,bf]
 have hfo:f∈o.op.operands.toList:=by rw[ho];simp[Op.operands,Call.operands,hc]
 have he:∀x,step0 P h cr o x=iS P h cr x c f o.dst:=λx=>by
  have hfn:ec P h cr o x=none:=by simp only[ec,ho,hc,how,aj]
  unfold step0;rw[hfn];cases G:o.dst with
  |none=>rw[G] at how;cases how
  |some d=>rw[G] at how;simp only[ni,ho,hc,G,how,aj]
 rw[he] at l;unfold Fa at D⊢;split at D
 .rename_i d G;split at D
  .rename_i key hgv;split at D
   .rename_i g pre S vs hf hvs;generalize hkr:wH [] 0 vs=kr;have key:∀x:St,(∀t∈fH F o,x.env t=s.env t)->iS P h cr x c f (some d)=kF cr x g (pre++(vs++S)) (KN x (iB false x kr)) (some d):=λx K=>by
     unfold iS;simp only[hgv];unfold Db;simp only[Ff,iT,List.all_nil,aj];rw[hox x K f hfo 0,HO λy hy ty=>hox x K y (hargs y hy) ty,hf,hvs,<-hkr]
    rw[G,key s λ_ _=>rfl] at l;generalize pre++(vs++S)=args at key l;generalize hcls:KN s (iB false s kr)=q at l⊢;have hroI:jK s args=gN s 200 (args.flatMap SV.ids) []:=rfl;unfold kF at l;simp only[] at l;generalize V:gN s 200 (args.flatMap SV.ids) []=ids at l hroI;rw[hroI];obtain⟨AT,l⟩:=sK l;split at l
    .rename_i cM Tl;split at l
     .rename_i r O xA;simp only[su] at l;obtain⟨z,l⟩:=sK l;generalize hmB:(qU q 0 ids).filter (λp=> !(given q p.1))=mB at l z;generalize hnw:newNames d 0 (O.drop mB.length)=I at l z;have hlen:(O.drop mB.length).length<=8:=by
       simp only[aT] at z;have:=fD z.1.1.1.1;rwa[<-hnw,Fv] at this
      have hin:∀j∈I.map (·.1),j∈oL d:=λj H=>by obtain⟨p,R,rfl⟩:=aG.1 H;rw[<-hnw] at R;exact Iv R af
      have hinB:∀j∈mB.map (·.1),j∈ids:=λj H=>by obtain⟨p,R,rfl⟩:=aG.1 H;rw[<-hmB] at R;exact(r9 q 0 ids p (dw.1 R).1).1
      split at l
      .rename_i B hb;have acD:∀{j:Nat} {o':Ob},find B j=some o'->j∈ids++oL d:=λ{j o'} hf=>by
        have:=back_mem hb hf;rw[cE,bf] at this;rcases this with h|h
        .exact dx _ (hinB _ h)
        .exact gX _ (hin _ h)
       have hx:∀x:St,(∀t∈fH F o,x.env t=s.env t)->(∀j∈ids++oL d,x.ob j=s.ob j)->∀w,(match(generalizing:=false) r with
         | .gy [.gy [.self 0, .lY,y]]=>bif(xz y).closed ((mB++I).map (·.2)) then
           some (St.set { env:=(fJ (ids.filter (λi=> !(stays q i))++I.map (·.1)) x).env,ob:=λi=>(find B i).orElse λ_=>(fJ (ids.filter (λi=> !(stays q i))++I.map (·.1)) x).ob i } (some d) (LB (find B) ((xz y).qV (iV (swap (mB++I))))))
          else none
         |r=>bif r.jT then
           some (St.set { env:=(fJ (ids.filter (λi=> !(stays q i))++I.map (·.1)) x).env,ob:=λi=>(find B i).orElse λ_=>(fJ (ids.filter (λi=> !(stays q i))++I.map (·.1)) x).ob i } (some d) (.pv r))
          else none)=w->iS P h cr x c f (some d)=w:=λx K U w hw=>by
        have h2':∀j∈ids,x.ob j=s.ob j:=λj H=>U j (dx _ H)
        have k3:gN x 200 (args.flatMap SV.ids) []=ids:=by rw[<-V];exact(pV 200 _ _ λid hid=>(h2' id (by rw[V] at hid;exact hid)).symm).symm
        have k4:∀i∈jK x args,KN x (iB false x kr) i=q i:=λi hi=>by
         have hi':i∈ids:=by
          have:jK x args=ids:=k3
          rwa[this] at hi
         rw[<-hcls];simp only[KN,Ft,We,iB,Py,h2' i hi']
        have k7:kg x ids (iV (qU q 0 ids)) (qU q 0 ids)=some cM:=by rw[<-Tl];exact tX λp R=>h2' p.1 (r9 q 0 ids p R).1
        rw[key x K,Sr k4];unfold kF;simp only[k3,AT,aj,k7,xA,su,hmB,hnw,z,hb];exact hw
       have go:∀v:SV,s'=St.set { env:=(fJ (ids.filter (λi=> !(stays q i))++I.map (·.1)) s).env,ob:=λi=>(find B i).orElse λ_=>(fJ (ids.filter (λi=> !(stays q i))++I.map (·.1)) s).ob i } (some d) v->
         (∀x:St,(∀t∈fH F o,x.env t=s.env t)->(∀j∈ids++oL d,x.ob j=s.ob j)->iS P h cr x c f (some d)=some (St.set { env:=(fJ (ids.filter (λi=> !(stays q i))++I.map (·.1)) x).env,ob:=λi=>(find B i).orElse λ_=>(fJ (ids.filter (λi=> !(stays q i))++I.map (·.1)) x).ob i } (some d) v))->
         ∃ev ov m,ko (step0 P h cr o) s { rs:=fH F o,ws:=[d],ro:=ids++oL d,wo:=ids++oL d,mv:=ids.filter (λi=> !(stays q i))++oL d } ev ov m:=λv hs' hx=>by
        refine⟨s'.env,s'.ob,(ids.filter (λi=> !(stays q i))++I.map (·.1)).map λi=>(i,none),λp R=> ?_,λj _ hk=>(by cases hk),λx K U _=> ?_⟩
        .obtain⟨i,hi,rfl⟩:=aG.1 R;rcases bf.1 hi with hi|hi
         .exact dx _ hi
         .exact gX _ (hin i hi)
        .rw[he,G,hx x K U,hs'];refine aU some (St.same (λt=> ?_) (λj=> ?_))
         .simp only[fU,bZ];by_cases e:t=d
          .subst e;simp[St.set,di]
          .rw[aA e];simp only[St.set,bS _ _ (λh=>e h.symm),oO]
         .have acR:∀(y) (v),(St.set y (some d) v).ob=y.ob:=λy v=>rfl
          simp only[fU,acR];by_cases e:j∈ids++oL d
          .rw[aC e,qI _ _ _ _ (U j e)]
          .rw[aA e];have hb0:find B j=none:=by
            cases hf:find B j with
            |none=>rfl
            |some o'=>exact absurd (acD hf) e
           have H:j∉ids.filter (λi=> !(stays q i))++I.map (·.1):=λH=>e (by
            rcases bf.1 H with H|H
            .exact dx _ (dw.1 H).1
            .exact gX _ (hin j H))
           rw[hb0,sY _ _ _ H];rfl
       split at l
       .rename_i y;obtain⟨hc3,l⟩:=sK l;injection l with l;exact go _ l.symm λx K U=>hx x K U _ (by simp only[hc3,aj])
       .rename_i hno;obtain⟨hc3,l⟩:=sK l;injection l with l;refine go _ l.symm λx K U=>hx x K U _ ?_
        split
        .exact absurd rfl (hno _)
        .simp only[hc3,aj]
      .cases l
     .cases l
    .cases l
   .cases D
  .cases D
 .cases D
def put_fx {G:Array Oper} {o:Oper} {s s':St} {t:TypeId} {a y:Operand} {id R i w j:Nat} (ho:o.op= .store t a y) (V:bw P 0 s a=some (.rp id R i w)) (hy:bw P t s y=some (.row j)) (l:step0 P h cr o s=some s') (D:(mo P h G o s).all=false):
  ∃ev ov m,ko (step0 P h cr o) s (mo P h G o s) ev ov m:=by
 obtain⟨F,B⟩:∃F,mo P h G o s=F:=⟨_,rfl⟩
 rw[B] at D⊢;unfold mo at B;rw[ho] at B;cases I:o.dst with
 |some d=>rw[I] at B;subst B;cases D
 |none=>
  rw[I] at B;simp[Fb,V,hy] at B;subst B;have he:∀x:St,bw P 0 x a=some (.rp id R i w)->bw P t x y=some (.row j)->step0 P h cr o x=IF P x t id R i w j:=λx h1 U=>by simp_all[ec,fe,step0,ni]
  rw[he s V hy] at l;unfold IF at l;split at l
  .rename_i e sz' k e' s2 xs ys S s3 zs H hsz qF K;cases hb:(Nat.beq R sz'&&Nat.beq w k&&Nat.blt id 10000&&Nat.blt j 10000&&Nat.beq e' S&&Nat.beq s2 s3&&Nat.blt i ys.length&& !(Nat.beq id j)) with
   |false=>simp_all
   |true=>
   rw[hb] at l;simp at l;refine⟨s'.env,s'.ob,[(j,none),(id+40000,none)],by simp,λq hq hk=> ?_,λx h1 U _=> ?_⟩<;>subst l
   .simp_all[di,Ob.uD]
   .have O:∀z∈o.op.operands.toList,∀ty,bw P ty x z=bw P _ s z:=λz hz ty=>jA (λu e=>h1 u (by
     subst e
     exact dx _ (fC.2 ⟨_,hz,rfl⟩))) _
    have k1:=O a (by rw[ho];simp[Op.operands]) 0;have k2:=O y (by rw[ho];simp[Op.operands]) t;have x1 :=(U _ ai).trans qF;have x2 :=(U j ai).trans K;rw[he x (k1.trans V) (k2.trans hy)];unfold IF;simp only[H,hsz,x1,x2,hb];refine aU _ (St.same (λu=> ?_) (λu=> ?_))
    .exact oO [j,id+40000] x u
    .simp[fU];by_cases e:u=id
     .simp_all[di]
     .simp[bS _ _ (λh=>e h.symm)];by_cases S:u=j
      .rw[aC (.inr (.inl S))];exact qI [j,id+40000] x s u (by simp_all)
      .by_cases e3:u=id+40000
       .simp_all[St.dD,di]
       .rw[aA af];exact sY [j,id+40000] x u (by simp_all)
  simp_all
def wM (q:List (Nat×Nat×TypeId×Nat)):∀(l:List (Nat×TypeId×Nat)) (w:St) (t:Nat),(iT q l w).env t=(w.env t).map (kJ (l.map λx=>(x.1,none)))
 |[],w,t=>by exact(iF λ_=>rfl).symm
 |(id,e,s)::l,w,t=>by simp only[iT];rw[wM q l _ t];simp[St.new,St.dD,Option.map_map];rfl
def Dt (z:List (Nat×Nat×TypeId×Nat)):∀(l:List (Nat×TypeId×Nat)) (q:St) (j:Nat),j∉l.map (·.1)->(iT z l q).ob j=(q.ob j).map (Ob.Ag (kJ (l.map λx=>(x.1,none))))
 |[],q,j,_=>by grind[iT,iF,BP]
 |(id,e,s)::l,q,j,w=>by simp only[bM,aJ,not_or] at w;simp[iT];rw[Dt _ l _ j w.2];simp only[St.new,St.dD,bS _ _ (λh=>w.1 h.symm)];cases q.ob j with
  |none=>rfl
  |some o=>cases o<;>simp only[ey,Ob.dD,Ob.Ag,fF]<;>rfl
def uR (w:List (Nat×Nat×TypeId×Nat)):∀(l:List (Nat×TypeId×Nat)) (z q:St) (j:Nat),z.ob j=q.ob j->(iT w l z).ob j=(iT w l q).ob j
 |[],z,q,j,h=>h
 |(id,e,s)::l,z,q,j,h=>by
  refine uR w l _ _ j ?_;by_cases e:id=j
  .simp_all[St.new,di]
  simp_all[St.new,St.dD,bS]
def T2 {v:AV}:∀l:List (Nat×Option AV),kJ l (.pv v)= .pv v
 |[]=>rfl
 |p::l=>by
  obtain⟨c,_,e,_⟩:=La p _;have e:T4 p (.pv v)= .pv v:=by rw[e];rfl
  show kJ l (T4 p _)= .pv v;rw[e,T2 l]
def Fw {w:List (Nat×Nat×TypeId×Nat)} {l:List (Nat×TypeId×Nat)} {z:St} {t:TypeId} {y:Operand} {v:AV} (q:bw P t z y=some (.pv v)):bw P t (iT w l z) y=some (.pv v):=by cases y with
 |tmp i=>simp only[bw] at q⊢;rw[wM,q,ey,T2]
 |_=>exact q
def aaN {st st':St} {v:AV}:GZ st (.pv v)=GZ st' (.pv v):=by cases v<;>rfl
def FB {ty:Nat->TypeId} {st st1 st2:St}:∀{l:List (Nat×Operand)} {q:List (Nat×AV)},(∀y∈l.map (·.2),∀t v,bw P t st y=some (.pv v)->bw P t st1 y=some (.pv v)/\bw P t st2 y=some (.pv v))->partsOf P ty st l=some q->
  rH P ty st1 l=rH P ty st2 l/\∀G,rH P ty st1 l=some G->∀p∈G,∀c∈p.2,∃v,c= .pv v
 |[],_,_,_=>⟨rfl,λG h p F=>by simp only[rH,aW] at h;subst h;cases F⟩
 |(i,y)::l,q,V,K=>by
  unfold partsOf at K;split at K
  .rename_i v vs hv R;obtain⟨sv,O,I⟩:=dB.1 hv;cases sv with
   |pv v'=>
    obtain⟨U,h2⟩:=V y ai (ty i) v' O;obtain⟨k1,k2⟩:=FB (λz hz=>V z (by simp only[bM,aJ];exact .inr hz)) R;refine⟨?_,λG B p F c H=> ?_⟩
    .simp only[rH];rw[U,h2,k1];simp only[gZ];rw[aaN (st:=st1) (st':=st2)]
    .unfold rH at B;split at B
     .rename_i w ws D S;injection B with B;subst B;rcases aJ.1 F with rfl|F
      .rw[U] at D;simp only[gZ] at D;unfold GZ at D;split at D
       .injection D with D;subst D;obtain⟨a,_,rfl⟩:=aG.1 H;exact⟨a,rfl⟩
       .obtain⟨_,D⟩:=sK D;injection D with D;subst D;rw[bZ.1 H];exact⟨_,rfl⟩
      .exact k2 _ S p F c H
     .cases B
   |_=>simp[jg] at I
  .cases K
def NF {Q:SV->Prop} {place:Nat->Option (Nat×Nat)}:∀{l:List (Nat×List SV)} {cells r:List SV},H6 place cells l=some r->(∀c∈cells,Q c)->(∀p∈l,∀c∈p.2,Q c)->∀c∈r,Q c
 |[],cells,r,h,w,_=>by simp_all[H6]
 |(i,v)::l,cells,r,h,w,z=>by
  unfold H6 at h;split at h
  .cases h
  .split at h
   .refine NF h (λc q=> ?_) λp B=>z p (dF _ B)
    rcases bf.1 q with q|q
    .rcases bf.1 q with q|q
     .grind
     simp_all
    grind
   grind
def BE {K:List Nat} {d:Nat}:∀(j:Nat) (F:List TypeId) (G:List Value) (w:List SV) (l:List (Nat×TypeId×Nat)),oy P K d j F G=some (w,l)->∀c∈w,(∃v,c= .pv v)\/∃id∈l.map (·.1),c= .row id
 |j,[],[],w,l,q,c,z=>by simp only[oy,aW,ck] at q;obtain⟨rfl,rfl⟩:=q;cases z
 |j,[],_::_,w,l,q,c,z=>by simp[oy] at q
 |j,_::_,[],w,l,q,c,z=>by simp[oy] at q
 |j,t::F,v::G,w,l,q,c,z=>by
  unfold oy at q;split at q
  .rename_i D I B;split at q
   .obtain⟨_,q⟩:=sK q;simp only[aW,ck] at q;obtain⟨rfl,rfl⟩:=q;rcases aJ.1 z with rfl|z
    .exact .inr ⟨_,by simp,rfl⟩
    .rcases BE (j+1) F G D I B c z with h|⟨id,H,h⟩
     .exact .inl h
     .exact .inr ⟨id,by simp only[bM,aJ];exact .inr H,h⟩
   .simp only[cu,ck] at q;obtain⟨a,_,rfl,rfl⟩:=q;rcases aJ.1 z with rfl|z
    .exact .inl ⟨a,rfl⟩
    .exact BE (j+1) F G D I B c z
  .cases q
def Dc {w q:St}:∀{l:List SV},(∀c∈l,pH w c=pH q c)->xw w l=xw q l
 |[],_=>rfl
 |c::l,h=>by unfold xw abT;rw[h c (iN ..),Dc λx z=>h x (dF _ z)]
def rows_fx {U:Array Oper} {o:Oper} {s s':St} {d:Nat} {t:TypeId} {z:Array (Nat×Operand)} (ho:o.op= .build t z) (G:o.dst=some d) (R:h.rows.contains d=true) (w:step0 P h cr o s=some s')
  (B:(BK P h U o s d t z.toList).all=false):∃ev ov m,ko (step0 P h cr o) s (BK P h U o s d t z.toList) ev ov m:=by
 have he:∀x,step0 P h cr o x=vQ P h x d t z.toList:=λx=>by
  have hfn:ec P h cr o x=none:=by simp only[ec,fe,ho,G,sw,R,aj]
  unfold step0;rw[hfn];simp only[ni,G,ho,R,aj]
 rw[he] at w;unfold BK at B⊢;split at B
 .rename_i svs l q hz hq;unfold vQ at w;rw[hz] at w;split at w
  .rename_i fs svs' l' hu e1;injection e1 with e1;injection e1 with e1 e2;subst e1;subst e2;obtain⟨hfs,w⟩:=sK w;split at w
   .rename_i ps I;split at w
    .rename_i cs hcs;injection w with w;obtain⟨sv,D,hca⟩:=dB.1 hcs;obtain⟨vs,_,F⟩:=dB.1 hz;refine⟨s'.env,s'.ob,l.map λx=>(x.1,none),λp hp=> ?_,λj _ hk=>(by cases hk),λx h1 h2 _=> ?_⟩
     .obtain⟨i,hi,rfl⟩:=aG.1 hp;exact aG.2 ⟨i,hi,rfl⟩
     .have hox:∀y∈z.toList.map (·.2),∀ty,bw P ty x y=bw P ty s y:=λy hy ty=>jA (λu e=>h1 u (by
       subst e
       exact dx _ (fC.2 ⟨.tmp u,by rw[ho];simpa[Op.operands] using hy,rfl⟩))) ty
      have O:=FB (ty:=E7 P t) (st:=s) (st1:=iT h.nest l s) (st2:=iT h.nest l x) (λy hy ty v hv=>⟨Fw hv,Fw ((hox y hy ty).trans hv)⟩) hq;have K:rH P (E7 P t) (iT h.nest l x) z.toList=some ps:=by rw[<-O.1];exact I
      have H:∀c∈sv,pH (iT h.nest l x) c=pH (iT h.nest l s) c:=λc V=>by
       rcases NF (Q:=λc=>(∃v,c= .pv v)\/∃id∈l.map (·.1),c= .row id) D (BE 0 _ _ _ _ F) (λp hp c V=> .inl (O.2 _ I p hp c V)) c V with⟨v,rfl⟩|⟨id,hid,rfl⟩
       .cases v<;>rfl
       .simp only[pH,uR h.nest l x s id (h2 id hid)]
      rw[he];unfold vQ;rw[hz];simp only[hu,hfs,aj,K,D,gZ];rw[Dc H,hca];refine aU some (St.same (λu=> ?_) (λj=> ?_))
      .simp only[fU,bZ];by_cases e:u=d
       .subst e;rw[<-w];simp[St.set,di]
       .rw[aA e];simp only[St.set,bS _ _ (λh=>e h.symm),wM]
      .have S:∀(y) (v),(St.set y (some d) v).ob=y.ob:=λy v=>rfl
       simp only[fU,S];by_cases e:j∈l.map (·.1)
       .rw[aC e,uR h.nest l x s j (h2 j e),<-w];rfl
       .rw[aA e,Dt _ _ _ _ e]
    .cases w
   .cases w
  .cases w
 .cases B
def VN {H:Array Oper} {o:Oper} {s s':St} (q:step0 P h cr o s=some s') (B:(mo P h H o s).all=false):
  ∃ev ov m,ko (step0 P h cr o) s (mo P h H o s) ev ov m:=by
 by_cases hld:∃t x,o.op= .load t x
 .obtain⟨t,a,ho⟩:=hld;exact take_fx ho q B
 by_cases hpt:∃t a x id sz i off j,o.op= .store t a x/\bw P 0 s a=some (.rp id sz i off)/\bw P t s x=some (.row j)
 .obtain⟨t,a,x,id,sz,i,off,j,ho,ha,hx⟩:=hpt;exact put_fx ho ha hx q B
 by_cases hct:∃t a x id off j sz lo hi,o.op= .store t a x/\bw P 0 s a=some (.ptr id off)/\bw P t s x=some (.sub j sz lo hi)
 .obtain⟨t,a,x,id,off,j,sz,lo,hi,ho,ha,hx⟩:=hct;unfold mo at B;rw[ho] at B;cases G:o.dst with
  |some d=>rw[G] at B;cases B
  |none=>rw[G] at B;simp only[Fb,ha,hx] at B;cases B
 have go:∀{l:List (Nat×Option AV)},(∀p∈l,p.1∈(mo P h H o s).mv)->(∀t∈fH H o,t∈(mo P h H o s).rs)->(∀x:St,(∀t∈(mo P h H o s).rs,x.env t=s.env t)->(∀j∈(mo P h H o s).ro,x.ob j=s.ob j)->step0 P h cr o x=some (fU (mo P h H o s) s'.env s'.ob l x))->
   ∃ev ov m,ko (step0 P h cr o) s (mo P h H o s) ev ov m:=λhk _ O=>⟨_,_,_,hk,λj _ hj=>(by rw[kp_E0 hld hpt] at hj;cases hj),λx K U _=>O x K U⟩
 obtain⟨F,D⟩:∃F,mo P h H o s=F:=⟨_,rfl⟩
 rw[D] at B go⊢;unfold mo at D;split at D
 ·
  rename_i t ax ay w hdn;replace D:CA P H o s ax=F:=by
   rw[<-D];unfold Fb;split
   .rename_i K U;exact absurd ⟨_,_,_,_,_,_,_,_,w,K,U⟩ hpt
   .rename_i K U;exact absurd ⟨_,_,_,_,_,_,_,_,_,w,K,U⟩ hct
   .rfl
  unfold CA at D;split at D
  .rename_i id hx;subst D;obtain⟨sa,hsa,htg⟩:=dB.1 hx;have R:∀x,ec P h cr o x=none:=λx=>by simp[ec,w,fe]
   have V:=q;unfold step0 at V;rw[R] at V;simp only[ni,hdn,w,hsa] at V;split at V
   .rename_i K U;injection K with K;subst K;exact absurd ⟨_,_,_,_,_,_,_,_,w,hsa,U⟩ hpt
   .rename_i K U;injection K with K;subst K;exact absurd ⟨_,_,_,_,_,_,_,_,_,w,hsa,U⟩ hct
   .rename_i sa' sv _ hnr e1 hy;injection e1 with e1;subst e1;obtain⟨l1,l2,l3⟩:=Ng V htg;refine go (l:=[]) ai (λt ht=>ht) λx K U=> ?_
    have hox:∀y∈o.op.operands.toList,∀ty,bw P ty x y=bw P ty s y:=λy hy' ty=>jA (λu e=>K u (by
     subst e
     exact dx _ (fC.2 ⟨.tmp u,hy',rfl⟩))) ty
    have k1:=hox ax (by rw[w];simp[Op.operands]) 0;have k2:=hox ay (by rw[w];simp[Op.operands]) t;unfold step0;rw[R];have hsel:ni P h cr o x=storeAt P t x sa sv:=by simp only[ni,hdn,w,k1,k2,hsa,hy]
    simp only;rw[hsel,l3 x (U id ai) λj hj=>U j (dF _ (vR (P:=P) (x:=ay) (ty:=t) (by rw[w];simp[Op.operands]) hy hj))];congr 1;refine St.same (λu=> ?_) (λu=> ?_)
    .simp only[fU,mG,e8];exact(iF λ_=>rfl).symm
    .simp only[fU,bZ];by_cases e:u=id
     .subst e;simp[di]
     .rw[aA e,bS _ _ (λh=>e h.symm)];exact(iF BP).symm
   .cases V
  .subst D;cases B
 ·
  rename_i t d w G;cases S:h.rows.contains d with
  |true=>rw[S] at D;subst D;cases B
  |false=>
   rw[S] at D;simp only[au] at D;subst D;have he:∀x,step0 P h cr o x=match OD P h (some d) t with
    |some z=>some ((x.new d (.box t (z.map .pv))).set (some d) (.ptr d 0))
    |none=>none:=λx=>by
    have R:ec P h cr o x=none:=by simp[ec,w,fe]
    unfold step0;rw[R];simp only[ni,G,w,S,au];rfl
   rw[he] at q;split at q
   .rename_i z hz;injection q with q;subst q;refine go (l:=[(d,none)]) ai (λt ht=>ht) λx K U=> ?_
    rw[he,hz];simp only;rw[GV (f:={ rs:=fH H o,ws:=[d],wo:=[d],mv:=[d] }) (s:=s) rfl rfl]
   .cases q
 ·
  rename_i t len I d w G;cases hby:h.ga.contains d with
  |true=>rw[hby] at D;subst D;cases B
  |false=>
  rw[hby] at D;simp only[au] at D;cases S:h.rows.contains d with
  |false=>rw[S] at D;subst D;cases B
  |true=>
   rw[S] at D;simp only[aj] at D;subst D;have he:∀x,step0 P h cr o x=match lX P t len I.toList x with
    |some (e,s,xs)=>match find h.nest d with
     |none=>some ((x.new d (.row e s xs)).set (some d) (.row d))
     |some (k,e',s')=>bif Nat.blt k s&&xs.all (rG k) then some ((x.new d (.rn e s k e' s' (xs.map λc=>c.set k .hole) (xs.map λ_=>some []))).set (some d) (.row d)) else none
    |none=>none:=λx=>by
    have R:ec P h cr o x=none:=by simp only[ec,w,G,sw,S,u9,aj]
    unfold step0;rw[R];simp only[ni,G,w,hby,au];rfl
   have hl:∀x:St,(∀t∈fH H o,x.env t=s.env t)->lX P t len I.toList x=lX P t len I.toList s:=λx K=>by
    unfold lX
    have hp:∀ty,partsOf P ty x I.toList=partsOf P ty s I.toList:=λty=>ua (λy hy t=>jA (λu e=>K u (by
     subst e
     exact dx _ (fC.2 ⟨.tmp u,by rw[w];simpa[Op.operands] using hy,rfl⟩))) t)
    simp only[hp]
   rw[he] at q;obtain⟨ob,hs',O⟩:∃ob:Ob,s'=(s.new d ob).set (some d) (.row d)/\∀x:St,lX P t len I.toList x=lX P t len I.toList s->step0 P h cr o x=some ((x.new d ob).set (some d) (.row d)):=by
    split at q
    .rename_i e sz xs hlit;split at q
     .rename_i hn;injection q with q;exact⟨_,q.symm,λx hx=>by rw[he,hx,hlit];simp only[hn]⟩
     .rename_i k e' s2 hn;obtain⟨hb,q⟩:=sK q;injection q with q;exact⟨_,q.symm,λx hx=>by rw[he,hx,hlit];simp only[hn,hb,aj]⟩
    .cases q
   subst hs';refine go (l:=[(d,none)]) ai (λt ht=>ht) λx K U=> ?_
   rw[O x (hl x K),GV (f:={ rs:=fH H o,ws:=[d],wo:=[d],mv:=[d] }) (s:=s) rfl rfl]
 ·
  rename_i t I d w G;cases S:h.rows.contains d with
  |false=>rw[S] at D;subst D;cases B
  |true=>rw[S] at D;simp only[aj] at D;subst D;exact rows_fx w G S q B
 ·
  rename_i t l c d w G;subst D;have R:∀x,ec P h cr o x=none:=λx=>by simp[ec,w,fe]
  obtain⟨ob,hs',O⟩:∃ob:Ob,s'=(s.new d ob).set (some d) (.row d)/\∀x:St,(∀y∈o.op.operands.toList,∀ty,bw P ty x y=bw P ty s y)->step0 P h cr o x=some ((x.new d ob).set (some d) (.row d)):=by
   unfold step0 at q;rw[R] at q;simp only[ni,G,w] at q;split at q
   .rename_i e sz k1 nl k2 nc K U h3;split at q
    .rename_i z i hz hi;split at q
     .rename_i hc;injection q with q;refine⟨_,q.symm,λx hx=> ?_⟩;unfold step0;rw[R];simp only[ni,G,w,hx l (by rw[w];simp[Op.operands]) 0,hx c (by rw[w];simp[Op.operands]) 0,K,U,h3,hz,hi];rw[aC hc]
     .cases q
    .cases q
   .cases q
  subst hs';refine go (l:=[(d,none)]) ai (λt ht=>ht) λx K U=> ?_
  rw[O x (λy hy ty=>jA (λu e=>K u (by subst e;exact dx _ (fC.2 ⟨.tmp u,hy,rfl⟩))) ty),GV (f:={ rs:=fH H o,ws:=[d],wo:=[d],mv:=[d] }) (s:=s) rfl rfl]
 .rename_i c w;split at D
  ·
   rename_i hc;unfold Pk at D;split at D
   .rename_i x y t t' d hargs htys G;split at D
    .rename_i id hx;subst D;obtain⟨ob,hs',O⟩:=abF w hc hargs htys G hx q;subst hs';refine go (l:=[(id,none)]) ai (λt ht=>ht) λx K U=> ?_
     rw[O x (λt ht=>K t (by simp[fH,ht])) U,GV (f:={ rs:=fH H o,ws:=[d],ro:=id::Dv s o,wo:=[id],mv:=[id] }) (s:=s) rfl rfl]
    .rename_i id hx;subst D;obtain⟨ob,hs',O⟩:=ZM w hc hargs htys G hx q;subst hs';refine go (l:=[(id,none)]) ai (λt ht=>ht) λx K U=> ?_
     rw[O x (λt ht=>K t (by simp[fH,ht])) U,GV (f:={ rs:=fH H o,ws:=[d],ro:=id::Dv s o,wo:=[id],mv:=[id] }) (s:=s) rfl rfl]
    .subst D;cases B
   .subst D;cases B
  ·
   rename_i f hc;cases how2:(o.dst.any h.owns.contains&& !(o.dst.any (λd=>(xJ h d).isSome))) with
   |false=>rw[how2] at D;simp only[au] at D;cases hmn:(!(o.dst.any h.owns.contains)&&(!(o.dst.any h.stay.contains)&&wide s c f)) with
    |false=>rw[hmn] at D;simp only[au] at D;cases how3:o.dst.any h.owns.contains with
     |false=>rw[how3] at D;subst D;cases B
     |true=>rw[how3] at D;simp only[aj] at D;subst D;exact gen_fx w hc how3 q B
    |true=>rw[hmn] at D;simp only[aj] at D;rw[<-D] at B⊢;simp only[aT,gE] at hmn;exact many_fx w hc hmn.1 hmn.2.1 hmn.2.2 q B
   |true=>
    rw[how2] at D;simp only[aj] at D;subst D;obtain⟨how,hnil⟩:=ql.1 how2;have he:∀x,step0 P h cr o x=iS P h cr x c f o.dst:=λx=>by
     have R:ec P h cr o x=none:=by simp only[ec,w,hc,how,aj]
     unfold step0;rw[R];cases G:o.dst with
     |none=>rw[G] at how;cases how
     |some d=>rw[G] at how;simp only[ni,w,hc,G,how,aj]
    have hox:∀x:St,(∀t∈fH H o,x.env t=s.env t)->∀y∈o.op.operands.toList,∀ty,bw P ty x y=bw P ty s y:=λx K y hy' ty=>jA (λu e=>K u (by
     subst e
     exact dx _ (fC.2 ⟨.tmp u,hy',rfl⟩))) ty
    rw[he] at q;unfold iS at q;split at q
    .rename_i d G;have hn:(xJ h d).isSome=false:=by simpa[G] using hnil
     have hgv:find h.uP d=none:=by cases hg:find h.uP d with
      |none=>rfl
      |some gv=>simp[xJ,hg] at hn
     rw[hn,hgv] at q;simp only[] at q;split at q
     .rename_i g caps vs hf hvs;split at q
      rotate_left
      .rename_i cs' hr
       have:xJ h d=none:=by simpa using hn
       rw[this] at q;cases q
      .cases q
      rename_i e sz xs hr;injection q with q;subst q;refine go (l:=[(d,none)]) (by simp[G]) (λt ht=>ht) λx K U=> ?_
      have k1:=hox x K f (by rw[w];simp[Op.operands,Call.operands,hc]) 0;have k2:=B1 (P:=P) (b:=false) (st:=x) (st':=s) (xs:=c.args.toList) (ts:=c.argTypes.toList) (λy hy=>hox x K y (by rw[w];simp only[Op.operands,Call.operands,gY,bf];exact .inr hy));rw[he];unfold iS;rw[G];simp only[hgv,hn,k1,k2,hf,hvs,hr,au];exact aU some (GV (f:={ rs:=fH H o,ws:=(some d).toList,wo:=(some d).toList,mv:=(some d).toList }) (s:=s) rfl rfl)
     .cases q
    .cases q
  .subst D;cases B
 .rename_i hq _;exact absurd ⟨_,_,hq⟩ hld
 .subst D;cases B
def Ta {ops:Array Oper} {o:Oper}:∀{l:List Nat} {s s':St},(nR l s).bind (step0 P h cr o)=some s'->(NJ P h ops o l s).all=false->∃ev ov m,ko (λx=>(nR l x).bind (step0 P h cr o)) s (NJ P h ops o l s) ev ov m
 |[],s,s',q,w=>by simp only[nR,gZ] at q⊢;simp only[NJ] at w⊢;cases z:isF h s o with
  |false=>simp_all[au,VN]
  |true=>rw[z] at w;simp only[aj] at w⊢;cases S:(isW o.op||isWc s o.op) with
   |false=>rw[S] at w;cases w
   |true=>simp only[aj];cases D:ec P h cr o s with
    |some v=>exact⟨_,_,_,U2 D⟩
    |none=>exfalso;unfold step0 at q;rw[D] at q;simp only at q;cases B:o.op with
     |buildSlice t len R=>
      simp only[isF,B] at z;obtain⟨z,G⟩:o.dst.any h.rows.contains=false/\o.dst.any h.ga.contains=false:=by simpa using z
      simp only[ec,B,z,G,Bool.or_self,au,Option.map_eq_none_iff] at D;cases H:o.dst with
      |none=>simp[ni,B,H] at q
      |some d=>rw[H] at G;simp only[sw] at G;simp only[ni,B,H,G,au,D] at q;cases q
     |build t R=>
      simp only[isF,B] at z;have z:o.dst.any h.rows.contains=false:=by simpa using z
      cases H:o.dst with
      |none=>simp[ni,B,H] at q
      |some d=>simp_all[ni,au]
     |load t x=>
      simp only[isF,B] at z;have z:o.dst.any h.take.contains=false:=by simpa using z
      cases H:o.dst with
      |none=>simp[ni,B,H] at q
      |some d=>simp_all[ni,au]
     |call c=>simp only[isW,B,lz,isWc] at S;cases hc:c.callee with
      |value f=>
       rw[hc] at S;simp only[gE] at S;have U:∀x∈c.args.toList,lZ s x=false:=λx hx=>by grind
       have hag:c.args.toList.any (x5 s)=false:=by rw[mD];intro x hx ha;have F:=U x hx;cases x with
        |tmp i=>simp only[x5] at ha;simp only[lZ] at F;grind
        |_=>cases ha
       have lW:∀l:List Operand,(∀x∈l,lZ s x=false)->ni.iC s l=some s:=by intro l;induction l with
        |nil=>intro _;rfl
        |cons x l ih=>
         intro hl;have F:=hl x ai;have h2:=ih λy hy=>hl y (by simp[hy])
         cases x with
         |tmp i=>simp only[ni.iC];simp only[lZ] at F;grind
         |_=>exact h2
       have hpa:ni.jV s c.args.toList=some s:=by unfold ni.jV;rw[hag];exact lW _ U
       simp only[isF,B,hc,aT,gE,gC] at z;obtain⟨how,z⟩:=z
       have he:ni P h cr o s=(bif o.dst.any h.owns.contains then iS P h cr s c f o.dst else bif o.dst.any h.stay.contains&&wide s c f then none else bif wide s c f then kG P h cr s c f o.dst else bif c.args.toList.any (λx=>(qb h s x).isSome) then qD P h cr s c f o.dst else
        match ni.jV s c.args.toList with
        |some I=>match bw P 0 I f,j8 P I c.args.toList c.argTypes.toList with
         |some (.pv (.fn g K)),some vs=>match cr g ((vs++K).map .pv) [] with
          |some (r,[])=>bif c.args.toList.any (lZ I)|| !r.jT then none else some (I.set o.dst (.pv r))
          |_=>none
         |_,_=>none
        |none=>none):=by
        cases H:o.dst<;>simp only[ni,B,hc,H]<;>rfl
       rw[he,how] at q;simp only[au] at q;rcases z with z|z
       .simp_all
       .obtain⟨hwd,hrf⟩:=(kE).1 z;rw[hwd,hrf,hpa] at q;simp only at q;simp only[ec,B,hc] at D;rw[how,hwd,hrf] at D;split at q
        .rename_i g K vs F h2;rw[F,h2] at D;simp only at D;split at q
         .rename_i r hr;rw[hr] at D;simp[S] at D q;cases V:r.jT with
          |true=>rw[V] at D;cases D
          |false=>rw[V] at q;cases q
         simp_all
        simp_all
      |_=>simp_all
     |_=>simp[isW,isWc,B] at S
 |t::l,s,s',q,w=>by simp[nR] at q;cases F:qY s t with
  |none=>simp_all
  |some s1=>
   rw[F] at q;simp[NJ,F] at w⊢;have O :=by simp[gz.then,kE] at w;exact w.2
   obtain⟨ev,ov,m,r1⟩:=aaR F;obtain⟨ev',ov',m',r2⟩:=Ta q O;have e1:=r1.at F;rw[e1] at r2;obtain⟨ev2,ov2,r3⟩:=Zt r1 r2;rw[<-e1] at r3;refine⟨ev2,_,_,r3.1,r3.2.1,λx k1 k2 k3=> ?_⟩;rw[<-r3.2.2 x k1 k2 k3];grind[nR]
theorem aab {l:Array Oper} {k:Nat} {o:Oper} {s F:St} (U:l[k]? =some o) (V:qN l o s=some true) (B:step P h cr o s=some F) (w:((uX P h l o s).fill s F).all=false):
  ∃G O m,JV (rO P h cr l k) s ((uX P h l o s).fill s F) G O m/\R6 s ((uX P h l o s).fill s F):=by
 have z :=by simp[uX,gz.then,sq] at w;exact w
 obtain⟨G,O,m,r⟩:=Ta B z;have D:ko (step P h _ o) s (uX P h l o s) _ _ m:=r.imp (λt q=>by simp[uX,gz.then,q]) (λt q=>by simp[uX,gz.then,q]) (λt q=>by simp[uX,gz.then,q]) (λt=>by rfl) (λt=>by rfl) (λt q=>by simp[uX,gz.then,q]) (λt q K=>by simp_all[uX,gz.then]);have e:=D.at B;refine Pg D.1 (λx H R S=> ?_) λj I K=> ?_
 rotate_left
 .rw[e,skO I];exact D.2.1 j I K
 simp[rO,U];rw[AL λt q=>H t (by simp[uX,gz.then,q]),V];simp only;rw[D.2.2 x H R S,e];congr 1;refine St.same (λt=> ?_) (λj=> ?_)
 .simp[fU];simp_all
 .simp[fU];simp_all
def run_of {w:Array Oper}:∀(l:List Oper) (i:Nat) (z:List (Nat×gz)) (B s:St),(∀k o,l[k]? =some o->w[i+k]? =some o)->kQ P h cr w i l z B=some s->
  ∃F:List (Nat×gz),F.length=l.length/\(∀j,j∈F.map (·.1)↔i<=j/\j<i+l.length)/\F.Pairwise (λp q=>p.1<q.1)/\OI (rO P h cr w) F B s/\
   (∀p∈z,∀q∈F,p.2.conflict q.2=true->reach w 12 q.1 p.1=true)/\F.Pairwise (λp q=>p.2.conflict q.2=true->reach w 12 q.1 p.1=true):=by
 intro l;induction l with
 |nil=>intro i z B s _ D;simp only[kQ,aW] at D;exact⟨[],rfl,by simp, .nil,D,by simp, .nil⟩
 |cons o l ih=>
  intro i z B s R D;have V:w[i]? =some o:=by simpa using R 0 o ai
  have H:∀(f:gz) (G:St),rO P h cr w i B=some G->(f.all=false->∃ev ov m,JV (rO P h cr w i) B f ev ov m/\R6 B f)->ye w z i f=true->kQ P h cr w (i+1) l ((i,f)::z) G=some s->
    ∃F:List (Nat×gz),F.length=(o::l).length/\(∀j,j∈F.map (·.1)↔i<=j/\j<i+(o::l).length)/\F.Pairwise (λp q=>p.1<q.1)/\OI (rO P h cr w) F B s/\
     (∀p∈z,∀q∈F,p.2.conflict q.2=true->reach w 12 q.1 p.1=true)/\F.Pairwise (λp q=>p.2.conflict q.2=true->reach w 12 q.1 p.1=true):=λf G h1 h2 h3 h4=>by
   obtain⟨F,k0,k1,k2,k3,k4,k5⟩:=ih (i+1) ((i,f)::z) G s (λk o' hk=>by
    have:=R (k+1) o' (by assumption)
    grind) h4
   refine⟨(i,f)::F,by simp[k0],λj=> ?_, .cons (λq O=> ?_) k2,⟨G,h1,h2,k3⟩,λp hp q O K=> ?_, .cons (λq O=>k4 (i,f) ai q O) k5⟩
   .simp only[bM,aJ,k1,bA];omega
   .have:=(k1 q.1).1 (aG.2 ⟨q,O,rfl⟩);omega
   .rcases aJ.1 O with rfl|O
    .have:=cv.1 h3 p hp;simpa[K] using this
    grind
  simp only[kQ] at D;split at D
  .cases D
  .rename_i b hw;cases b with
   |false=>simp only[au] at D;cases I:ye w z i ((uu w o).fill B (B.set o.dst .undef)) with
    |false=>simp[I] at D
    |true=>simp only[I,aj] at D;exact H _ _ (by simp only[rO,V,hw]) (λ_=>skip_ok V hw) I D
   |true=>cases hF:(isF h B o&&(FF h o).isEmpty) with
    |true=>
     have S :=by simp only[aT] at hF;exact zo.1 hF.2
     simp[hF] at D;cases U:ec P h cr o B with
     |none=>simp[U] at D
     |some v=>simp[U] at D;cases K:ye w z i ((wB P h w o B).fill B (B.set o.dst v)) with
      |false=>simp[K] at D
      |true=>simp[K] at D;exact H _ _ (by simp[rO,V,hw,step,S,nR,gZ,step0,U]) (λ_=>afy V hw S U) K D
    |false=>cases hs:step P h cr o B with
     |none=>simp_all
     |some G=>cases K:ye w z i ((uX P h w o B).fill B G) with
      |false=>simp_all
      |true=>grind[rO,aab]
def Z4:∀{l:List Oper} {i:Nat},tL i l=true->∀(p:Nat) (o:Oper),l[p]? =some o->∀e∈o.after.toList,Region.binds .any e=true->e.on<i+p:=by intro l;induction l with
 |nil=>simp
 |cons x l D=>intro i w p o q e z B;simp only[tL,aT] at w;cases p with
  |zero=>simp at q;subst q;have:=cv.1 w.1 e z;simp_all
  |succ p=>grind
def Qx {l:Array Oper} {D:Nat->Prop} (w:∀j o,D j->l[j]? =some o->∀e∈o.after.toList,Region.binds .any e=true->D e.on):
  ∀(n i j:Nat),(∀o,l[i]? =some o->∀e∈o.after.toList,Region.binds .any e=true->D e.on)->reach l n i j=true->D j:=by
 intro n;induction n with
 |zero=>simp_all[reach]
 |succ n B=>intro i j q h;simp[reach] at h;cases z:l[i]? with
  |none=>grind
  |some o=>
   simp[z,gC] at h;rcases h with h|h
   .simp[ace] at h;grind[beq_iff]
   grind
def Rel.dD {N:Nat} {w0:World} {μ0:Mu} {L:tG} {μ:Mu} {F:Nat->Value} {z:St} {a:Act} {w:World} (H:Rel N w0 μ0 L μ F z a w) (id:Nat):Rel N w0 μ0 L μ F (z.dD id) a w:=by
 have l:∀j o,(z.dD id).ob j=some o->∃G,z.ob j=some G/\o=G.dD id:=λj o q=>by
  simp[St.dD] at q;by_cases e:id=j
  .subst e;simp[di] at q
  .simp[bS _ _ e] at q;cases B:z.ob j with
   |none=>simp_all
   |some G=>simp_all
 refine { H with env:=λi sv K=> ?_,obs:=λj o q=> ?_,apart:=λi j oi oj hi hj=> ?_ }
 .simp[St.dD] at K;cases B:z.env i with
  |none=>simp_all
  |some s=>simp[B] at K;subst K;obtain⟨v,hv,hs⟩:=H.env i s B;simp_all[jJ]
 .obtain⟨G,D,rfl⟩:=l j o q;have:=H.obs j _ D;cases G with
  |row e sz xs=>exact this
  |mp k e ks I=>exact this
  |mr k e s ks I=>exact this
  |rn e s k e' s' xs ys=>exact this
  |it s n=>exact this
  |lp s=>exact this
  |box t cells=>obtain⟨b,I,B,h2,S,h4,U,V⟩:=this;refine⟨b,I,B,h2,S,h4,?_,V⟩;clear S V D q;induction cells generalizing I with
   |nil=>exact U
   |cons c cs ih=>obtain⟨u,us,rfl,k1,k2⟩:=U;exact⟨u,us,rfl,jJ k1,ih _ k2⟩
 .obtain⟨oi',O,_⟩:=l i _ hi;obtain⟨oj',R,_⟩:=l j _ hj;exact H.apart i j _ _ O R
def Rel.sX {N:Nat} {w0:World} {μ0:Mu} {L:tG} {D:Mu} {q:Nat->Value} {a:Act} {w:World}:∀(l:List Nat) (B:St),Rel N w0 μ0 L D q B a w->Rel N w0 μ0 L D q (AM.sX l B) a w
 |[],_,z=>z
 |p::l,B,z=>Rel.sX l _ (z.dD p)
end
section
variable {P:Program} {N:Nat} {w0:World} {μ0:Mu} {L:tG} {h:Hint} {cr:eX} {Q:Exit->Act->World->Prop}
def VI (xA:iD L.q μ0 P cr) {z:Array Oper} {st stF:St} (hedges:tL 0 z.toList=true)
  (hrun:kQ P h cr z 0 z.toList [] (sX (yA z.toList) st)=some stF) (hd:∀o∈z.toList,∀i,o.dst=some i->i<N)
  (hQ:∀a' w' μ' O,Rel N w0 μ0 L μ' O stF a' w'->Q .normal a' w') {μ:Mu} {loc:Nat->Value} {a:Act} {w:World} (hR:Rel N w0 μ0 L μ loc st a w) {F:Fence} (hF:Wd F):
  wpAnyIn F 0 P .any z Q z.size (Array.replicate z.size false) a w:=by
 obtain⟨fs0,hl0,hm0,hs0,hr0,_,hp0⟩:=run_of z.toList 0 [] _ _ (λk o hk=>by simp_all) hrun;let D:Array Bool->Nat->Prop:=λl j=>l.getD j false=true
 have main:∀(B:Nat) (l:Array Bool) (a:Act) (w:World) (μ:Mu) (loc:Nat->Value) (fs:List (Nat×gz)) (x:St),l.size=z.size->fs.length<=B->
   (∀j o,D l j->z[j]? =some o->∀e∈o.after.toList,Region.binds .any e=true->D l e.on)->
   (∀j,j∈fs.map (·.1)↔j<z.size/\¬D l j)->fs.Pairwise (λp q=>p.1<q.1)->OI (rO P h cr z) fs x stF->fs.Pairwise (λp q=>p.2.conflict q.2=true->reach z 12 q.1 p.1=true)->Rel N w0 μ0 L μ loc x a w->
   wpAnyIn F 0 P .any z Q B l a w:=by
  intro B;induction B with
  |zero=>intro l a w μ loc fs x hsz hle hcl G _ I _ R;have hnil:fs=[]:=ku af;subst hnil;have hx:x=stF:=I;subst hx;refine⟨?_,hQ _ _ _ _ R⟩;unfold Region.ready;apply zn.2;grind
  |succ B ih=>
   intro l a w μ loc fs x hsz hle hcl G K I Ii R;have hready:∀i,i∈Region.ready .any z l->∃o,z[i]? =some o/\i<z.size/\¬D l i/\∀e∈o.after.toList,Region.binds .any e=true->D l e.on:=by
    intro i hi;unfold Region.ready at hi;simp only[dw,gL,aT,gE] at hi;obtain⟨U,hnl,H⟩:=hi;have ho:z[i]? =some (z[i]'U):=xe U;refine⟨_,ho,U,?_,?_⟩
    .have hl':i<l.size:=by omega
     have:l[i]=false:=by simpa[Array.getD,hl'] using hnl
     simp[D,Array.getD,hl',this]
    .intro e he hb;simp only[ho,ey,su] at H;have:=Eu.1 H e (by simpa using he);simpa[hb,D] using this
   have acR:∀i,i<z.size->∀j,D (l.setIfInBounds i true) j↔(D l j\/j=i):=by
    intro i hi j;have hl':i<l.size:=by omega
    by_cases S:j<l.size
    .by_cases e:i=j
     .subst e;simp[D,Array.getD,S]
     .have e':j≠i:=λh=>e h.symm
      simp[D,Array.getD,S,e,e',Array.getElem_setIfInBounds]
    .have e':j≠i:=λh=>by subst h;exact S hl'
     have h1:(l.setIfInBounds i true).getD j false=false:=by simp[Array.getD,S]
     have h2:l.getD j false=false:=by simp[Array.getD,S]
     simp only[D,h1,h2,e',qp]
   refine⟨λhnil=> ?_,λi hi=> ?_⟩
   ·
    cases fs with
    |nil=>have hx:x=stF:=I;subst hx;exact hQ _ _ _ _ R
    |cons p fs=>
     exfalso;have hp:=(G p.1).1 ai;have hlow:∀k,k<p.1->D l k:=λk hk=>eH λhn=>by
      have:=(G k).2 ⟨af,hn⟩;simp only[bM,aJ] at this;rcases this with e|hk'
      .omega
      .obtain⟨q,hq,rfl⟩:=aG.1 hk';have:=(c7.1 K).1 q hq;omega
     have ho:z[p.1]? =some (z[p.1]'hp.1):=xe hp.1;have hs2:=Z4 hedges p.1 (z[p.1]'hp.1) ai;have hl':p.1<l.size:=by omega
     have hmem':p.1∈Region.ready .any z l:=by
      unfold Region.ready;simp only[dw,gL,aT,gE];refine⟨hp.1,?_,?_⟩
      .grind
      .simp only[ho,ey,su];apply Eu.2;intro e he;cases hb:Region.binds .any e with
       |false=>rfl
       |true=>have:=hlow e.on (by simpa using hs2 e (by simpa using he) hb);simpa[D] using this
     rw[hnil] at hmem';cases hmem'
   .obtain⟨o,ho,U,hnD,H⟩:=hready i hi;obtain⟨p,hpm,hpe⟩:=aG.1 ((G i).2 ⟨U,hnD⟩);obtain⟨pre,post,rfl⟩:=Ev hpm;subst hpe;have hpre:∀q∈pre,q.2.conflict p.2=false:=λq hq=>by
     cases hc:q.2.conflict p.2 with
     |false=>rfl
     |true=>have hr:=(lB.1 Ii).2.2 q hq p ai hc;have:=Qx hcl 12 p.1 q.1 (λo' ho'=>by rw[ho] at ho';injection ho' with ho';subst ho';exact H) hr;exact absurd this ((G q.1).1 (by simp only[cE,bf];exact .inl (aG.2 ⟨q,hq,rfl⟩))).2
    obtain⟨s1,V,hruns',_⟩:=OI.front (i:=p.1) (f:=p.2) pre x I hpre;have hnext:∀a' w' μ' O,Rel N w0 μ0 L μ' O s1 a' w'->wpAnyIn F 0 P .any z Q B (l.setIfInBounds p.1 true) a' w':=λa' w' μ' O hR'=>by
     have hnp:∀q∈pre++post,q.1≠p.1:=λq hq e=>by
      rcases bf.1 hq with h1|h1
      .have:=(lB.1 K).2.2 q h1 p (by simp);omega
      .have:=(c7.1 (lB.1 K).2.1).1 q h1;omega
     refine ih _ a' w' μ' O (pre++post) s1 (by simp[hsz]) (by simp at hle⊢;omega) (λj oj S hoj e he hb=> ?_) (λj=> ?_) (K.sublist ai) hruns' (Ii.sublist ai) hR'
     .grind
     .rw[acR _ U];have:=G j;simp only[cE,bM,bf,aJ] at this⊢;constructor
      .intro S;obtain⟨k1,k2⟩:=this.1 (S.elim .inl λh=> .inr (.inr h));refine⟨k1,λh=>h.elim k2 λe=> ?_⟩;subst e;rcases S with S|S<;>obtain⟨q,hq,e⟩:=aG.1 S<;>exact hnp q (by simp[hq]) e
      .rintro⟨k1,k2⟩;rcases this.2 ⟨k1,λh=>k2 (.inl h)⟩ with h1|h1|h1
       .exact .inl h1
       .exact absurd (.inr h1) k2
       .exact .inr h1
    have hdo :=hd o (by grind);unfold wpOpIn;simp[ho];simp[rO,ho] at V;split at V
    .rename_i hw;rw[AN R hw];exact L3 R xA hdo V hnext F hF
    .rename_i hw;injection V with V;subst V;rw[AN R hw];exact⟨λf _=>hF.fn f,hnext _ _ _ _ (R.set hdo (rfl))⟩
    simp_all
 have hnone:∀j,¬D (Array.replicate z.size false) j:=λj=>by by_cases S:j<z.size<;>simp[D,Array.getD]
 refine main _ _ a w _ _ _ _ ai (by simp[hl0]) (λj o S=>absurd S (hnone j)) (λj=> ?_) hs0 hr0 hp0 (Rel.sX _ _ hR);simp_all
end
