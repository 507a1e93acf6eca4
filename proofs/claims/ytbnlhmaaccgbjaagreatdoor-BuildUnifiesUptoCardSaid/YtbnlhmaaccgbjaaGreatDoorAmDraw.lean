/- THE ABSTRACT MACHINE. -/
import Derived.Test.YtbnlhmaaccgbjaaGreatDoorAmRun
set_option linter.all false
namespace Go.AM
open Go.RowKit
section
variable {P:Program} {h:Hint} {cz:eN}
def jq {st l:St} {x:Operand} (q:∀t,x= .tmp t->st.env t=l.env t) (ty:TypeId):bD P ty st x=bD P ty l x:=by cases x with
 |tmp t=>exact q t rfl
 |_=>rfl
def N7 (P:Program) (q l:St) (x:Operand):Prop:=∀ty w,bD P ty q x=some w->∀id∈w.ids,q.ob id=l.ob id
def wT {q l:St} {v:SV} (z:∀id∈v.ids,q.ob id=l.ob id):elems q v=elems l v:=by cases v with
 |sub id s B w=>grind[elems,SV.ids]
 |row id=>grind[elems,SV.ids]
 |pv x=>cases x<;>rfl
 |_=>rfl
def SY {w l:St} {v:SV} (z:∀id∈v.ids,w.ob id=l.ob id):lenOf w v=lenOf l v:=by cases v with
 |row id=>grind[lenOf,SV.ids]
 |pv x=>cases x<;>rfl
 |aq _ q=>cases q<;>rfl
 |_=>rfl
def KA {q l:St} {v:SV} (w:∀id∈v.ids,q.ob id=l.ob id):maps q v=maps l v:=by cases v with
 |row id=>grind[maps,SV.ids]
 |pv x=>cases x<;>rfl
 |_=>rfl
def VR {z l:St} {v:SV} (B:∀id∈v.ids,z.ob id=l.ob id):mJ z v=mJ l v:=by cases v with
 |row id=>grind[mJ,SV.ids]
 |ag w=>
  have key:∀w:List _,(∀id∈(SV.ag w).ids,z.ob id=l.ob id)->kG z w=kG l w:=by intro w;induction w with
   |nil=>intro _;rfl
   |cons c w D=>grind[SV.ids,kG]
  simp[mJ,key _ B]
 |aq id q=>cases q with
  |full=>rfl
  |bs n=>rfl
  |nr i=>grind[mJ,SV.ids]
 |_=>rfl
def Mv {st st':St} {xs:List Operand} {ts:List TypeId} (l:∀x∈xs,N7 P st st' x) (w:∀x∈xs,∀ty,bD P ty st x=bD P ty st' x):jS P st xs ts=jS P st' xs ts:=by induction xs generalizing ts with
 |nil=>rfl
 |cons x xs B=>
  have z:(bD P (ts.headD 0) st x).bind (mJ st)=(bD P (ts.headD 0) st' x).bind (mJ st'):=by rw[<-w x ai];cases q:bD P _ _ x with
   |none=>rfl
   |some D=>exact VR (l x ai _ _ q)
  simp_all[jS]
def BS {st st':St} {b:Bool}:∀{xs:List Operand} {ts:List TypeId},(∀x∈xs,∀ty,bD P ty st x=bD P ty st' x)->sq P b st xs ts=sq P b st' xs ts
 |[],_,_=>rfl
 |x::xs,ts,l=>by simp[sq,PE];rw[l x ai,BS (λy q=>l y (by simp[q]))]
theorem tv {w q:St} {ty:Nat->TypeId} {l:List (Nat×Operand)} (z:∀x∈l.map (·.2),∀t,bD P t w x=bD P t q x):partsOf P ty w l=partsOf P ty q l:=by induction l with
 |nil=>rfl
 |cons p l B=>simp_all[partsOf]
theorem AD {z w:St} {b:Bool} {q:AV} {l:List Operand} (B:∀x∈l,∀t,bD P t z x=bD P t w x):ng P z b q l=ng P w b q l:=by induction l generalizing q with
 |nil=>rfl
 |cons x l D=>simp_all[ng]
def Tp {B l:St} {c:Call} (q:∀x∈c.args.toList,N7 P B l x) (G:∀x∈c.args.toList,∀ty,bD P ty B x=bD P ty l x):yz P c B=yz P c l:=by
 obtain⟨H,⟨args⟩,tys⟩:=c;unfold yz;simp at G q⊢;split
 .rename_i x;have z:=G x ai;have w:=q x ai;split
  .rename_i t _;rw[<-z t];cases F:bD P t _ x with
   |none=>simp
   |some I=>have:=SY (w t _ F);have D:=KA (w t _ F);grind
  .rfl
 .grind[AD]
 .grind[AD]
 .rfl
def Dk {st st':St} {x:Option Operand} (l:∀y,x=some y->∀ty,bD P ty st y=bD P ty st' y):nX P st x=nX P st' x:=by cases x with
 |none=>rfl
 |some y=>simp[nX,l y _]
def Wn {B w:St} {o:Oper} (D:Tf o.op=false->∀x∈o.op.operands.toList,N7 P B w x) (q:∀x∈o.op.operands.toList,∀ty,bD P ty B x=bD P ty w x):eW P o B=eW P o w:=by obtain⟨dst,op,type,pos,after,guard⟩:=o;simp only at q;cases op with
 |move x=>simp_all[Op.operands,eW]
 |assign x=>simp_all[Op.operands,eW]
 |pick c a b=>simp_all[Op.operands,eW]
 |binOp op t x y t'=>simp_all[Op.operands,eW]
 |unOp op t x=>simp_all[Op.operands,eW]
 |convert s d x=>
  have z:=q x (by simp[Op.operands]);have G:=D rfl x (by simp[Op.operands]) s;have he:(bD P s B x).bind (elems B)=(bD P s w x).bind (elems w):=by rw[<-z s];cases F:bD P s B x with
   |none=>rfl
   |some I=>exact wT (G _ F)
  simp only[eW,z 0,he]
 |nilCheck x=>simp_all[Op.operands,eW]
 |fieldAddr t x f=>simp_all[Op.operands,eW]
 |field t x f=>simp_all[Op.operands,eW]
 |indexAddr t x i=>
  have z:=q x (by simp[Op.operands]);have S:=q i (by simp[Op.operands]);have G:=D rfl x (by simp[Op.operands]) t;have hsl:wY P B t x i=wY P w t x i:=by unfold wY;rw[<-z t,<-S 0];cases F:bD P t B x with
   |none=>simp
   |some I=>have H:=G _ F;grind[isSlice,id,bD,SV.ids]
  simp_all[DL,eW]
 |index t x i=>simp_all[Op.operands,eW]
 |load t x=>have z:=q x (by simp[Op.operands]);have G:=D rfl x (by simp[Op.operands]) 0;simp only[eW];rw[<-z 0];cases F:bD P 0 B x with
  |none=>rfl
  |some I=>have H:=G _ F;grind[id,SV.ids]
 |lookup t x k ok=>
  have z:=q x (by simp[Op.operands]);have hk:=q k (by simp[Op.operands]);have G:=D rfl x (by simp[Op.operands]) t;have R:(bD P t B x).bind (maps B)=(bD P t w x).bind (maps w):=by rw[<-z t];cases F:bD P t B x with
   |none=>rfl
   |some I=>exact KA (G _ F)
  have O:(bD P t B x).bind (HG B)=(bD P t w x).bind (HG w):=by rw[<-z t];cases F:bD P t B x with
   |none=>rfl
   |some I=>have:=G _ F;cases I with
    |row id=>grind[HG,id,SV.ids]
    |_=>rfl
  simp only[eW,R,hk,O]
 |extract x i=>simp_all[Op.operands,eW]
 |slice t x lo V mx=>cases mx with
  |some m=>simp only[eW,Xl];cases lo with
   |some l=>rfl
   |none=>cases V with
    |none=>rfl
    |some y=>have z:=q x (by simp[Op.operands]);have S:=q y (by simp[Op.operands]);have R:=q m (by simp[Op.operands]);have G:=D rfl x (by simp[Op.operands]) t;simp only;rw[<-S 0,<-R 0,<-z t];cases F:bD P t B x with
     |none=>rfl
     |some I=>have H:=G _ F;grind[id,SV.ids]
  |none=>have z:=q x (by simp[Op.operands]);have hl:=Dk (P:=P) (st:=B) (st':=w) (x:=lo) (λy e=>by simp_all[Op.operands]);have hh:=Dk (P:=P) (st:=B) (st':=w) (x:=V) (λy e=>by simp_all[Op.operands]);have G:=D rfl x (by simp[Op.operands]) t;simp[eW];rw[<-z t];cases F:bD P t _ x with
   |none=>simp
   |some I=>have H:=G _ F;grind[SV.ids]
 |build t U=>grind[tv,Op.operands,eW,zD]
 |call c=>
  have K:∀x∈c.args.toList,x∈(Op.call c).operands.toList:=λx z=>by simp_all[Op.operands,Call.operands]
  have:=Tp (λx z=>D rfl x (K x z)) (λx z=>q x (K x z));assumption
 |_=>simp[eW]
def vA {D:St}:∀{l:List Operand} {x:Operand} {ty:TypeId} {B:SV} {id:Nat},x∈l->bD P ty D x=some B->id∈B.ids->id∈Nf D l:=by intro l;induction l with
 |nil=>simp
 |cons y l F=>
  intro x ty B id z w q;rcases aJ.1 z with rfl|z
  .cases x with
   |tmp t=>simp_all[bD,Nf]
   |const v=>simp[bD] at w;cases G:ofConst P ty v with
    |none=>simp_all
    |some y=>grind[SV.ids]
   |func f=>grind[bD,SV.ids]
   |global g=>simp[bD] at w
  .have:=F z w q;cases y with
   |tmp t=>simp_all[Nf]
   |_=>assumption
def xL (q:St):∀(n:Nat) (l done:List Nat),∀id∈done,id∈gN q n l done
 |0,l,done,id,h=>by assumption
 |n+1,[],done,id,h=>by assumption
 |n+1,x::l,done,id,h=>by simp only[gN];cases done.contains x with
  |true=>exact xL _ n _ _ _ h
  |false=>exact xL _ n _ _ _ (by simp[h])
def oW {w q:St}:∀(n:Nat) (l done:List Nat),(∀id∈gN w n l done,w.ob id=q.ob id)->gN w n l done=gN q n l done
 |0,l,done,h=>by rfl
 |n+1,[],done,h=>by rfl
 |n+1,x::l,done,h=>by simp only[gN] at h⊢;cases z:done.contains x with
  |true=>rw[z] at h;exact oW n _ _ h
  |false=>
   rw[z] at h;have D :=h x (xL _ n _ _ x ai);have B:Cy w x=Cy q x:=by simp[Cy,D]
   rw[<-B];exact oW n _ _ h
def tn {z w:St} {ids:List Nat} {B:Nat->Nat}:∀{l:List (Nat×Nat)},(∀p∈l,z.ob p.1=w.ob p.1)->jT z ids B l=jT w ids B l
 |[],_=>rfl
 |p::l,h=>by obtain⟨id,F⟩:=p;simp[jT];rw[h (id,F) ai,tn (λq D=>h q (by simp[D]))]
def zA {z l:St}:∀{xs:List Operand} {q:List TypeId},(∀x∈xs,∀ty,bD P ty z x=bD P ty l x)->uk P h z xs q=uk P h l xs q
 |[],q,_=>rfl
 |x::xs,q,w=>by simp[uk,aaR];rw[w x ai,zA (λy B=>w y (by simp[B]))]
def Oh {st st':St} {c:Call} {f:Operand} (D:bD P 0 st f=bD P 0 st' f) (B:∀x∈c.args.toList,∀ty,bD P ty st x=bD P ty st' x)
  (l:∀g args,ux P h st c f=some (g,args)->∀id∈jG st args,st.ob id=st'.ob id):sS P h cz st c f=sS P h cz st' c f:=by
 have e1:ux P h st c f=ux P h st' c f:=by unfold ux;rw[D,zA B]
 unfold sS;rw[<-e1];cases G:ux P h _ c f with
 |none=>rfl
 |some p=>
  obtain⟨g,args⟩:=p;simp only;have q:=l g _ G;have w:jG _ _=jG _ _:=oW _ _ _ q;rw[<-w];have z:jT _ (jG st args) (iS (mA (jG st args))) (mA (jG st args))=jT _ _ _ _:=
   tn (λp F=>q _ (by
    have:p.1∈(mA _).map _:=aD.2 ⟨p,F,rfl⟩
    simp_all[mA,tQ]))
  rw[z]
def Vc {D q:St} {o:Oper} (H:Tf o.op=false->∀id∈Dj D o,D.ob id=q.ob id) (R:∀id∈Ld P h o D,D.ob id=q.ob id) (G:∀t∈slotsOf o,D.env t=q.env t):dQ P h cz o D=dQ P h cz o q:=by
 have K:Tf o.op=false->∀x∈o.op.operands.toList,N7 P D q x:=λhn x F ty sv ho id U=>H hn id (vA F ho U)
 have z:∀x∈o.op.operands.toList,∀ty,bD P ty D x=bD P ty q x:=λx F ty=>jq (λt e=>G t (by
  subst e
  exact fk.2 ⟨.tmp t,F,rfl⟩)) ty
 have I:=Wn (P:=P) (o:=o) K z;obtain⟨S,op,type,pos,after,guard⟩:=o;simp only at z;cases op with
 |buildSlice t len O=>
  have hp:∀ty,partsOf P ty D O.toList=partsOf P ty q O.toList:=λty=>tv (λx F=>z x (by simpa[Op.operands] using F))
  simp[dQ,lC,hp]
 |call c=>obtain⟨cal,⟨args⟩,⟨tys⟩⟩:=c;cases cal with
  |value f=>
   have w:∀x∈args,x∈(Op.call { callee:=Callee.value f,args:=⟨args⟩,argTypes:=⟨tys⟩ }).operands.toList:=λx F=>by simp_all[Op.operands,Call.operands,jd,bu]
   have hf:=z f (by simp[Op.operands,Call.operands]);have ha:=Mv (P:=P) (st:=D) (st':=q) (xs:=args) (ts:=tys) (λx F=>K rfl x (w x F)) (λx F=>z x (w x F));have hr:args.any (lF D)=args.any (lF q):=by
    have key:∀x∈args,lF D x=lF q x:=λx F=>by cases x with
     |tmp t=>have:=z (.tmp t) (w _ F) 0;simp_all[bD,lF]
     |_=>rfl
    clear ha w z I G K H R;induction args with
    |nil=>rfl
    |cons x xs ih=>simp_all
   have V:args.any (λx=>(pH h D x).isSome)=args.any (λx=>(pH h q x).isSome):=by
    have key:∀x∈args,pH h D x=pH h q x:=λx F=>by cases x with
     |tmp t=>have:=z (.tmp t) (w _ F) 0;simp_all[bD,pH]
     |_=>rfl
    clear ha w z I G hr K H R;induction args with
    |nil=>rfl
    |cons x xs ih=>simp_all
   have hwide:wide D { callee:=Callee.value f,args:=⟨args⟩,argTypes:=⟨tys⟩ } f=wide q { callee:=Callee.value f,args:=⟨args⟩,argTypes:=⟨tys⟩ } f:=by
    have kf:Vs D f=Vs q f:=by cases f with
     |tmp t=>simp_all[bD,Vs]
     |_=>rfl
    have key:∀x∈args,EZ D x=EZ q x:=λx F=>by cases x with
     |tmp t=>have:=z (.tmp t) (w _ F) 0;simp_all[bD,EZ]
     |_=>rfl
    have kk:args.any (EZ D)=args.any (EZ q):=by clear ha w z I G hr K H V R;induction args with
     |nil=>rfl
     |cons x xs ih=>simp_all
    simp only[wide,kf,kk]
   cases how:S.any h.owns.contains with
   |true=>simp[dQ,how]
   |false=>
   cases hst:S.any h.stay.contains with
   |false=>simp_all[dQ]
   |true=>
    have hc:=Oh (P:=P) (h:=h) (cz:=cz) (st:=D) (st':=q) (c:={ callee:=Callee.value f,args:=⟨args⟩,argTypes:=⟨tys⟩ }) (f:=f) (hf 0) (λx F=>z x (w x F)) (λg as hg id U=>R id (by simp_all[Ld,ak]));simp_all[dQ]
  |_=>assumption
 |makeFunc f first B=>cases f with
  |func g=>
   have hc:um D B.toList=um q B.toList:=by
    have key:∀x∈B.toList,∀ty,bD P ty D x=bD P ty q x:=λx F=>z x (by simp_all[Op.operands,jd,bu])
    clear z I G K H;generalize B.toList=l at key;induction l with
    |nil=>rfl
    |cons x xs ih=>cases x with
     |tmp t=>simp_all[bD,um]
     |_=>rfl
   have Vl:qM D B.toList=qM q B.toList:=by
    have key:∀x∈B.toList,∀ty,bD P _ _ x=bD P _ _ x:=λx F=>z x (by simp_all[Op.operands])
    generalize B.toList=l at key;induction l with
    |nil=>rfl
    |cons x xs ih=>cases x with
     |tmp t=>simp_all[bD,qM]
     |_=>rfl
   have hc3:qM D first.toList=qM q first.toList:=by
    have key:∀x∈first.toList,∀ty,bD P _ _ x=bD P _ _ x:=λx F=>z x (by simp_all[Op.operands])
    generalize first.toList=l at key
    induction l with
    |nil=>rfl
    |cons x xs ih=>cases x with
     |tmp t=>simp_all[bD,qM]
     |_=>rfl
   simp[dQ,hc,Vl,hc3]
  |_=>rfl
 |assign x=>simp[dQ,I]
 |lookup t x k ok=>simp[dQ,I]
 |build t ps=>grind[tv,Op.operands,dQ,zD]
 |load t x=>simp[dQ,I]
 |_=>assumption
def As {z q:St} {l:Array Oper} {o:Oper} (w:∀t∈fD l o,z.env t=q.env t):qp l o z=qp l o q:=by grind[qp,fD]
theorem ZO {a b:List Nat} {x:Nat} (l:x∈a) (q:x∈b):meets a b=true:=by simp[meets];grind[Nat.beq_refl]
def MH {t:TypeId} {s D:St} {F w:SV} {id:Nat} (l:storeAt P t s F w=some D) (z:targetId F=some id):
  D.env=s.env/\(∀j,j≠id->D.ob j=s.ob j)/\∀x:St,x.ob id=s.ob id->(∀j∈w.ids,x.ob j=s.ob j)->storeAt P t x F w=some { x with ob:=put x.ob id (D.ob id) }:=by
 have H:∀x:St,(∀j∈w.ids,x.ob j=s.ob j)->oI x w=oI s w:=λx B=>by cases w with
  |row j=>simp_all[oI,SV.ids]
  |pv v=>cases v<;>rfl
  |_=>rfl
 cases F with
 |ptr i G=>
  simp[targetId,aW] at z;subst z;simp[storeAt] at l;split at l
  .split at l
   .split at l
    .injection l with l;subst l;refine⟨rfl,λj q=>bR _ _ (λe=>q e.symm),λx B _=> ?_⟩;simp_all[storeAt,cZ]
    simp_all
   .split at l
    .injection l with l;subst l;refine⟨rfl,λj q=>bR _ _ (λe=>q e.symm),λx B _=> ?_⟩;simp_all[storeAt,cZ]
    simp_all
   .split at l
    .injection l with l;subst l;refine⟨rfl,λj q=>bR _ _ (λe=>q e.symm),λx B I=> ?_⟩;simp[storeAt,cZ];simp_all
    simp_all
  simp_all
 |rp i K k G=>
  simp[targetId,aW] at z;subst z;simp[storeAt] at l;split at l
  .split at l
   .split at l
    .injection l with l;subst l;refine⟨rfl,λj q=>bR _ _ (λe=>q e.symm),λx B _=> ?_⟩;simp_all[storeAt,cZ]
    simp_all
   simp_all
  simp_all
 |_=>simp[targetId] at z
theorem zU {id:Nat} {v:SV} (h:v.mentions id=true):id∈v.ids:=by
 have l:∀w:List _,w.any (oE.mentions id)=true->id∈w.filterMap (fun
  | .p j| .r j=>some j
  | .v _=>none):=λw G=>by
  grind[oE.mentions,beq_iff]
 induction v with
 |two s b D z=>
  rcases Bool.or_eq_true_iff.1 h with h|h
  .exact cR _ (D h)
  .exact gD _ (z h)
 |ptr j B=>simp[SV.ids,cv];exact(beq_iff.1 h).symm
 |row j=>simp[SV.ids,cv];exact(beq_iff.1 h).symm
 |rp j F i B=>simp[SV.ids,cv];exact(beq_iff.1 h).symm
 |sub j F I H=>simp[SV.ids,cv];exact(beq_iff.1 h).symm
 |cl f w=>exact l _ h
 |ag w=>exact l _ h
 |aq j q=>simp[SV.mentions] at h;simp[SV.ids];grind[beq_iff]
 |_=>simp[SV.mentions] at h
theorem St.same {x y:St} (l:∀t,x.env t=y.env t) (q:∀t,x.ob t=y.ob t):x=y:=by obtain⟨z,B⟩:=x;have e1 :=funext l;have w :=funext q;simp_all
def S9 (p:Nat×Option AV) (v:SV):SV:=match p.2 with
 |none=>v.dw p.1
 |some a=>SV.cV p.1 a v
def ki (l:List (Nat×Option AV)) (v:SV):SV:=l.foldl (λv p=>S9 p v) v
def Ob.zS (g:SV->SV):Ob->Ob
 | .box t cells=> .box t (cells.map g)
 |o=>o
def fR (f:gA) (q:Nat->Option SV) (w:Nat->Option Ob) (l:List (Nat×Option AV)) (x:St):St:=
 {env:=λt=>if t∈f.ws then q t else(x.env t).map (ki l),ob:=λj=>if j∈f.wo then w j else(x.ob j).map (Ob.zS (ki l)) }
def KF (p:Nat×Option AV) (v:SV):∃c:SV,(∀id,c.mentions id=false)/\S9 p v=(bif v.mentions p.1 then c else v)/\((∀j,v≠ .row j/\v≠ .ag [.r j])->c= .any):=by obtain⟨id,x⟩:=p;cases x with
 |none=>exact⟨_,λ_=>rfl,rfl,λ_=>rfl⟩
 |some a=>cases v with
  |row j=>exact⟨_,λ_=>rfl,rfl,λh=>absurd rfl (h j).1⟩
  |ag l=>
   by_cases q:∃j,l=[.r j]
   .obtain⟨j,rfl⟩:=q;exact⟨.pv (.agg [a]),λ_=>rfl,by simp[S9,SV.cV,SV.mentions,oE.mentions],λh=>absurd rfl (h j).2⟩
   .have e:S9 (id,some a) (.ag l)=(SV.ag l).dw id:=by
     show(SV.ag l).cV id a=_;unfold SV.cV;split
     .rename_i e;cases e
     .rename_i j e;cases e;exact absurd ⟨j,rfl⟩ q
     .rfl
    exact⟨_,λ_=>rfl,e,λ_=>rfl⟩
  |_=>exact⟨_,λ_=>rfl,rfl,λ_=>rfl⟩
def Ph {p:Nat×Option AV} {v:SV} (h:v.mentions p.1=false):S9 p v=v:=by obtain⟨c,_,e,_⟩:=KF p v;simp_all
def mv1_sub {p:Nat×Option AV} {v:SV} {j:Nat} (h:(S9 p v).mentions j=true):v.mentions j=true:=by obtain⟨c,l,e,_⟩:=KF p v;grind
theorem adC {p q:Nat×Option AV} (l:p.1≠q.1) (v:SV):S9 p (S9 q v)=S9 q (S9 p v):=by obtain⟨c,G,e,k⟩:=KF p v;obtain⟨c',B,F,k'⟩:=KF q v;cases z:v.mentions p.1 with
 |false=>cases w:v.mentions q.1 with
  |false=>simp_all
  |true=>simp_all[Ph]
 |true=>rw[e,z,ak,Ph (G _)];cases w:v.mentions q.1 with
  |false=>simp_all
  |true=>
   rw[F,w,ak,Ph (B _)]
   have H:∀j,v≠ .row j/\v≠ .ag [.r j]:=λj=>⟨λD=>by
    subst D;exact l ((beq_iff.1 z).symm.trans (beq_iff.1 w)),λD=>by
    subst D;simp only[SV.mentions,qZ,List.any_nil,rK,oE.mentions] at z w
    exact l ((beq_iff.1 z).symm.trans (beq_iff.1 w))⟩
   simp_all
def yp:∀{l:List (Nat×Option AV)} {v:SV},(∀p∈l,v.mentions p.1=false)->ki l v=v
 |[],v,_=>rfl
 |p::l,v,h=>by show ki l (S9 p v)=v;rw[Ph (h p ai)];exact yp λq w=>h q (by simp[w])
theorem Gw:∀{l:List (Nat×Option AV)} {v:SV} {j:Nat},(ki l v).mentions j=true->v.mentions j=true
 |[],v,j,h=>h
 |p::l,v,j,h=>mv1_sub (Gw h)
def ZP {l:List (Nat×Option AV)} {p:Nat×Option AV}:∀{v:SV},(∀q∈l,p.1≠q.1)->ki l (S9 p v)=S9 p (ki l v):=by induction l with
 |nil=>intro v _;rfl
 |cons q l w=>intro v h;show ki l _=S9 p (ki l _);grind[adC]
theorem DP:∀{l m:List (Nat×Option AV)} (v:SV),(∀p∈l,∀q∈m,p.1≠q.1)->ki l (ki m v)=ki m (ki l v)
 |[],m,v,_=>rfl
 |p::l,m,v,h=>by show ki l (S9 p _)=ki m (ki l _);rw[<-ZP (h p ai),DP _ λr w=>h r (by simp[w])]
def mapS_id {g:SV->SV} {o:Ob} (h:∀v,(∀id,v.mentions id=true->o.mentions id=true)->g v=v):o.zS g=o:=by cases o with
 |box t cells=>simp[Ob.zS];congr 1;refine(gY λc l=>h c λid q=> ?_).trans (nH _);grind[Ob.mentions]
 |_=>rfl
def vZ {l:List (Nat×Option AV)} {o:Ob} (h:∀p∈l,o.mentions p.1=false):o.zS (ki l)=o:=
 mapS_id λv w=>yp λp q=>by grind
def ado {l:List (Nat×Option AV)} {o:Ob} {j:Nat} (h:(o.zS (ki l)).mentions j=true):o.mentions j=true:=by cases o with
 |box t cells=>grind[Ob.zS,Ob.mentions,Gw]
 |_=>exact h
theorem ZN {l m:List (Nat×Option AV)} (o:Ob) (h:∀p∈l,∀q∈m,p.1≠q.1):(o.zS (ki m)).zS (ki l)=(o.zS (ki l)).zS (ki m):=by cases o with
 |box t cells=>simp[Ob.zS,fo];grind[List.map_congr_left,DP]
 |_=>rfl
theorem BF (o:Ob):o.zS (ki [])=o:=vZ λp l=>by cases l
structure Js (sf:St->Option St) (s:St) (f:gA) (ev:Nat->Option SV) (ov:Nat->Option Ob) (l:List (Nat×Option AV)):Prop where
 keys:∀p∈l,p.1∈f.mv
 run:∀x:St,(∀t∈f.rs,x.env t=s.env t)->(∀j∈f.ro,x.ob j=s.ob j)->(∀j∈f.rl,(x.ob j).map Ob.tZ=(s.ob j).map Ob.tZ)->sf x=some (fR f ev ov l x)
 len:∀j∈f.wo,f.kp j=true->(ov j).map Ob.tZ=(s.ob j).map Ob.tZ
 adE:∀t∈f.ws,∀v id,ev t=some v->v.mentions id=true->id∈f.men
 adF:∀j∈f.wo,∀o id,ov j=some o->o.mentions id=true->id∈f.men
 mvm:∀id∈f.mv,id∈f.men
structure Rk (s:St) (f:gA):Prop where
 inE:∀t∈f.rs,∀v id,s.env t=some v->v.mentions id=true->id∈f.men
 inO:∀j∈f.ro,∀o id,s.ob j=some o->o.mentions id=true->id∈f.men
 we:∀t v id,s.env t=some v->id∈f.mv->v.mentions id=true->f.we t=true
 oe:∀j o id,s.ob j=some o->id∈f.mv->o.mentions id=true->f.oe j=true
def jy {a b:List Nat} {x y:Nat} (h:meets a b=false) (l:x∈a) (q:y∈b):x≠y:=λe=>by grind[ZO]
def NN (g:SV->SV) (o:Ob):(o.zS g).tZ=o.tZ:=by cases o<;>rfl
def skN {f:gA} {q:Nat->Option SV} {w:Nat->Option Ob} {l:List (Nat×Option AV)} {x:St} {j:Nat} (h:¬j∈f.wo):((fR f q w l x).ob j).map Ob.tZ=(x.ob j).map Ob.tZ:=by simp[fR,au h];cases x.ob j with
 |none=>rfl
 |some o=>simp[NN]
def skO {f:gA} {w:Nat->Option SV} {q:Nat->Option Ob} {l:List (Nat×Option AV)} {x:St} {j:Nat} (h:j∈f.wo):(fR f w q l x).ob j=q j:=by simp[fR,aB h]
def rl_kp {r w:List Nat} {k:Nat->Bool} {j:Nat} (h:(r.any λj=>w.contains j&& !(k j))=false) (l:j∈r) (q:j∈w):k j=true:=by simp_all
def swapFx {sp si:St->Option St} {s:St} {B G:gA} {U R:Nat->Option SV} {op S:Nat->Option Ob} {lp li:List (Nat×Option AV)} (K:Js sp s B U op lp) (H:Rk s B) (I:Js si (fR B U op lp s) G R S li) (hc:B.conflict G=false):
  Js si s G R S li/\Js sp (fR G R S li s) B U op lp/\Rk (fR G R S li s) B/\fR B U op lp (fR G R S li s)=fR G R S li (fR B U op lp s):=by
 unfold gA.conflict at hc;simp only[jX] at hc;obtain⟨⟨⟨⟨⟨⟨⟨⟨⟨⟨⟨⟨⟨_,_⟩,d1⟩,d2⟩,d3⟩,d4⟩,d5⟩,d6⟩,d7⟩,d8⟩,d9⟩,d10⟩,d11⟩,d12⟩:=hc;have w9:∀t∈G.rs,B.we t=false:=λt l=>by simp_all
 have w10:∀t∈G.ro,B.oe t=false:=λt l=>by simp_all
 have aE:∀t∈G.rs,(fR B U op lp s).env t=s.env t:=λt l=>by simp only[fR];rw[au λh=>jy d1 h l rfl];cases e:s.env t with
  |none=>rfl
  |some v=>simp only[dX];rw[yp λp F=> ?_];cases w:v.mentions p.1 with
   |false=>rfl
   |true=>have:=H.we t v p.1 e (K.keys p F) w;simp_all
 have aO:∀t∈G.ro,(fR B U op lp s).ob t=s.ob t:=λt l=>by simp only[fR];rw[au λh=>jy d4 h l rfl];cases e:s.ob t with
  |none=>rfl
  |some v=>simp only[dX];rw[vZ λp F=> ?_];cases w:v.mentions p.1 with
   |false=>rfl
   |true=>have:=H.oe t v p.1 e (K.keys p F) w;simp_all
 have bE:∀t∈B.rs,(fR G R S li s).env t=s.env t:=λt l=>by simp only[fR];rw[au λh=>jy d2 l h rfl];cases e:s.env t with
  |none=>rfl
  |some v=>simp only[dX];rw[yp λp F=> ?_];cases w:v.mentions p.1 with
   |false=>rfl
   |true=>exact absurd rfl (jy d8 (I.keys p F) (H.inE t l v p.1 e w))
 have bO:∀t∈B.ro,(fR G R S li s).ob t=s.ob t:=λt l=>by simp only[fR];rw[au λh=>jy d5 l h rfl];cases e:s.ob t with
  |none=>rfl
  |some v=>simp only[dX];rw[vZ λp F=> ?_];cases w:v.mentions p.1 with
   |false=>rfl
   |true=>exact absurd rfl (jy d8 (I.keys p F) (H.inO t l v p.1 e w))
 have nO:∀t∈B.wo,¬t∈G.wo:=λt D z=>jy d6 D z rfl
 have aL:∀t∈G.rl,((fR _ U op lp s).ob t).map _=(s.ob t).map _:=λt l=>by
  by_cases h:t∈B.wo
  .rw[skO h];exact K.len t h (rl_kp d11 l h)
  .exact skN h
 have bK :=λt l hk=>(I.len t l hk).trans (skN λh=>nO t h l)
 have bL:∀t∈B.rl,((fR _ R S li s).ob t).map Ob.tZ=(s.ob t).map Ob.tZ:=λt l=>by
  by_cases h:t∈G.wo
  .rw[skO h];simp_all
  .exact skN h
 have hk :=λp F q V=>jy d7 (K.keys p F) (I.mvm _ (I.keys q V))
 refine⟨⟨I.keys,λx D z h3=>I.run x (λt l=>(D t l).trans (aE t l).symm) (λt l=>(z t l).trans (aO t l).symm) (λt l=>(h3 t l).trans (aL t l).symm),bK,I.adE,I.adF,I.mvm⟩,
  ⟨K.keys,λx D z h3=>K.run x (λt l=>(D t l).trans (bE t l)) (λt l=>(z t l).trans (bO t l)) (λt l=>(h3 t l).trans (bL t l)),λt l hk=>(K.len t l hk).trans (skN (nO t l)).symm,K.adE,K.adF,K.mvm⟩,
  ⟨λt l v id e w=>H.inE t l v _ ((bE t l).symm.trans e) w,λt l v id e w=>H.inO t l v _ ((bO t l).symm.trans e) w,λt v id e O w=> ?_,λt v id e O w=> ?_⟩,?_⟩
 .simp[fR] at e;split at e
  .rename_i l;exact absurd rfl (jy d7 O (I.adE t l v _ e w))
  .cases e0:s.env t with
   |none=>simp_all
   |some v0=>rw[e0] at e;simp at e;subst e;exact H.we t _ _ e0 O (Gw w)
 .simp[fR] at e;split at e
  .rename_i l;exact absurd rfl (jy d7 O (I.adF t l v _ e w))
  .cases e0:s.ob t with
   |none=>simp_all
   |some v0=>rw[e0] at e;simp at e;subst e;exact H.oe t _ _ e0 O (ado w)
 .simp[fR,St.mk.injEq];constructor
  .funext t;by_cases D:t∈B.ws
   .rw[aB D,au λz=>jy d3 D z rfl];rw[aB D];cases e:U t with
    |none=>rfl
    |some v=>simp;rw[yp λq V=> ?_];cases w:v.mentions _ with
     |false=>rfl
     |true=>exact absurd rfl (jy d8 (I.keys q V) (K.adE t D v _ e w))
   .rw[au D];by_cases z:t∈G.ws
    .rw[aB z,aB z];cases e:R t with
     |none=>rfl
     |some v=>simp;rw[yp λq V=> ?_];cases w:v.mentions _ with
      |false=>rfl
      |true=>exact absurd rfl (jy d7 (K.keys q V) (I.adE t z v _ e w))
    .rw[au z,au z,au D];cases s.env t with
     |none=>rfl
     |some v=>grind[DP]
  .funext t;by_cases D:t∈B.wo
   .rw[aB D,au λz=>jy d6 D z rfl];rw[aB D];cases e:op t with
    |none=>rfl
    |some v=>simp;rw[vZ λq V=> ?_];cases w:v.mentions _ with
     |false=>rfl
     |true=>exact absurd rfl (jy d8 (I.keys q V) (K.adF t D v _ e w))
   .rw[au D];by_cases z:t∈G.wo
    .rw[aB z,aB z];cases e:S t with
     |none=>rfl
     |some v=>simp;rw[vZ λq V=> ?_];cases w:v.mentions _ with
      |false=>rfl
      |true=>exact absurd rfl (jy d7 (K.keys q V) (I.adF t z v _ e w))
    .rw[au z,au z,au D];cases s.ob t with
     |none=>rfl
     |some v=>grind[ZN]
def N6 (w:Nat->St->Option St):List (Nat×gA)->St->St->Prop
 |[],s,q=>s=q
 |p::l,s,q=>∃z,w p.1 s=some z/\(p.2.all=false->∃B D m,Js (w p.1) s p.2 B D m/\Rk s p.2)/\N6 w l z q
def abc {a b:gA} (h:a.conflict b=false):a.all=false/\b.all=false:=by simp_all[gA.conflict]
def N6.front {z:Nat->St->Option St} {i:Nat} {f:gA} {post:List (Nat×gA)} {V:St}:∀(pre:List (Nat×gA)) (s:St),N6 z (pre++(i,f)::post) s V->(∀p∈pre,p.2.conflict f=false)->
  ∃w,z i s=some w/\N6 z (pre++post) w V/\(f.all=false->∃ev ov m,Js (z i) s f ev ov m)
 |[],s,⟨U,B,G,D⟩,_=>⟨U,B,D,λH=>by simp_all⟩
 |p::pre,s,⟨U,B,G,D⟩,I=>by
  have l:=I p ai;obtain⟨H,hb⟩:=abc l;obtain⟨ep,op,lp,O,F⟩:=G H;obtain⟨w,k1,k2,k3⟩:=N6.front _ _ D λq hq=>I q (by simp[hq])
  obtain⟨ei,oi,li,K⟩:=k3 hb;have e1 :=by have:=O.run s (λ_ _=>rfl) (λ_ _=>rfl) (λ_ _=>rfl);rw[B] at this;injection this
  subst e1;obtain⟨R,S,r3,r4⟩:=swapFx O F K l;have e2 :=by have:=K.run _ (λ_ _=>rfl) (λ_ _=>rfl) (λ_ _=>rfl);rw[k1] at this;injection this
  refine⟨_,R.run s (λ_ _=>rfl) (λ_ _=>rfl) (λ_ _=>rfl),⟨w,?_,λ_=>⟨ep,op,lp,S,r3⟩,k2⟩,λ_=>⟨ei,oi,li,R⟩⟩;rw[S.run _ (λ_ _=>rfl) (λ_ _=>rfl) (λ_ _=>rfl),r4,e2]
def qR (P:Program) (h:Hint) (cz:eN) (l:Array Oper) (k:Nat) (q:St):Option St:=
 match l[k]? with
 |some o=>match qp l o q with
  |some true=>step P h cz o q
  |some false=>some (q.set o.dst .undef)
  |none=>none
 |none=>none
def aeR {id:Nat} {cells:List SV} (h:cells.any (SV.mentions id)=true):id∈cells.flatMap SV.ids:=by grind[zU]
theorem adO {id:Nat} {o:Ob} (h:o.mentions id=true):id∈o.ids:=by cases o with
 |box t cells=>exact aeR h
 |_=>cases h
def OD {G:St->Option St} {s D:St} {f:gA} {l:List (Nat×Option AV)} (K:∀p∈l,p.1∈f.mv) (B:∀x:St,(∀t∈f.rs,x.env t=s.env t)->(∀j∈f.ro,x.ob j=s.ob j)->(∀j∈f.rl,(x.ob j).map Ob.tZ=(s.ob j).map Ob.tZ)->G x=some (fR f D.env D.ob l x))
  (w:∀j∈f.wo,f.kp j=true->(D.ob j).map Ob.tZ=(s.ob j).map Ob.tZ):
  ∃H O m,Js G s (f.fill s D) H O m/\Rk s (f.fill s D):=by
 have mem:∀{id:Nat} {g:Nat->List _} {l:List _} {t:Nat},t∈l->id∈g t->id∈l.flatMap g:=λF h=>List.mem_flatMap.2 ⟨_,F,h⟩
 refine⟨_,_,l,⟨K,B,w,λt F v id e z=> ?_,λj I o id e z=> ?_,λid q=> ?_⟩,⟨λt F v id e z=> ?_,λj I o id e z=> ?_,λt v id e q z=> ?_,λj o id e q z=> ?_⟩⟩
 .grind[gA.fill,Oz,zU]
 .grind[gA.fill,Yb,adO]
 .simp_all[gA.fill]
 .grind[gA.fill,Oz,zU]
 .grind[gA.fill,Yb,adO]
 .grind[gA.fill]
 grind[gA.fill]
theorem iC {l:Type} {x:Option l} {g:l->l} (h:∀v,g v=v):x.map g=x:=by cases x<;>simp[h]
def ad4 {f:gA} {s x:St} {d:Option Nat} {v:SV} (l:f.ws=d.toList) (q:f.wo=[]):x.set d v=fR f (s.set d v).env (s.set d v).ob [] x:=by
 refine St.same (λt=> ?_) (λj=> ?_)
 .simp only[fR,l];cases d with
  |none=>exact(iC λ_=>rfl).symm
  |some d=>
   by_cases e:d=t
   .simp_all[St.set,cZ]
   .have:¬t∈(some d).toList:=by simp;exact λh=>e h.symm
    rw[au this];simp[St.set,bR _ _ e];exact(iC λ_=>rfl).symm
 .simp[fR,q];rw[iC BF];cases d<;>rfl
def Gx {f:gA} {s x:St} {d id:Nat} {o:Ob} {v:SV} (l:f.ws=[d]) (q:f.wo=[id]):(x.new id o).set (some d) v=fR f ((s.new id o).set (some d) v).env ((s.new id o).set (some d) v).ob [(id,none)] x:=by
 refine St.same (λt=> ?_) (λj=> ?_)
 .simp[fR,l,cv];by_cases e:t=d
  .simp_all[St.set,cZ]
  .rw[au e];simp[St.set,bR _ _ (λh=>e h.symm)];rfl
 .simp[fR,q,cv];by_cases e:j=id
  .simp_all[St.set,St.new,cZ]
  .rw[au e];simp[St.set,St.new,St.dw,bR _ _ (λh=>e h.symm)];rfl
def skip_ok {l:Array Oper} {k:Nat} {o:Oper} {s:St} (B:l[k]? =some o) (D:qp l o s=some false):
  ∃q F m,Js (qR P h cz l k) s ((tN l o).fill s (s.set o.dst .undef)) q F m/\Rk s ((tN l o).fill s (s.set o.dst .undef)):=
 OD (l:=[]) ai (λx w _ _=>by
  simp[qR,B];rw[As w,D]
  rw[ad4 (f:=tN _ o) rfl rfl]) λj z _=>by cases z
def jU (z:St->Option St) (s:St) (f:gA) (w:Nat->Option SV) (q:Nat->Option Ob) (l:List (Nat×Option AV)):Prop:=
 (∀p∈l,p.1∈f.mv)/\(∀j∈f.wo,f.kp j=true->(q j).map Ob.tZ=(s.ob j).map Ob.tZ)/\
  ∀x:St,(∀t∈f.rs,x.env t=s.env t)->(∀j∈f.ro,x.ob j=s.ob j)->(∀j∈f.rl,(x.ob j).map Ob.tZ=(s.ob j).map Ob.tZ)->z x=some (fR f w q l x)
def jU.imp {H:St->Option St} {s:St} {f q:gA} {D:Nat->Option SV} {G:Nat->Option Ob} {l:List (Nat×Option AV)} (B:jU H s f D G l) (I:∀t∈f.rs,t∈q.rs) (K:∀t∈f.ro,t∈q.ro) (O:∀t∈f.mv,t∈q.mv) (R:∀t,t∈f.ws↔t∈q.ws) (z:∀t,t∈f.wo↔t∈q.wo) (S:∀t∈f.rl,t∈q.rl) (U:∀t∈f.wo,q.kp t=true->f.kp t=true):jU H s q D G l:=
 ⟨λp hp=>O _ (B.1 p hp),λj F V=>B.2.1 j ((z j).2 F) (U j ((z j).2 F) V),λx k1 k2 k3=>by
  rw[B.2.2 x (λt w=>k1 t (I t w)) (λt w=>k2 t (K t w)) (λt w=>k3 t (S t w))]
  simp[fR,R,z]⟩
def jU.at {B:St->Option St} {s z:St} {f:gA} {q:Nat->Option SV} {w:Nat->Option Ob} {l:List (Nat×Option AV)} (D:jU B s f q w l) (h:B s=some z):z=fR f q w l s:=by have:=D.2.2 s (λ_ _=>rfl) (λ_ _=>rfl) (λ_ _=>rfl);simp_all
def YJ {U V:St->Option St} {s:St} {w B:gA} {q H:Nat->Option SV} {l I:Nat->Option Ob} {D F:List (Nat×Option AV)} (O:jU U s w q l D) (R:jU V (fR w q l D s) B H I F):
  ∃ev ov,jU (λx=>(U x).bind V) s (w.then B) ev ov (D++F):=by
 refine⟨λt=>if t∈B.ws then H t else(q t).map (ki F),λj=>if j∈B.wo then I j else(l j).map (Ob.zS (ki F)),λp hp=> ?_,λj S K=> ?_,λx k1 k2 k3=> ?_⟩
 .simp[gA.then,bu];exact(bu.1 hp).imp (O.1 p) (R.1 p)
 .simp[gA.then,aS,gK,gW,List.contains_eq_mem,aT] at K;simp[gA.then,bu] at S;have G:((fR w q l D s).ob j).map Ob.tZ=(s.ob j).map Ob.tZ:=by
   by_cases a:j∈w.wo
   .rw[skO a];exact O.2.1 j a (K.1.resolve_right λh=>h a)
   .exact skN a
  by_cases a:j∈B.wo
  .simp[aB a];exact(R.2.1 j a (K.2.resolve_right λh=>h a)).trans G
  .simp[au a];have b :=S.resolve_left a;rw[<-O.2.1 j b (K.1.resolve_right λh=>h b)];cases l j with
   |none=>rfl
   |some o=>simp[NN]
 .have e1:=O.2.2 x (λt z=>k1 t (by simp[gA.then,z])) (λt z=>k2 t (by simp[gA.then,z])) (λt z=>k3 t (by simp[gA.then,z]))
  have e2:=R.2.2 (fR w q l D x) (λt z=>by simp_all[fR,gA.then]) (λt z=>by simp_all[fR,gA.then]) (λt z=>by
   by_cases a:t∈w.wo
   .rw[skO a,skO a]
   simp_all[skN,gA.then])
  simp[e1,gZ,e2,aW];have mm:∀v,ki F (ki D v)=ki (D++F) v:=λv=>by simp[ki]
  refine St.same (λt=> ?_) (λj=> ?_)
  .simp[fR,gA.then];by_cases a:t∈B.ws
   .simp_all
   .by_cases b:t∈w.ws
    .simp_all
    .simp[a,b];cases x.env t with
     |none=>rfl
     |some v=>simp_all
  .simp[fR,gA.then];by_cases a:j∈B.wo
   .simp_all
   .by_cases b:j∈w.wo
    .simp_all
    .simp[a,b];cases x.ob j with
     |none=>rfl
     |some o=>cases o with
      |box t cells=>simp_all[Ob.zS]
      |_=>rfl
def jU.nil (s:St) (f:gA) (l:f.ws=[]) (q:f.wo=[]):jU some s f (λ_=>none) (λ_=>none) []:=
 ⟨ai,λj w=>(by simp_all),λx _ _ _=>by
  congr 1;refine St.same (λt=> ?_) (λj=> ?_)
  .simp[fR,l];exact(iC λ_=>rfl).symm
  simp_all[fR,iC,BF]⟩
def DX {s H:St} {id:Nat} (q:s.cV id=some H):∃w G l,jU (λx=>x.cV id) s { ro:=[id],wo:=[id],mv:=[id] } w G l:=by
 unfold St.cV at q;split at q
 .rename_i v D F;refine⟨λ_=>none,λ_=>none,[(id,some v)],by simp,λj _ B=>(by cases B),λx _ z _=> ?_⟩;have e:x.ob id=s.ob _:=z _ ai;unfold St.cV;simp[e,D,F,aW];refine St.same (λt=> ?_) (λj=> ?_)
  .rfl
  .simp[fR,cv];by_cases a:j=id
   .subst a;simp[cZ]
   .rw[au a,bR _ _ (λh=>a h.symm)];rfl
 simp_all
def BR:∀{cells:List SV} {s H:St},pG cells s=some H->∃q z l,jU (pG cells) s { ro:=wB cells,wo:=wB cells,mv:=wB cells } q z l
 |[],s,H,_=>⟨_,_,_,jU.nil s _ rfl rfl⟩
 |c::cells,s,H,G=>by
  have other:(∀id,c≠ .row id)->(∀x,pG (c::cells) x=pG cells x)/\wB (c::cells)=wB _:=λD=>by cases c<;>first|exact absurd rfl (D _)|exact⟨λ_=>rfl,rfl⟩
  by_cases I:∃id,c= .row id
  .obtain⟨id,rfl⟩:=I;obtain⟨s1,w,B⟩:=dm.1 G;obtain⟨q,z,l,K⟩:=DX w;obtain⟨S,ov',l',O⟩:=BR B;rw[K.at w] at O;obtain⟨U,ov2,r3⟩:=YJ K O;exact⟨_,_,_,r3.imp (λt F=>by assumption) (λt F=>by assumption) (λt F=>by assumption) (λt=>by rfl) (λt=>by simp[gA.then,wB,or_comm]) (λt F=>by assumption) (λt _ hk=>by cases hk)⟩
  .obtain⟨e1,R⟩:=other λid h=>I ⟨id,h⟩
   rw[e1] at G;obtain⟨q,z,l,r⟩:=BR G;refine⟨q,z,l,?_⟩;rw[R];exact⟨r.1,r.2.1,λx w B V=>by rw[e1];exact r.2.2 x w B V⟩
def Z3 {s S:St} {t:Nat} (D:qx s t=some S):∃z B l,jU (λx=>qx x t) s (Px s t) z B l:=by
 unfold qx at D;unfold Px;split at D
 .rename_i id F;obtain⟨z,B,l,r⟩:=DX D;refine⟨z,B,l,r.1,r.2.1,λx q w G=> ?_⟩;have e :=q t ai;simp[qx,e,F];exact r.2.2 x ai w ai
 .rename_i id F;obtain⟨z,B,l,r⟩:=DX D;refine⟨z,B,l,r.1,r.2.1,λx q w G=> ?_⟩;have e :=q t ai;simp[qx,e,F];exact r.2.2 x ai w ai
 .rename_i id R F;split at D
  .rename_i U cells I;obtain⟨z,B,l,r⟩:=BR D;refine⟨z,B,l,r.1,r.2.1,λx q w G=> ?_⟩;have e :=q t ai;have K:x.ob id=s.ob _:=w _ ai;simp[qx,e,F,K,I];exact r.2.2 x ai (λj H=>w j (by simp[H])) ai
  simp_all
 .refine⟨λ_=>none,λ_=>none,[],?_⟩;have O:∀x:St,x.env t=s.env t->qx x t=some x:=λx e=>by
   simp_all[qx]
  refine⟨ai,λj H=>(by simp at H),λx q w G=> ?_⟩;simp only;rw[O x (q t ai)];exact(jU.nil s _ rfl rfl).2.2 x q w G
theorem Sx {w l:St} {t:TypeId} {x z:Operand} (U:∀ty,bD P ty w x=bD P ty l x) (R:∀ty,bD P ty w z=bD P ty l z) (B:∀ty H,bD P ty w x=some H->∀id∈H.ids,(w.ob id).map Ob.tZ=(l.ob id).map Ob.tZ):wY P w t x z=wY P l t x z:=by
 unfold wY;rw[<-U,<-R];split<;>try rfl
 .rename_i e s id q i hs S hq;have k:=B t _ S id (by simp[SV.ids]);cases e1:w.ob _ with
  |none=>grind
  |some V=>rw[e1] at k;cases I:l.ob _ with
   |none=>simp_all
   |some F=>rw[I] at k;simp at k;cases V with
    |row K sz xs=>cases F with
     |row O G ys=>
      simp[Ob.tZ,Ob.row.injEq] at k;obtain⟨_,rfl,D⟩:=k;have :=by simpa using aP List.length D
      simp_all
     |_=>cases k
    |rn K sz q1 q2 q3 xs zs=>cases F with
     |rn O G q4 q5 q6 ys zs2=>
      simp only[Ob.tZ,Ob.rn.injEq] at k;obtain⟨_,rfl,_,_,_,D,_⟩:=k;have :=by simpa using aP List.length D
      simp_all
     |_=>cases k
    |_=>cases F<;>first|rfl|cases k
theorem OP {w l:St} {n:Nat} {e:TypeId} {x q:Operand} (B:∀ty,bD P ty w x=bD P ty l x) (z:∀ty,bD P ty w q=bD P ty l q):DL P w n e x q=DL P l n e x q:=by unfold DL;simp_all
def Ud {B:Array Oper} {o:Oper} {s:St} {v:SV} (U:dQ P h cz o s=some v):jU (step0 P h cz o) s (vS P h B o s) (s.set o.dst v).env (s.set o.dst v).ob []:=
 ⟨ai,λj O=>(by cases O),λx H I K=>by
  have q:dQ P h _ o s=dQ P h cz o x->step0 P h cz o x=some (fR (vS P h B o s) (s.set _ v).env _ _ x):=λthis=>by rw[U] at this;simp[step0,<-this];rw[ad4 (f:=vS P h _ o s) rfl rfl]
  cases D:ab3 o.op with
  |true=>cases w:o.op with
   |indexAddr t a ix=>
    have z:∀y∈o.op.operands.toList,∀ty,bD P ty s y=bD P _ x y:=λy V ty=>jq (λu e=>(H u (by
     subst e
     exact cR _ (fk.2 ⟨_,V,rfl⟩))).symm) _
    have ha:=z a (by rw[w];simp[Op.operands]);have hi:=z ix (by rw[w];simp[Op.operands])
    have hl:∀ty G,bD P ty s a=some G->∀id∈G.ids,(s.ob _).map _=(x.ob _).map _:=λty G e id l=>(K _ (by
     simp[vS,D]
     exact vA (by rw[w];simp[Op.operands]) e l)).symm
    refine q ?_;simp[dQ,w,eW];grind[Sx,OP]
   |_=>rw[w] at D;cases D
  |false=>
   have F:∀id∈Ld P h o s,s.ob id=x.ob id:=λid l=>by grind[Tf,vS,Ld]
   exact q (Vc (λR id l=>(I _ (by simp[vS,R,D,l])).symm) F (λt S=>(H t (by simp[vS,fD,S])).symm))⟩
def aeo {l:Array Oper} {k:Nat} {o:Oper} {s:St} {v:SV} (G:l[k]? =some o) (I:qp l o s=some true) (q:Fl h o=[]) (H:dQ P h cz o s=some v):
  ∃z K m,Js (qR P h cz l k) s ((vS P h l o s).fill s (s.set o.dst v)) z K m/\Rk s ((vS P h l o s).fill s (s.set o.dst v)):=
 OD (l:=[]) ai (λx w B D=>by
  simp[qR,G];rw[As w,I];simp[step,q]
  exact(Ud H).2.2 x w B D) λj F _=>by cases F
def aaQ {o:Oper} {s s':St} {c:Call} {d id:Nat} {x y:Operand} {t R:TypeId} (U:o.op= .call c) (hc:c.callee= .builtin .append) (q:c.args.toList=[x,y]) (V:c.argTypes.toList=[t,R]) (hd:o.dst=some d) (hx:bD P t s x=some (.row id)) (l:step0 P h cz o s=some s'):
  ∃ob:Ob,s'=(s.new id ob).set (some d) (.row id)/\
   ∀x:St,(∀t∈slotsOf o,x.env t=s.env t)->(∀j∈id::Dj s o,x.ob j=s.ob j)->step0 P h cz o x=some ((x.new id ob).set (some d) (.row id)):=by
 have hf:∀x:St,dQ P h cz o x=none:=λx=>by simp_all[dQ,yz]
 have he:∀F:St,step0 P h cz o F=(match isSlice P t,bD P t F x,bD P R F y with
  |some (e,s),some (.row id),some y=>match F.ob id,elems F y,P.info? e with
   |some (.row I w xs),some (G,B),some i=>
    if t=R/\e=I/\s=w/\w=G/\0<w/\(xs.length+B.length) *i.bytes<=140737488355328/\xs.length+B.length<=4611686018427387904/\i.zero.map (λz=>z.cells.size)=some w/\gO id=true then
     some ((F.new id (.row e w (xs++B))).set (some d) (.row id)) else none
   |some (.rn I w k e2 s2 xs zs),some (G,B),some i=>
    if t=R/\e=I/\s=w/\w=G/\0<w/\(xs.length+B.length) *i.bytes<=140737488355328/\xs.length+B.length<=4611686018427387904/\i.zero.map (λz=>z.cells.size)=some w/\gO id=true/\B.all (qI k)=true then
     some ((F.new id (.rn e w k e2 s2 (xs++B.map λc=>c.set k .hole) (zs++B.map λ_=>some []))).set (some d) (.row id)) else none
   |_,_,_=>none
  |some (e,s),some (.aq id .full),some y=>match F.ob id,elems F y,P.info? e with
   |some (.row I w xs),some (G,B),some i=>
    if t=R/\e=I/\s=w/\w=G/\0<w/\(xs.length+B.length) *i.bytes<=140737488355328/\xs.length+B.length<=4611686018427387904/\i.zero.map (λz=>z.cells.size)=some w/\gO id=true/\B.isEmpty=false then
     some ((F.new id (.row e w (xs++B))).set (some d) (.row id)) else none
   |_,_,_=>none
  |_,_,_=>none):=λF=>by
  simp only[step0,hf,mI,U,hc,hd,q,V];rfl
 rw[he] at l;split at l
 .rename_i e sz0 id2 sy hs O hy;rw[hx] at O;simp only[aW,SV.row.injEq] at O;subst O;split at l
  .rename_i I w xs G B i qQ hel hi;split at l
   .rename_i S;injection l with l;refine⟨.row e w (xs++B),l.symm,λF K H=> ?_⟩
    have D:∀z∈[x,y],∀ty,bD P ty F z=bD P ty s z:=λz hz ty=>jq (λu e=>K u (by
     subst e;refine fk.2 ⟨.tmp u,?_,rfl⟩;rw[U];simp only[Op.operands,Call.operands,hc,jd,bu];right
     rw[q];exact hz)) ty
    rw[he,D x ai t,D y ai R,hx,hy,hs];have e1:F.ob id=s.ob id:=H id ai
    have e2:elems F sy=elems s sy:=wT (λj hj=>H j (dz _ (vA (P:=P) (x:=y) (ty:=R) (by
     rw[U];simp only[Op.operands,Call.operands,hc,jd,bu];right
     rw[q];simp) hy hj)))
    grind
   .cases l
  .rename_i I w k e3 s3 xs zs G B i qQ hel hi;split at l
   .rename_i S;injection l with l;refine⟨.rn e w k e3 s3 (xs++B.map λc=>c.set k .hole) (zs++B.map λ_=>some []),l.symm,λF K H=> ?_⟩
    have D:∀z∈[x,y],∀ty,bD P ty _ z=bD P _ s z:=λz hz ty=>jq (λu e=>K u (by
     subst e;refine fk.2 ⟨.tmp u,?_,rfl⟩;rw[U];simp only[Op.operands,Call.operands,jd,bu];right
     rw[q];exact hz)) _
    rw[he,D x ai t,D y ai _,hx,hy,hs];have e1:F.ob id=s.ob _:=H _ ai
    have e2 :=wT (λj hj=>H j (dz _ (vA (by
     rw[U];simp only[Op.operands,Call.operands,jd]
     rw[q];simp) hy hj)))
    grind
   .cases l
  .cases l
 .simp_all
 simp_all
def Y1 {o:Oper} {s s':St} {c:Call} {d id:Nat} {x y:Operand} {t K:TypeId} (O:o.op= .call c) (hc:c.callee= .builtin .append) (w:c.args.toList=[x,y]) (I:c.argTypes.toList=[t,K]) (hd:o.dst=some d) (hx:bD P t s x=some (.aq id .full)) (l:step0 P h cz o s=some s'):
  ∃ob:Ob,s'=(s.new id ob).set (some d) (.row id)/\
   ∀x:St,(∀t∈slotsOf o,x.env t=s.env t)->(∀j∈id::Dj s o,x.ob j=s.ob j)->step0 P h cz o x=some ((x.new id ob).set (some d) (.row id)):=by
 have hf:∀x:St,dQ P h cz o x=none:=λx=>by simp_all[dQ,yz]
 have he:∀D:St,step0 P h cz o D=(match isSlice P t,bD P t D x,bD P K D y with
  |some (e,s),some (.row id),some y=>match D.ob id,elems D y,P.info? e with
   |some (.row H q xs),some (F,B),some i=>
    if t=K/\e=H/\s=q/\q=F/\0<q/\(xs.length+B.length) *i.bytes<=140737488355328/\xs.length+B.length<=4611686018427387904/\i.zero.map (λz=>z.cells.size)=some q/\gO id=true then
     some ((D.new id (.row e q (xs++B))).set (some d) (.row id)) else none
   |some (.rn H q k U s2 xs zs),some (F,B),some i=>
    if t=K/\e=H/\s=q/\q=F/\0<q/\(xs.length+B.length) *i.bytes<=140737488355328/\xs.length+B.length<=4611686018427387904/\i.zero.map (λz=>z.cells.size)=some q/\gO id=true/\B.all (qI k)=true then
     some ((D.new id (.rn e q k U s2 (xs++B.map λc=>c.set k .hole) (zs++B.map λ_=>some []))).set (some d) (.row id)) else none
   |_,_,_=>none
  |some (e,s),some (.aq id .full),some y=>match D.ob id,elems D y,P.info? e with
   |some (.row H q xs),some (F,B),some i=>
    if t=K/\e=H/\s=q/\q=F/\0<q/\(xs.length+B.length) *i.bytes<=140737488355328/\xs.length+B.length<=4611686018427387904/\i.zero.map (λz=>z.cells.size)=some q/\gO id=true/\B.isEmpty=false then
     some ((D.new id (.row e q (xs++B))).set (some d) (.row id)) else none
   |_,_,_=>none
  |_,_,_=>none):=λD=>by
  simp only[step0,hf,mI,O,hc,hd,w,I];rfl
 rw[he] at l;split at l
 .simp_all
 .rename_i e sz0 id2 sy hs G hy;rw[hx] at G;simp at G;subst G;split at l
  .split at l
   .injection l with l;refine⟨_,l.symm,λD S R=> ?_⟩
    have V:∀z∈[x,y],∀ty,bD P ty _ z=bD P _ s z:=λz hz ty=>jq (λu e=>S u (by
     subst e;refine fk.2 ⟨.tmp u,?_,rfl⟩;rw[O];simp only[Op.operands,Call.operands,jd,bu];right
     rw[w];exact hz)) _
    have U :=wT (λj hj=>R j (dz _ (vA (by
     rw[O];simp only[Op.operands,Call.operands,jd]
     rw[w];simp) hy hj)))
    grind
   .cases l
  .cases l
 simp_all
def kp_E0 {q:Array Oper} {o:Oper} {s:St} (w:¬∃t x,o.op= .load t x) (z:¬∃t a x id B i l j,o.op= .store t a x/\bD P 0 s a=some (.rp id B i l)/\bD P t s x=some (.row j)) (j:Nat):(lM P h q o s).kp j=false:=by
 unfold lM EV Cw OG;split
 .split
  .grind
  .rfl
  .split<;>rfl
 .cases h.rows.contains _<;>rfl
 .cases h.fT.contains _<;>cases h.rows.contains _<;>rfl
 .cases h.rows.contains _ with
  |false=>rfl
  |true=>simp only[ak,Bz];split<;>rfl
 .rfl
 .split
  .split
   .split<;>rfl
   .rfl
  .cases(o.dst.any _&& !(o.dst.any _)) with
   |true=>rfl
   |false=>rename_i c _ _ f _;cases(!(o.dst.any _)&&(!(o.dst.any _)&&wide s c f)) with
    |false=>cases o.dst.any h.owns.contains with
     |false=>rfl
     |true=>
      simp only[ak,az,EU];split
      .split
       .split
        .rfl
        .rfl
       .rfl
      .rfl
    |true=>simp[vR];split<;>rfl
  .rfl
 .simp_all
 .rfl
def take_fx {D:Array Oper} {o:Oper} {s s':St} {t:TypeId} {a:Operand} (ho:o.op= .load t a) (l:step0 P h cz o s=some s') (q:(lM P h D o s).all=false):
  ∃ev ov m,jU (step0 P h cz o) s (lM P h D o s) ev ov m:=by
 obtain⟨F,w⟩:∃F,lM P h D o s=F:=⟨_,rfl⟩
 rw[w] at q⊢;unfold lM at w;rw[ho] at w;cases H:o.dst with
 |none=>rw[H] at w;subst w;cases q
 |some d=>rw[H] at w;simp only at w;cases I:h.take.contains d with
  |false=>rw[I] at w;subst w;cases q
  |true=>
   rw[I] at w;simp[ak,Sg] at w;split at w
   .rename_i id sz i B V;split at w
    .rename_i e R k e' s2 xs ys z;subst w;have he:∀x:St,bD P 0 x a=some (.rp id sz i B)->x.ob id=some (.rn e R k e' s2 xs ys)->step0 P h cz o x=xB P x t a d:=λx h1 h2=>by
      simp_all[dQ,step0,mI]
     rw[he s V z] at l;unfold xB at l;rw[V] at l;split at l
     .rename_i id2 sz2 i2 off2 e1 G;obtain⟨rfl,rfl,rfl,rfl⟩:=e1;rw[z] at l;simp at l;split at l
      .rename_i zs hy;cases hb:(Nat.beq sz R&&Nat.beq B k&& !(Nat.beq id d)&&Nat.blt id 10000) with
       |false=>simp_all
       |true=>
       rw[hb] at l;simp at l;have U:id≠d:=λe=>by simp_all
       refine⟨s'.env,s'.ob,[(d,none)],by simp,λj hj hk=> ?_,λx h1 h2 _=> ?_⟩<;>subst l
       rotate_left
       .have O:bD P 0 x a=some (.rp id sz i B):=by
         rw[<-V]
         exact jq (λu e=>h1 u (by
          subst e
          exact cR _ (fk.2 ⟨.tmp u,by rw[ho];simp[Op.operands],rfl⟩))) 0
        have K :=(h2 _ ai).trans z;rw[he x O K];unfold xB;rw[O,G];simp only[K,hy,hb];refine aP _ (St.same (λu=> ?_) (λu=> ?_))
        .simp[fR,cv];by_cases e:u=d
         .simp_all[St.set,cZ]
         .rw[au e];simp[St.set,bR _ _ (λh=>e h.symm)];rfl
        .simp[fR,aJ,lW,nJ];by_cases e:u=d
         .simp_all[St.set,St.new,cZ]
         .by_cases e2:u=id
          .subst e2;simp[true_or,fW,St.set,St.new,St.dw,bR _ _ (λh=>e h.symm),cZ]
          .rw[au af];simp[St.set,St.new,St.dw,bR _ _ (λh=>e h.symm),bR _ _ (λh=>e2 h.symm)];rfl
       .have S :=by
         simp only[aS] at hk;exact beq_iff.1 hk.1
        subst S;rw[z];simp[St.set,St.new,St.dw,bR _ _ (λh=>U h.symm),cZ,dX,Ob.dw,Ob.tZ]
      simp_all
     simp_all
    .subst w;cases q
   .subst w;cases q
def r6 {R:Type} {b:Bool} {x:Option R} {r:R} (l:(bif b then x else none)=some r):b=true/\x=some r:=by grind
def oo:∀(l:List Nat) (q:St) (t:Nat),(fG l q).env t=(q.env t).map (ki (l.map λi=>(i,none)))
 |[],q,t=>by exact(iC λ_=>rfl).symm
 |id::l,q,t=>by simp[fG];rw[oo l _ t];simp[St.dw,Option.map_map];rfl
def su:∀(l:List Nat) (q:St) (j:Nat),j∉l->(fG l q).ob j=(q.ob j).map (Ob.zS (ki (l.map λi=>(i,none))))
 |[],q,j,_=>by simp_all[fG,iC,BF]
 |id::l,q,j,w=>by simp at w;simp[fG];rw[su l _ j w.2];simp only[St.dw,bR _ _ (λh=>w.1 h.symm)];cases q.ob j with
  |none=>rfl
  |some o=>cases o<;>simp only[dX,Ob.dw,Ob.zS,fo]<;>rfl
theorem qj:∀(l:List Nat) (w q:St) (j:Nat),w.ob j=q.ob j->(fG l w).ob j=(fG l q).ob j
 |[],w,q,j,h=>h
 |id::l,w,q,j,h=>by
  refine qj l _ _ j ?_;by_cases e:id=j
  .simp_all[St.dw,cZ]
  simp_all[St.dw,bR]
theorem back_mem {names:List Nat} {F:Nat->Nat}:∀{m:List (Nat×Nat)} {w l:List (Nat×Ob)},mS names F m w=some l->∀{j:Nat} {o:Ob},find l j=some o->j∈m.map (·.1)
 |[],[],l,h,j,o,q=>by simp[mS,aW] at h;subst h;cases q
 |[],_::_,l,h,_,_,_=>by simp[mS] at h
 |_::_,[],l,h,_,_,_=>by simp[mS] at h
 |(id,G)::m,(D,H)::w,l,h,j,o,q=>by obtain⟨_,h⟩:=r6 h;simp at h;obtain⟨r,B,rfl⟩:=h;simp[find] at q;cases z:Nat.beq id j with
  |true=>simp_all
  |false=>rw[z] at q;exact dz _ (back_mem B q)
def many_fx {B:Array Oper} {o:Oper} {s s':St} {c:Call} {f:Operand} (ho:o.op= .call c) (hc:c.callee= .value f) (how:o.dst.any h.owns.contains=false) (U:o.dst.any h.stay.contains=false) (hw:wide s c f=true)
  (w:step0 P h cz o s=some s') (F:(vR P h B o s c f).all=false):∃ev ov m,jU (step0 P h cz o) s (vR P h B o s c f) ev ov m:=by
 have ZD:∀x:St,(∀t∈fD B o,x.env t=s.env t)->∀y∈o.op.operands.toList,∀ty,bD P ty x y=bD P ty s y:=λx h1 y hy' ty=>jq (λu e=>h1 u (by
  subst e
  exact cR _ (fk.2 ⟨.tmp u,hy',rfl⟩))) ty
 have G:∀x∈c.args.toList,x∈o.op.operands.toList:=λx hx=>by simp_all[Op.operands,Call.operands,jd,bu]
 have hfo:f∈o.op.operands.toList:=by rw[ho];simp[Op.operands,Call.operands,hc]
 have hwide:∀x:St,(∀t∈fD B o,x.env t=s.env t)->wide x c f=wide s c f:=λx h1=>by
  have henv:∀y∈o.op.operands.toList,∀u,y= .tmp u->x.env u=s.env u:=λy hy u e=>h1 u (by
   subst e
   exact cR _ (fk.2 ⟨.tmp u,hy,rfl⟩))
  have e1:Vs x f=Vs s f:=by cases f with
   |tmp u=>simp only[Vs,henv _ hfo u rfl]
   |_=>rfl
  have e2:∀l:List Operand,(∀y∈l,y∈o.op.operands.toList)->l.any (EZ x)=l.any (EZ s):=by intro l;induction l with
   |nil=>simp
   |cons y l ih=>intro hl;simp only[qZ];rw[ih λz hz=>hl z (by simp[hz])];cases y with
    |tmp u=>simp only[EZ,henv _ (hl (.tmp u) ai) u rfl]
    |_=>rfl
  unfold wide;rw[e1,e2 _ G]
 have he:∀x:St,(∀t∈fD B o,x.env t=s.env t)->step0 P h cz o x=j0 P h cz x c f o.dst:=λx h1=>by
  have hwx:=(hwide x h1).trans hw;have hfn:dQ P h cz o x=none:=by simp only[dQ,ho,hc,how,U,hwx,az,pY,uI,ak]
  unfold step0;rw[hfn];cases O:o.dst with
  |none=>simp only[mI,ho,hc,O,hwx,Option.any_none,az,pY,ak]
  |some d=>rw[O] at how U;simp only[mI,ho,hc,O,how,U,hwx,az,pY,ak]
 rw[he s λ_ _=>rfl] at w;have hr0:∃g args,ux P h s c f=some (g,args):=by
  unfold vR at F;split at F
  .simp_all
  .cases F
 obtain⟨g,args,hra⟩:=hr0;have hF:vR P h B o s c f={ rs:=fD B o,ws:=o.dst.toList,ro:=jG s args,wo:=jG s args,mv:=(jG s args).filter (iz false s (qz args)) }:=by unfold vR;rw[hra]
 rw[hF];have D:=hra;unfold ux at D;split at D
 .rename_i g0 pre q V hfn hvs;simp only[aW,ck] at D;obtain⟨rfl,rfl⟩:=D;unfold j0 at w;rw[hfn,hvs] at w;simp only[U] at w;obtain⟨K,w⟩:=r6 w;split at w
  .rename_i cL S;split at w
   .rename_i r BD I;split at w
    .rename_i back H;obtain⟨ZB,w⟩:=r6 w;injection w with w;generalize R:gN s 200 ((pre++(V++q)).flatMap SV.ids) []=ids at K S I H w;have hro:jG s (pre++(V++q))=ids:=R;rw[hro];have hfst:(ja (iz false s (qz (pre++(V++q)))) 0 ids).map (·.1)=ids:=tQ _ _ _;refine⟨s'.env,s'.ob,(ids.filter (iz false s (qz (pre++(V++q))))).map λi=>(i,none),λp hp=> ?_,λj _ hk=>(by cases hk),λx h1 h2 _=> ?_⟩
     .obtain⟨i,hi,rfl⟩:=aD.1 hp;exact hi
     .have k1:bD P 0 x f=bD P 0 s f:=ZD x h1 f hfo 0;have k2:uk P h x c.args.toList c.argTypes.toList=uk P h s c.args.toList c.argTypes.toList:=zA λy hy ty=>ZD x h1 y (G y hy) ty
      have k3:gN x 200 ((pre++(V++q)).flatMap SV.ids) []=ids:=by rw[<-R];exact(oW 200 _ _ λid hid=>(h2 id (by rw[R] at hid;exact hid)).symm).symm
      have k4:∀id∈ids,iz false x (qz (pre++(V++q))) id=iz false s (qz (pre++(V++q))) id:=λid hid=>by simp only[iz,OS,h2 id hid]
      have k5:∀(l:List Nat) (n:Nat),(∀id∈l,id∈ids)->ja (iz false x (qz (pre++(V++q)))) n l=ja (iz false s (qz (pre++(V++q)))) n l:=by intro l;induction l with
       |nil=>intro n _;rfl
       |cons i l ih=>simp_all[ja]
      have k6:=k5 ids 0 λ_ h=>h
      have k7:jT x ids (iS (ja (iz false s (qz (pre++(V++q)))) 0 ids)) (ja (iz false s (qz (pre++(V++q)))) 0 ids)=some cL:=by
       rw[<-S];exact tn λp hp=>h2 p.1 (by grind)
      have k8 :=lU λi hi=>k4 i hi
      rw[he x h1];unfold j0;rw[k1,k2,hfn,hvs];simp only[U,k3,k6,K,k7,I,H,ZB];refine aP _ (St.same (λt=> ?_) (λj=> ?_))
      .simp[fR];cases O:o.dst with
       |none=>simp_all[St.set,oo]
       |some d=>
        by_cases e:d=t
        .subst e;rw[<-w,O];simp[St.set,cZ]
        .rw[au (by grind)];simp_all[St.set,bR,oo]
      .have abU:∀(y) (v),(St.set y o.dst v).ob=y.ob:=λy v=>by cases o.dst<;>rfl
       simp[fR,abU];by_cases e:j∈ids
       .grind[qj]
       .have hb:find back j=none:=by
         cases hf:find _ j with
         |none=>rfl
         |some o'=>grind[back_mem]
        simp_all[su]
    simp_all
   simp_all
  simp_all
 simp_all
def HO {d:Nat}:∀{l:List (Nat×Ob)} {k:Nat} {p:Nat×Nat},p∈newNames d k l->k+l.length<=8->p.1∈og d
 |[],k,p,h,_=>by cases h
 |x::l,k,p,h,q=>by
  simp[newNames,aJ,bp] at h q;rcases h with rfl|h
  .exact aD.2 ⟨k,gL.2 af,rfl⟩
  .exact HO h af
def Fb {d:Nat}:∀{l:List (Nat×Ob)} {k:Nat},(newNames d k l).length=l.length
 |[],k=>rfl
 |x::l,k=>by simp[newNames,Fb]
def Ho {B l:St} {w:List Nat} {d:Nat}:∀{xs:List Operand} {q:List TypeId} {j:Nat},(∀x∈xs,∀ty,bD P ty B x=bD P ty l x)->CV P w d B j xs q=CV P w d l j xs q
 |[],_,_,_=>rfl
 |x::xs,q,j,z=>by unfold CV argG;rw[z x ai,Ho λy D=>z y (by simp[D])]
def EX {d:Nat}:∀{xs:List Operand} {l:List TypeId} {j:Nat},mZ P [] d j xs l=[]
 |[],_,_=>rfl
 |x::xs,l,j=>by simp[mZ,EX]
def RF {F:St} {g:Nat} {args:List SV} {w q:Nat->Nat} {d:Option Nat} (z:∀i∈jG F args,w i=q i):jZ cz F g args w d=jZ cz F g args q d:=by
 unfold jZ;simp only[];generalize D:gN F 200 (args.flatMap SV.ids) []=ids;have G:jG F args=ids:=D;rw[G] at z;have R:∀(l:List Nat) (n:Nat),(∀i∈l,i∈ids)->qu w n l=qu q n l:=by intro l;induction l with
  |nil=>intro n _;rfl
  |cons i l S=>simp_all[qu,dz,gE]
 have U:=R ids 0 λ_ h=>h
 have H:∀i∈ids,given w i=given q i:=λi B=>by simp[given,z i B]
 have K:∀i∈ids,(!(stays w i))= !(stays q i):=λi B=>by simp[stays,z i B]
 have k7:(qu q 0 _).filter (λp=> !(given _ _))=(qu _ 0 _).filter _:=lU λp I=>by rw[H _ (rz _ 0 _ p I).1]
 have V :=lU K;have k9:ids.all (λi=> !(given w i))=ids.all (λi=> !(given q i)):=by rw[je,cH,cH];exact⟨λh i B=>by simp_all,λh i B=>by simp_all⟩
 have O:ids.all (λi=> !(given w i)||iG i)=ids.all (λi=> !(given q i)||iG i):=by rw[je,cH,cH];exact⟨λh i B=>by simp_all,λh i B=>by simp_all⟩
 simp_all
def gen_fx {F:Array Oper} {o:Oper} {s s':St} {c:Call} {f:Operand} (ho:o.op= .call c) (hc:c.callee= .value f) (how:o.dst.any h.owns.contains=true)
  (l:step0 P h cz o s=some s') (D:(EU P h F o s c f).all=false):∃ev ov m,jU (step0 P h cz o) s (EU P h F o s c f) ev ov m:=by
 have ZD:∀x:St,(∀t∈fD F o,x.env t=s.env t)->∀y∈o.op.operands.toList,∀ty,bD P ty x y=bD P ty s y:=λx K y hy' ty=>jq (λu e=>K u (by
  subst e
  exact cR _ (fk.2 ⟨.tmp u,hy',rfl⟩))) ty
 have hargs:∀x∈c.args.toList,x∈o.op.operands.toList:=λx hx=>by simp_all[Op.operands,Call.operands,jd,bu]
 have hfo:f∈o.op.operands.toList:=by rw[ho];simp[Op.operands,Call.operands,hc]
 have he:∀x,step0 P h cz o x=iO P h cz x c f o.dst:=λx=>by
  have hfn:dQ P h cz o x=none:=by simp only[dQ,ho,hc,how,ak]
  unfold step0;rw[hfn];cases G:o.dst with
  |none=>rw[G] at how;cases how
  |some d=>rw[G] at how;simp only[mI,ho,hc,G,how,ak]
 rw[he] at l;unfold EU at D⊢;split at D
 .rename_i d G;split at D
  .rename_i key hgv;split at D
   .rename_i g pre S vs hf hvs;generalize hkr:vX [] 0 vs=kr;have key:∀x:St,(∀t∈fD F o,x.env t=s.env t)->iO P h cz x c f (some d)=jZ cz x g (pre++(vs++S)) (Ki x (iz false x kr)) (some d):=λx K=>by
     unfold iO;simp only[hgv];unfold CY;simp only[EX,iP,List.all_nil,ak];rw[ZD x K f hfo 0,Ho λy hy ty=>ZD x K y (hargs y hy) ty,hf,hvs,<-hkr]
    rw[G,key s λ_ _=>rfl] at l;generalize pre++(vs++S)=args at key l;generalize hcls:Ki s (iz false s kr)=q at l⊢;have hroI:jG s args=gN s 200 (args.flatMap SV.ids) []:=rfl;unfold jZ at l;simp only[] at l;generalize V:gN s 200 (args.flatMap SV.ids) []=ids at l hroI;rw[hroI];obtain⟨wX,l⟩:=r6 l;split at l
    .rename_i cL Sr;split at l
     .rename_i r O wW;simp only[rL] at l;obtain⟨z,l⟩:=r6 l;generalize hmB:(qu q 0 ids).filter (λp=> !(given q p.1))=mB at l z;generalize hnw:newNames d 0 (O.drop mB.length)=I at l z;have hlen:(O.drop mB.length).length<=8:=by
       simp only[aS] at z;have:=fI z.1.1.1.1;rwa[<-hnw,Fb] at this
      have hin:∀j∈I.map (·.1),j∈og d:=λj H=>by obtain⟨p,R,rfl⟩:=aD.1 H;rw[<-hnw] at R;exact HO R af
      have hinB:∀j∈mB.map (·.1),j∈ids:=λj H=>by obtain⟨p,R,rfl⟩:=aD.1 H;rw[<-hmB] at R;exact(rz q 0 ids p (c4.1 R).1).1
      split at l
      .rename_i B hb;have abI:∀{j:Nat} {o':Ob},find B j=some o'->j∈ids++og d:=λ{j o'} hf=>by
        have:=back_mem hb hf;rw[cn,bu] at this;rcases this with h|h
        .exact cR _ (hinB _ h)
        .exact gD _ (hin _ h)
       have hx:∀x:St,(∀t∈fD F o,x.env t=s.env t)->(∀j∈ids++og d,x.ob j=s.ob j)->∀w,(match(generalizing:=false) r with
         | .iQ [.iQ [.self 0, .rD,y]]=>bif(wV y).closed ((mB++I).map (·.2)) then
           some (St.set { env:=(fG (ids.filter (λi=> !(stays q i))++I.map (·.1)) x).env,ob:=λi=>(find B i).orElse λ_=>(fG (ids.filter (λi=> !(stays q i))++I.map (·.1)) x).ob i } (some d) (K1 (find B) ((wV y).kD (iS (swap (mB++I))))))
          else none
         |r=>bif r.jM then
           some (St.set { env:=(fG (ids.filter (λi=> !(stays q i))++I.map (·.1)) x).env,ob:=λi=>(find B i).orElse λ_=>(fG (ids.filter (λi=> !(stays q i))++I.map (·.1)) x).ob i } (some d) (.pv r))
          else none)=w->iO P h cz x c f (some d)=w:=λx K U w hw=>by
        have h2':∀j∈ids,x.ob j=s.ob j:=λj H=>U j (cR _ H)
        have k3:gN x 200 (args.flatMap SV.ids) []=ids:=by rw[<-V];exact(oW 200 _ _ λid hid=>(h2' id (by rw[V] at hid;exact hid)).symm).symm
        have k4:∀i∈jG x args,Ki x (iz false x kr) i=q i:=λi hi=>by
         have hi':i∈ids:=by
          have:jG x args=ids:=k3
          rwa[this] at hi
         rw[<-hcls];simp only[Ki,E9,Vv,iz,OS,h2' i hi']
        have k7:jT x ids (iS (qu q 0 ids)) (qu q 0 ids)=some cL:=by rw[<-Sr];exact tn λp R=>h2' p.1 (rz q 0 ids p R).1
        rw[key x K,RF k4];unfold jZ;simp only[k3,wX,ak,k7,wW,rL,hmB,hnw,z,hb];exact hw
       have go:∀v:SV,s'=St.set { env:=(fG (ids.filter (λi=> !(stays q i))++I.map (·.1)) s).env,ob:=λi=>(find B i).orElse λ_=>(fG (ids.filter (λi=> !(stays q i))++I.map (·.1)) s).ob i } (some d) v->
         (∀x:St,(∀t∈fD F o,x.env t=s.env t)->(∀j∈ids++og d,x.ob j=s.ob j)->iO P h cz x c f (some d)=some (St.set { env:=(fG (ids.filter (λi=> !(stays q i))++I.map (·.1)) x).env,ob:=λi=>(find B i).orElse λ_=>(fG (ids.filter (λi=> !(stays q i))++I.map (·.1)) x).ob i } (some d) v))->
         ∃ev ov m,jU (step0 P h cz o) s { rs:=fD F o,ws:=[d],ro:=ids++og d,wo:=ids++og d,mv:=ids.filter (λi=> !(stays q i))++og d } ev ov m:=λv hs' hx=>by
        refine⟨s'.env,s'.ob,(ids.filter (λi=> !(stays q i))++I.map (·.1)).map λi=>(i,none),λp R=> ?_,λj _ hk=>(by cases hk),λx K U _=> ?_⟩
        .obtain⟨i,hi,rfl⟩:=aD.1 R;rcases bu.1 hi with hi|hi
         .exact cR _ hi
         .exact gD _ (hin i hi)
        .rw[he,G,hx x K U,hs'];refine aP some (St.same (λt=> ?_) (λj=> ?_))
         .simp only[fR,cv];by_cases e:t=d
          .subst e;simp[St.set,cZ]
          .rw[au e];simp only[St.set,bR _ _ (λh=>e h.symm),oo]
         .have abU:∀(y) (v),(St.set y (some d) v).ob=y.ob:=λy v=>rfl
          simp only[fR,abU];by_cases e:j∈ids++og d
          .rw[aB e,qj _ _ _ _ (U j e)]
          .rw[au e];have hb0:find B j=none:=by
            cases hf:find B j with
            |none=>rfl
            |some o'=>exact absurd (abI hf) e
           have H:j∉ids.filter (λi=> !(stays q i))++I.map (·.1):=λH=>e (by
            rcases bu.1 H with H|H
            .exact cR _ (c4.1 H).1
            .exact gD _ (hin j H))
           rw[hb0,su _ _ _ H];rfl
       split at l
       .rename_i y;obtain⟨hc3,l⟩:=r6 l;injection l with l;exact go _ l.symm λx K U=>hx x K U _ (by simp only[hc3,ak])
       .rename_i hno;obtain⟨hc3,l⟩:=r6 l;injection l with l;refine go _ l.symm λx K U=>hx x K U _ ?_
        split
        .exact absurd rfl (hno _)
        .simp only[hc3,ak]
      .cases l
     .cases l
    .cases l
   .cases D
  .cases D
 .cases D
def put_fx {G:Array Oper} {o:Oper} {s s':St} {t:TypeId} {a y:Operand} {id R i w j:Nat} (ho:o.op= .store t a y) (V:bD P 0 s a=some (.rp id R i w)) (hy:bD P t s y=some (.row j)) (l:step0 P h cz o s=some s') (D:(lM P h G o s).all=false):
  ∃ev ov m,jU (step0 P h cz o) s (lM P h G o s) ev ov m:=by
 obtain⟨F,B⟩:∃F,lM P h G o s=F:=⟨_,rfl⟩
 rw[B] at D⊢;unfold lM at B;rw[ho] at B;cases I:o.dst with
 |some d=>rw[I] at B;subst B;cases D
 |none=>
  rw[I] at B;simp[EV,V,hy] at B;subst B;have he:∀x:St,bD P 0 x a=some (.rp id R i w)->bD P t x y=some (.row j)->step0 P h cz o x=HW P x t id R i w j:=λx h1 U=>by simp_all[dQ,eW,step0,mI]
  rw[he s V hy] at l;unfold HW at l;split at l
  .rename_i e sz' k e' s2 xs ys S s3 zs H hsz qQ K;cases hb:(Nat.beq R sz'&&Nat.beq w k&&Nat.blt id 10000&&Nat.blt j 10000&&Nat.beq e' S&&Nat.beq s2 s3&&Nat.blt i ys.length&& !(Nat.beq id j)) with
   |false=>simp_all
   |true=>
   rw[hb] at l;simp at l;refine⟨s'.env,s'.ob,[(j,none),(id+40000,none)],by simp,λq hq hk=> ?_,λx h1 U _=> ?_⟩<;>subst l
   .simp_all[cZ,Ob.tZ]
   .have O:∀z∈o.op.operands.toList,∀ty,bD P ty x z=bD P _ s z:=λz hz ty=>jq (λu e=>h1 u (by
     subst e
     exact cR _ (fk.2 ⟨_,hz,rfl⟩))) _
    have k1:=O a (by rw[ho];simp[Op.operands]) 0;have k2:=O y (by rw[ho];simp[Op.operands]) t;have x1 :=(U _ ai).trans qQ;have x2 :=(U j ai).trans K;rw[he x (k1.trans V) (k2.trans hy)];unfold HW;simp only[H,hsz,x1,x2,hb];refine aP _ (St.same (λu=> ?_) (λu=> ?_))
    .exact oo [j,id+40000] x u
    .simp[fR];by_cases e:u=id
     .simp_all[cZ]
     .simp[bR _ _ (λh=>e h.symm)];by_cases S:u=j
      .rw[aB (.inr (.inl S))];exact qj [j,id+40000] x s u (by simp_all)
      .by_cases e3:u=id+40000
       .simp_all[St.dw,cZ]
       .rw[au af];exact su [j,id+40000] x u (by simp_all)
  simp_all
def wj (q:List (Nat×Nat×TypeId×Nat)):∀(l:List (Nat×TypeId×Nat)) (w:St) (t:Nat),(iP q l w).env t=(w.env t).map (ki (l.map λx=>(x.1,none)))
 |[],w,t=>by exact(iC λ_=>rfl).symm
 |(id,e,s)::l,w,t=>by simp only[iP];rw[wj q l _ t];simp[St.new,St.dw,Option.map_map];rfl
def Di (z:List (Nat×Nat×TypeId×Nat)):∀(l:List (Nat×TypeId×Nat)) (q:St) (j:Nat),j∉l.map (·.1)->(iP z l q).ob j=(q.ob j).map (Ob.zS (ki (l.map λx=>(x.1,none))))
 |[],q,j,_=>by grind[iP,iC,BF]
 |(id,e,s)::l,q,j,w=>by simp only[bw,aJ,not_or] at w;simp[iP];rw[Di _ l _ j w.2];simp only[St.new,St.dw,bR _ _ (λh=>w.1 h.symm)];cases q.ob j with
  |none=>rfl
  |some o=>cases o<;>simp only[dX,Ob.dw,Ob.zS,fo]<;>rfl
def ur (w:List (Nat×Nat×TypeId×Nat)):∀(l:List (Nat×TypeId×Nat)) (z q:St) (j:Nat),z.ob j=q.ob j->(iP w l z).ob j=(iP w l q).ob j
 |[],z,q,j,h=>h
 |(id,e,s)::l,z,q,j,h=>by
  refine ur w l _ _ j ?_;by_cases e:id=j
  .simp_all[St.new,cZ]
  simp_all[St.new,St.dw,bR]
def S7 {v:AV}:∀l:List (Nat×Option AV),ki l (.pv v)= .pv v
 |[]=>rfl
 |p::l=>by
  obtain⟨c,_,e,_⟩:=KF p _;have e:S9 p (.pv v)= .pv v:=by rw[e];rfl
  show ki l (S9 p _)= .pv v;rw[e,S7 l]
def Fc {w:List (Nat×Nat×TypeId×Nat)} {l:List (Nat×TypeId×Nat)} {z:St} {t:TypeId} {y:Operand} {v:AV} (q:bD P t z y=some (.pv v)):bD P t (iP w l z) y=some (.pv v):=by cases y with
 |tmp i=>simp only[bD] at q⊢;rw[wj,q,dX,S7]
 |_=>exact q
def Z0 {st st':St} {v:AV}:GA st (.pv v)=GA st' (.pv v):=by cases v<;>rfl
def Fh {ty:Nat->TypeId} {st st1 st2:St}:∀{l:List (Nat×Operand)} {q:List (Nat×AV)},(∀y∈l.map (·.2),∀t v,bD P t st y=some (.pv v)->bD P t st1 y=some (.pv v)/\bD P t st2 y=some (.pv v))->partsOf P ty st l=some q->
  qJ P ty st1 l=qJ P ty st2 l/\∀G,qJ P ty st1 l=some G->∀p∈G,∀c∈p.2,∃v,c= .pv v
 |[],_,_,_=>⟨rfl,λG h p F=>by simp only[qJ,aW] at h;subst h;cases F⟩
 |(i,y)::l,q,V,K=>by
  unfold partsOf at K;split at K
  .rename_i v vs hv R;obtain⟨sv,O,I⟩:=dm.1 hv;cases sv with
   |pv v'=>
    obtain⟨U,h2⟩:=V y ai (ty i) v' O;obtain⟨k1,k2⟩:=Fh (λz hz=>V z (by simp only[bw,aJ];exact .inr hz)) R;refine⟨?_,λG B p F c H=> ?_⟩
    .simp only[qJ];rw[U,h2,k1];simp only[gZ];rw[Z0 (st:=st1) (st':=st2)]
    .unfold qJ at B;split at B
     .rename_i w ws D S;injection B with B;subst B;rcases aJ.1 F with rfl|F
      .rw[U] at D;simp only[gZ] at D;unfold GA at D;split at D
       .injection D with D;subst D;obtain⟨a,_,rfl⟩:=aD.1 H;exact⟨a,rfl⟩
       .obtain⟨_,D⟩:=r6 D;injection D with D;subst D;rw[cv.1 H];exact⟨_,rfl⟩
      .exact k2 _ S p F c H
     .cases B
   |_=>simp[iY] at I
  .cases K
def M4 {Q:SV->Prop} {place:Nat->Option (Nat×Nat)}:∀{l:List (Nat×List SV)} {cells r:List SV},Hw place cells l=some r->(∀c∈cells,Q c)->(∀p∈l,∀c∈p.2,Q c)->∀c∈r,Q c
 |[],cells,r,h,w,_=>by simp_all[Hw]
 |(i,v)::l,cells,r,h,w,z=>by
  unfold Hw at h;split at h
  .cases h
  .split at h
   .refine M4 h (λc q=> ?_) λp B=>z p (dz _ B)
    rcases bu.1 q with q|q
    .rcases bu.1 q with q|q
     .grind
     simp_all
    grind
   grind
def Bt {K:List Nat} {d:Nat}:∀(j:Nat) (F:List TypeId) (G:List Value) (w:List SV) (l:List (Nat×TypeId×Nat)),nW P K d j F G=some (w,l)->∀c∈w,(∃v,c= .pv v)\/∃id∈l.map (·.1),c= .row id
 |j,[],[],w,l,q,c,z=>by simp only[nW,aW,ck] at q;obtain⟨rfl,rfl⟩:=q;cases z
 |j,[],_::_,w,l,q,c,z=>by simp[nW] at q
 |j,_::_,[],w,l,q,c,z=>by simp[nW] at q
 |j,t::F,v::G,w,l,q,c,z=>by
  unfold nW at q;split at q
  .rename_i D I B;split at q
   .obtain⟨_,q⟩:=r6 q;simp only[aW,ck] at q;obtain⟨rfl,rfl⟩:=q;rcases aJ.1 z with rfl|z
    .exact .inr ⟨_,by simp,rfl⟩
    .rcases Bt (j+1) F G D I B c z with h|⟨id,H,h⟩
     .exact .inl h
     .exact .inr ⟨id,by simp only[bw,aJ];exact .inr H,h⟩
   .simp only[cB,ck] at q;obtain⟨a,_,rfl,rfl⟩:=q;rcases aJ.1 z with rfl|z
    .exact .inl ⟨a,rfl⟩
    .exact Bt (j+1) F G D I B c z
  .cases q
def CZ {w q:St}:∀{l:List SV},(∀c∈l,oI w c=oI q c)->wS w l=wS q l
 |[],_=>rfl
 |c::l,h=>by unfold wS aa2;rw[h c (gE ..),CZ λx z=>h x (dz _ z)]
def rows_fx {U:Array Oper} {o:Oper} {s s':St} {d:Nat} {t:TypeId} {z:Array (Nat×Operand)} (ho:o.op= .build t z) (G:o.dst=some d) (R:h.rows.contains d=true) (w:step0 P h cz o s=some s')
  (B:(Bz P h U o s d t z.toList).all=false):∃ev ov m,jU (step0 P h cz o) s (Bz P h U o s d t z.toList) ev ov m:=by
 have he:∀x,step0 P h cz o x=vw P h x d t z.toList:=λx=>by
  have hfn:dQ P h cz o x=none:=by simp only[dQ,eW,ho,G,rM,R,ak]
  unfold step0;rw[hfn];simp only[mI,G,ho,R,ak]
 rw[he] at w;unfold Bz at B⊢;split at B
 .rename_i svs l q hz hq;unfold vw at w;rw[hz] at w;split at w
  .rename_i fs svs' l' hu e1;injection e1 with e1;injection e1 with e1 e2;subst e1;subst e2;obtain⟨hfs,w⟩:=r6 w;split at w
   .rename_i ps I;split at w
    .rename_i cs hcs;injection w with w;obtain⟨sv,D,hca⟩:=dm.1 hcs;obtain⟨vs,_,F⟩:=dm.1 hz;refine⟨s'.env,s'.ob,l.map λx=>(x.1,none),λp hp=> ?_,λj _ hk=>(by cases hk),λx h1 h2 _=> ?_⟩
     .obtain⟨i,hi,rfl⟩:=aD.1 hp;exact aD.2 ⟨i,hi,rfl⟩
     .have ZD:∀y∈z.toList.map (·.2),∀ty,bD P ty x y=bD P ty s y:=λy hy ty=>jq (λu e=>h1 u (by
       subst e
       exact cR _ (fk.2 ⟨.tmp u,by rw[ho];simpa[Op.operands] using hy,rfl⟩))) ty
      have O:=Fh (ty:=ER P t) (st:=s) (st1:=iP h.nest l s) (st2:=iP h.nest l x) (λy hy ty v hv=>⟨Fc hv,Fc ((ZD y hy ty).trans hv)⟩) hq;have K:qJ P (ER P t) (iP h.nest l x) z.toList=some ps:=by rw[<-O.1];exact I
      have H:∀c∈sv,oI (iP h.nest l x) c=oI (iP h.nest l s) c:=λc V=>by
       rcases M4 (Q:=λc=>(∃v,c= .pv v)\/∃id∈l.map (·.1),c= .row id) D (Bt 0 _ _ _ _ F) (λp hp c V=> .inl (O.2 _ I p hp c V)) c V with⟨v,rfl⟩|⟨id,hid,rfl⟩
       .cases v<;>rfl
       .simp only[oI,ur h.nest l x s id (h2 id hid)]
      rw[he];unfold vw;rw[hz];simp only[hu,hfs,ak,K,D,gZ];rw[CZ H,hca];refine aP some (St.same (λu=> ?_) (λj=> ?_))
      .simp only[fR,cv];by_cases e:u=d
       .subst e;rw[<-w];simp[St.set,cZ]
       .rw[au e];simp only[St.set,bR _ _ (λh=>e h.symm),wj]
      .have S:∀(y) (v),(St.set y (some d) v).ob=y.ob:=λy v=>rfl
       simp only[fR,S];by_cases e:j∈l.map (·.1)
       .rw[aB e,ur h.nest l x s j (h2 j e),<-w];rfl
       .rw[au e,Di _ _ _ _ e]
    .cases w
   .cases w
  .cases w
 .cases B
def U2 {H:Array Oper} {o:Oper} {s s':St} (q:step0 P h cz o s=some s') (B:(lM P h H o s).all=false):
  ∃ev ov m,jU (step0 P h cz o) s (lM P h H o s) ev ov m:=by
 by_cases hld:∃t x,o.op= .load t x
 .obtain⟨t,a,ho⟩:=hld;exact take_fx ho q B
 by_cases hpt:∃t a x id sz i off j,o.op= .store t a x/\bD P 0 s a=some (.rp id sz i off)/\bD P t s x=some (.row j)
 .obtain⟨t,a,x,id,sz,i,off,j,ho,ha,hx⟩:=hpt;exact put_fx ho ha hx q B
 by_cases hct:∃t a x id off j sz lo hi,o.op= .store t a x/\bD P 0 s a=some (.ptr id off)/\bD P t s x=some (.sub j sz lo hi)
 .obtain⟨t,a,x,id,off,j,sz,lo,hi,ho,ha,hx⟩:=hct;unfold lM at B;rw[ho] at B;cases G:o.dst with
  |some d=>rw[G] at B;cases B
  |none=>rw[G] at B;simp only[EV,ha,hx] at B;cases B
 have go:∀{l:List (Nat×Option AV)},(∀p∈l,p.1∈(lM P h H o s).mv)->(∀t∈fD H o,t∈(lM P h H o s).rs)->(∀x:St,(∀t∈(lM P h H o s).rs,x.env t=s.env t)->(∀j∈(lM P h H o s).ro,x.ob j=s.ob j)->step0 P h cz o x=some (fR (lM P h H o s) s'.env s'.ob l x))->
   ∃ev ov m,jU (step0 P h cz o) s (lM P h H o s) ev ov m:=λhk _ O=>⟨_,_,_,hk,λj _ hj=>(by rw[kp_E0 hld hpt] at hj;cases hj),λx K U _=>O x K U⟩
 obtain⟨F,D⟩:∃F,lM P h H o s=F:=⟨_,rfl⟩
 rw[D] at B go⊢;unfold lM at D;split at D
 ·
  rename_i t ax ay w hdn;replace D:Cw P H o s ax=F:=by
   rw[<-D];unfold EV;split
   .rename_i K U;exact absurd ⟨_,_,_,_,_,_,_,_,w,K,U⟩ hpt
   .rename_i K U;exact absurd ⟨_,_,_,_,_,_,_,_,_,w,K,U⟩ hct
   .rfl
  unfold Cw at D;split at D
  .rename_i id hx;subst D;obtain⟨sa,hsa,htg⟩:=dm.1 hx;have R:∀x,dQ P h cz o x=none:=λx=>by simp[dQ,w,eW]
   have V:=q;unfold step0 at V;rw[R] at V;simp only[mI,hdn,w,hsa] at V;split at V
   .rename_i K U;injection K with K;subst K;exact absurd ⟨_,_,_,_,_,_,_,_,w,hsa,U⟩ hpt
   .rename_i K U;injection K with K;subst K;exact absurd ⟨_,_,_,_,_,_,_,_,_,w,hsa,U⟩ hct
   .rename_i sa' sv _ hnr e1 hy;injection e1 with e1;subst e1;obtain⟨l1,l2,l3⟩:=MH V htg;refine go (l:=[]) ai (λt ht=>ht) λx K U=> ?_
    have ZD:∀y∈o.op.operands.toList,∀ty,bD P ty x y=bD P ty s y:=λy hy' ty=>jq (λu e=>K u (by
     subst e
     exact cR _ (fk.2 ⟨.tmp u,hy',rfl⟩))) ty
    have k1:=ZD ax (by rw[w];simp[Op.operands]) 0;have k2:=ZD ay (by rw[w];simp[Op.operands]) t;unfold step0;rw[R];have hsel:mI P h cz o x=storeAt P t x sa sv:=by simp only[mI,hdn,w,k1,k2,hsa,hy]
    simp only;rw[hsel,l3 x (U id ai) λj hj=>U j (dz _ (vA (P:=P) (x:=ay) (ty:=t) (by rw[w];simp[Op.operands]) hy hj))];congr 1;refine St.same (λu=> ?_) (λu=> ?_)
    .simp only[fR,lW,eP];exact(iC λ_=>rfl).symm
    .simp only[fR,cv];by_cases e:u=id
     .subst e;simp[cZ]
     .rw[au e,bR _ _ (λh=>e h.symm)];exact(iC BF).symm
   .cases V
  .subst D;cases B
 ·
  rename_i t d w G;cases S:h.rows.contains d with
  |true=>rw[S] at D;subst D;cases B
  |false=>
   rw[S] at D;simp only[az] at D;subst D;have he:∀x,step0 P h cz o x=match N0 P h (some d) t with
    |some z=>some ((x.new d (.box t (z.map .pv))).set (some d) (.ptr d 0))
    |none=>none:=λx=>by
    have R:dQ P h cz o x=none:=by simp[dQ,w,eW]
    unfold step0;rw[R];simp only[mI,G,w,S,az];rfl
   rw[he] at q;split at q
   .rename_i z hz;injection q with q;subst q;refine go (l:=[(d,none)]) ai (λt ht=>ht) λx K U=> ?_
    rw[he,hz];simp only;rw[Gx (f:={ rs:=fD H o,ws:=[d],wo:=[d],mv:=[d] }) (s:=s) rfl rfl]
   .cases q
 ·
  rename_i t len I d w G;cases hby:h.fT.contains d with
  |true=>rw[hby] at D;subst D;cases B
  |false=>
  rw[hby] at D;simp only[az] at D;cases S:h.rows.contains d with
  |false=>rw[S] at D;subst D;cases B
  |true=>
   rw[S] at D;simp only[ak] at D;subst D;have he:∀x,step0 P h cz o x=match lC P t len I.toList x with
    |some (e,s,xs)=>match find h.nest d with
     |none=>some ((x.new d (.row e s xs)).set (some d) (.row d))
     |some (k,e',s')=>bif Nat.blt k s&&xs.all (qI k) then some ((x.new d (.rn e s k e' s' (xs.map λc=>c.set k .hole) (xs.map λ_=>some []))).set (some d) (.row d)) else none
    |none=>none:=λx=>by
    have R:dQ P h cz o x=none:=by simp only[dQ,w,G,rM,S,uI,ak]
    unfold step0;rw[R];simp only[mI,G,w,hby,az];rfl
   have hl:∀x:St,(∀t∈fD H o,x.env t=s.env t)->lC P t len I.toList x=lC P t len I.toList s:=λx K=>by
    unfold lC
    have hp:∀ty,partsOf P ty x I.toList=partsOf P ty s I.toList:=λty=>tv (λy hy t=>jq (λu e=>K u (by
     subst e
     exact cR _ (fk.2 ⟨.tmp u,by rw[w];simpa[Op.operands] using hy,rfl⟩))) t)
    simp only[hp]
   rw[he] at q;obtain⟨ob,hs',O⟩:∃ob:Ob,s'=(s.new d ob).set (some d) (.row d)/\∀x:St,lC P t len I.toList x=lC P t len I.toList s->step0 P h cz o x=some ((x.new d ob).set (some d) (.row d)):=by
    split at q
    .rename_i e sz xs hlit;split at q
     .rename_i hn;injection q with q;exact⟨_,q.symm,λx hx=>by rw[he,hx,hlit];simp only[hn]⟩
     .rename_i k e' s2 hn;obtain⟨hb,q⟩:=r6 q;injection q with q;exact⟨_,q.symm,λx hx=>by rw[he,hx,hlit];simp only[hn,hb,ak]⟩
    .cases q
   subst hs';refine go (l:=[(d,none)]) ai (λt ht=>ht) λx K U=> ?_
   rw[O x (hl x K),Gx (f:={ rs:=fD H o,ws:=[d],wo:=[d],mv:=[d] }) (s:=s) rfl rfl]
 ·
  rename_i t I d w G;cases S:h.rows.contains d with
  |false=>rw[S] at D;subst D;cases B
  |true=>rw[S] at D;simp only[ak] at D;subst D;exact rows_fx w G S q B
 ·
  rename_i t l c d w G;subst D;have R:∀x,dQ P h cz o x=none:=λx=>by simp[dQ,w,eW]
  obtain⟨ob,hs',O⟩:∃ob:Ob,s'=(s.new d ob).set (some d) (.row d)/\∀x:St,(∀y∈o.op.operands.toList,∀ty,bD P ty x y=bD P ty s y)->step0 P h cz o x=some ((x.new d ob).set (some d) (.row d)):=by
   unfold step0 at q;rw[R] at q;simp only[mI,G,w] at q;split at q
   .rename_i e sz k1 nl k2 nc K U h3;split at q
    .rename_i z i hz hi;split at q
     .rename_i hc;injection q with q;refine⟨_,q.symm,λx hx=> ?_⟩;unfold step0;rw[R];simp only[mI,G,w,hx l (by rw[w];simp[Op.operands]) 0,hx c (by rw[w];simp[Op.operands]) 0,K,U,h3,hz,hi];rw[aB hc]
     .cases q
    .cases q
   .cases q
  subst hs';refine go (l:=[(d,none)]) ai (λt ht=>ht) λx K U=> ?_
  rw[O x (λy hy ty=>jq (λu e=>K u (by subst e;exact cR _ (fk.2 ⟨.tmp u,hy,rfl⟩))) ty),Gx (f:={ rs:=fD H o,ws:=[d],wo:=[d],mv:=[d] }) (s:=s) rfl rfl]
 .rename_i c w;split at D
  ·
   rename_i hc;unfold OG at D;split at D
   .rename_i x y t t' d hargs htys G;split at D
    .rename_i id hx;subst D;obtain⟨ob,hs',O⟩:=aaQ w hc hargs htys G hx q;subst hs';refine go (l:=[(id,none)]) ai (λt ht=>ht) λx K U=> ?_
     rw[O x (λt ht=>K t (by simp[fD,ht])) U,Gx (f:={ rs:=fD H o,ws:=[d],ro:=id::Dj s o,wo:=[id],mv:=[id] }) (s:=s) rfl rfl]
    .rename_i id hx;subst D;obtain⟨ob,hs',O⟩:=Y1 w hc hargs htys G hx q;subst hs';refine go (l:=[(id,none)]) ai (λt ht=>ht) λx K U=> ?_
     rw[O x (λt ht=>K t (by simp[fD,ht])) U,Gx (f:={ rs:=fD H o,ws:=[d],ro:=id::Dj s o,wo:=[id],mv:=[id] }) (s:=s) rfl rfl]
    .subst D;cases B
   .subst D;cases B
  ·
   rename_i f hc;cases how2:(o.dst.any h.owns.contains&& !(o.dst.any (λd=>(xb h d).isSome))) with
   |false=>rw[how2] at D;simp only[az] at D;cases hmn:(!(o.dst.any h.owns.contains)&&(!(o.dst.any h.stay.contains)&&wide s c f)) with
    |false=>rw[hmn] at D;simp only[az] at D;cases how3:o.dst.any h.owns.contains with
     |false=>rw[how3] at D;subst D;cases B
     |true=>rw[how3] at D;simp only[ak] at D;subst D;exact gen_fx w hc how3 q B
    |true=>rw[hmn] at D;simp only[ak] at D;rw[<-D] at B⊢;simp only[aS,gW] at hmn;exact many_fx w hc hmn.1 hmn.2.1 hmn.2.2 q B
   |true=>
    rw[how2] at D;simp only[ak] at D;subst D;obtain⟨how,Kk⟩:=pX.1 how2;have he:∀x,step0 P h cz o x=iO P h cz x c f o.dst:=λx=>by
     have R:dQ P h cz o x=none:=by simp only[dQ,w,hc,how,ak]
     unfold step0;rw[R];cases G:o.dst with
     |none=>rw[G] at how;cases how
     |some d=>rw[G] at how;simp only[mI,w,hc,G,how,ak]
    have ZD:∀x:St,(∀t∈fD H o,x.env t=s.env t)->∀y∈o.op.operands.toList,∀ty,bD P ty x y=bD P ty s y:=λx K y hy' ty=>jq (λu e=>K u (by
     subst e
     exact cR _ (fk.2 ⟨.tmp u,hy',rfl⟩))) ty
    rw[he] at q;unfold iO at q;split at q
    .rename_i d G;have hn:(xb h d).isSome=false:=by simpa[G] using Kk
     have hgv:find h.vj d=none:=by cases hg:find h.vj d with
      |none=>rfl
      |some gv=>simp[xb,hg] at hn
     rw[hn,hgv] at q;simp only[] at q;split at q
     .rename_i g caps vs hf hvs;split at q
      rotate_left
      .rename_i cs' hr
       have:xb h d=none:=by simpa using hn
       rw[this] at q;cases q
      .cases q
      rename_i e sz xs hr;injection q with q;subst q;refine go (l:=[(d,none)]) (by simp[G]) (λt ht=>ht) λx K U=> ?_
      have k1:=ZD x K f (by rw[w];simp[Op.operands,Call.operands,hc]) 0;have k2:=BS (P:=P) (b:=false) (st:=x) (st':=s) (xs:=c.args.toList) (ts:=c.argTypes.toList) (λy hy=>ZD x K y (by rw[w];simp only[Op.operands,Call.operands,jd,bu];exact .inr hy));rw[he];unfold iO;rw[G];simp only[hgv,hn,k1,k2,hf,hvs,hr,az];exact aP some (Gx (f:={ rs:=fD H o,ws:=(some d).toList,wo:=(some d).toList,mv:=(some d).toList }) (s:=s) rfl rfl)
     .cases q
    .cases q
  .subst D;cases B
 .rename_i hq _;exact absurd ⟨_,_,hq⟩ hld
 .subst D;cases B
def Sf {ops:Array Oper} {o:Oper}:∀{l:List Nat} {s s':St},(nj l s).bind (step0 P h cz o)=some s'->(M8 P h ops o l s).all=false->∃ev ov m,jU (λx=>(nj l x).bind (step0 P h cz o)) s (M8 P h ops o l s) ev ov m
 |[],s,s',q,w=>by simp only[nj,gZ] at q⊢;simp only[M8] at w⊢;cases z:isF h s o with
  |false=>simp_all[az,U2]
  |true=>rw[z] at w;simp only[ak] at w⊢;cases S:(isW o.op||isWc s o.op) with
   |false=>rw[S] at w;cases w
   |true=>simp only[ak];cases D:dQ P h cz o s with
    |some v=>exact⟨_,_,_,Ud D⟩
    |none=>exfalso;unfold step0 at q;rw[D] at q;simp only at q;cases B:o.op with
     |buildSlice t len R=>
      simp only[isF,B] at z;obtain⟨z,G⟩:o.dst.any h.rows.contains=false/\o.dst.any h.fT.contains=false:=by simpa using z
      simp only[dQ,B,z,G,Bool.or_self,az,Option.map_eq_none_iff] at D;cases H:o.dst with
      |none=>simp[mI,B,H] at q
      |some d=>rw[H] at G;simp only[rM] at G;simp only[mI,B,H,G,az,D] at q;cases q
     |build t R=>
      simp only[isF,B] at z;have z:o.dst.any h.rows.contains=false:=by simpa using z
      cases H:o.dst with
      |none=>simp[mI,B,H] at q
      |some d=>simp_all[mI,az]
     |load t x=>
      simp only[isF,B] at z;have z:o.dst.any h.take.contains=false:=by simpa using z
      cases H:o.dst with
      |none=>simp[mI,B,H] at q
      |some d=>simp_all[mI,az]
     |call c=>simp only[isW,B,kK,isWc] at S;cases hc:c.callee with
      |value f=>
       rw[hc] at S;simp only[gW] at S;have U:∀x∈c.args.toList,lF s x=false:=λx hx=>by grind
       have hag:c.args.toList.any (xF s)=false:=by rw[uG];intro x hx ha;have F:=U x hx;cases x with
        |tmp i=>simp only[xF] at ha;simp only[lF] at F;grind
        |_=>cases ha
       have oC:∀l:List Operand,(∀x∈l,lF s x=false)->mI.iA s l=some s:=by intro l;induction l with
        |nil=>intro _;rfl
        |cons x l ih=>
         intro hl;have F:=hl x ai;have h2:=ih λy hy=>hl y (by simp[hy])
         cases x with
         |tmp i=>simp only[mI.iA];simp only[lF] at F;grind
         |_=>exact h2
       have hpa:mI.jN s c.args.toList=some s:=by unfold mI.jN;rw[hag];exact oC _ U
       simp only[isF,B,hc,aS,gW,gK] at z;obtain⟨how,z⟩:=z
       have he:mI P h cz o s=(bif o.dst.any h.owns.contains then iO P h cz s c f o.dst else bif o.dst.any h.stay.contains&&wide s c f then none else bif wide s c f then j0 P h cz s c f o.dst else bif c.args.toList.any (λx=>(pH h s x).isSome) then qf P h cz s c f o.dst else
        match mI.jN s c.args.toList with
        |some I=>match bD P 0 I f,jS P I c.args.toList c.argTypes.toList with
         |some (.pv (.fn g K)),some vs=>match cz g ((vs++K).map .pv) [] with
          |some (r,[])=>bif c.args.toList.any (lF I)|| !r.jM then none else some (I.set o.dst (.pv r))
          |_=>none
         |_,_=>none
        |none=>none):=by
        cases H:o.dst<;>simp only[mI,B,hc,H]<;>rfl
       rw[he,how] at q;simp only[az] at q;rcases z with z|z
       .simp_all
       .obtain⟨ZG,hrf⟩:=(jX).1 z;rw[ZG,hrf,hpa] at q;simp only at q;simp only[dQ,B,hc] at D;rw[how,ZG,hrf] at D;split at q
        .rename_i g K vs F h2;rw[F,h2] at D;simp only at D;split at q
         .rename_i r hr;rw[hr] at D;simp[S] at D q;cases V:r.jM with
          |true=>rw[V] at D;cases D
          |false=>rw[V] at q;cases q
         simp_all
        simp_all
      |_=>simp_all
     |_=>simp[isW,isWc,B] at S
 |t::l,s,s',q,w=>by simp[nj] at q;cases F:qx s t with
  |none=>simp_all
  |some s1=>
   rw[F] at q;simp[M8,F] at w⊢;have O :=by simp[gA.then,jX] at w;exact w.2
   obtain⟨ev,ov,m,r1⟩:=Z3 F;obtain⟨ev',ov',m',r2⟩:=Sf q O;have e1:=r1.at F;rw[e1] at r2;obtain⟨ev2,ov2,r3⟩:=YJ r1 r2;rw[<-e1] at r3;refine⟨ev2,_,_,r3.1,r3.2.1,λx k1 k2 k3=> ?_⟩;rw[<-r3.2.2 x k1 k2 k3];grind[nj]
theorem Zp {l:Array Oper} {k:Nat} {o:Oper} {s F:St} (U:l[k]? =some o) (V:qp l o s=some true) (B:step P h cz o s=some F) (w:((uC P h l o s).fill s F).all=false):
  ∃G O m,Js (qR P h cz l k) s ((uC P h l o s).fill s F) G O m/\Rk s ((uC P h l o s).fill s F):=by
 have z :=by simp[uC,gA.then,rK] at w;exact w
 obtain⟨G,O,m,r⟩:=Sf B z;have D:jU (step P h _ o) s (uC P h l o s) _ _ m:=r.imp (λt q=>by simp[uC,gA.then,q]) (λt q=>by simp[uC,gA.then,q]) (λt q=>by simp[uC,gA.then,q]) (λt=>by rfl) (λt=>by rfl) (λt q=>by simp[uC,gA.then,q]) (λt q K=>by simp_all[uC,gA.then]);have e:=D.at B;refine OD D.1 (λx H R S=> ?_) λj I K=> ?_
 rotate_left
 .rw[e,skO I];exact D.2.1 j I K
 simp[qR,U];rw[As λt q=>H t (by simp[uC,gA.then,q]),V];simp only;rw[D.2.2 x H R S,e];congr 1;refine St.same (λt=> ?_) (λj=> ?_)
 .simp[fR];simp_all
 .simp[fR];simp_all
def run_of {w:Array Oper}:∀(l:List Oper) (i:Nat) (z:List (Nat×gA)) (B s:St),(∀k o,l[k]? =some o->w[i+k]? =some o)->ku P h cz w i l z B=some s->
  ∃F:List (Nat×gA),F.length=l.length/\(∀j,j∈F.map (·.1)↔i<=j/\j<i+l.length)/\F.Pairwise (λp q=>p.1<q.1)/\N6 (qR P h cz w) F B s/\
   (∀p∈z,∀q∈F,p.2.conflict q.2=true->reach w 12 q.1 p.1=true)/\F.Pairwise (λp q=>p.2.conflict q.2=true->reach w 12 q.1 p.1=true):=by
 intro l;induction l with
 |nil=>intro i z B s _ D;simp only[ku,aW] at D;exact⟨[],rfl,by simp, .nil,D,by simp, .nil⟩
 |cons o l ih=>
  intro i z B s R D;have V:w[i]? =some o:=by simpa using R 0 o ai
  have H:∀(f:gA) (G:St),qR P h cz w i B=some G->(f.all=false->∃ev ov m,Js (qR P h cz w i) B f ev ov m/\Rk B f)->xN w z i f=true->ku P h cz w (i+1) l ((i,f)::z) G=some s->
    ∃F:List (Nat×gA),F.length=(o::l).length/\(∀j,j∈F.map (·.1)↔i<=j/\j<i+(o::l).length)/\F.Pairwise (λp q=>p.1<q.1)/\N6 (qR P h cz w) F B s/\
     (∀p∈z,∀q∈F,p.2.conflict q.2=true->reach w 12 q.1 p.1=true)/\F.Pairwise (λp q=>p.2.conflict q.2=true->reach w 12 q.1 p.1=true):=λf G h1 h2 h3 h4=>by
   obtain⟨F,k0,k1,k2,k3,k4,k5⟩:=ih (i+1) ((i,f)::z) G s (λk o' hk=>by
    have:=R (k+1) o' (by assumption)
    grind) h4
   refine⟨(i,f)::F,by simp[k0],λj=> ?_, .cons (λq O=> ?_) k2,⟨G,h1,h2,k3⟩,λp hp q O K=> ?_, .cons (λq O=>k4 (i,f) ai q O) k5⟩
   .simp only[bw,aJ,k1,bp];omega
   .have:=(k1 q.1).1 (aD.2 ⟨q,O,rfl⟩);omega
   .rcases aJ.1 O with rfl|O
    .have:=cH.1 h3 p hp;simpa[K] using this
    grind
  simp only[ku] at D;split at D
  .cases D
  .rename_i b hw;cases b with
   |false=>simp only[az] at D;cases I:xN w z i ((tN w o).fill B (B.set o.dst .undef)) with
    |false=>simp[I] at D
    |true=>simp only[I,ak] at D;exact H _ _ (by simp only[qR,V,hw]) (λ_=>skip_ok V hw) I D
   |true=>cases hF:(isF h B o&&(Fl h o).isEmpty) with
    |true=>
     have S :=by simp only[aS] at hF;exact yY.1 hF.2
     simp[hF] at D;cases U:dQ P h cz o B with
     |none=>simp[U] at D
     |some v=>simp[U] at D;cases K:xN w z i ((vS P h w o B).fill B (B.set o.dst v)) with
      |false=>simp[K] at D
      |true=>simp[K] at D;exact H _ _ (by simp[qR,V,hw,step,S,nj,gZ,step0,U]) (λ_=>aeo V hw S U) K D
    |false=>cases hs:step P h cz o B with
     |none=>simp_all
     |some G=>cases K:xN w z i ((uC P h w o B).fill B G) with
      |false=>simp_all
      |true=>grind[qR,Zp]
def Zi:∀{l:List Oper} {i:Nat},sW i l=true->∀(p:Nat) (o:Oper),l[p]? =some o->∀e∈o.after.toList,Region.binds .any e=true->e.on<i+p:=by intro l;induction l with
 |nil=>simp
 |cons x l D=>intro i w p o q e z B;simp only[sW,aS] at w;cases p with
  |zero=>simp at q;subst q;have:=cH.1 w.1 e z;simp_all
  |succ p=>grind
def PJ {l:Array Oper} {D:Nat->Prop} (w:∀j o,D j->l[j]? =some o->∀e∈o.after.toList,Region.binds .any e=true->D e.on):
  ∀(n i j:Nat),(∀o,l[i]? =some o->∀e∈o.after.toList,Region.binds .any e=true->D e.on)->reach l n i j=true->D j:=by
 intro n;induction n with
 |zero=>simp_all[reach]
 |succ n B=>intro i j q h;simp[reach] at h;cases z:l[i]? with
  |none=>grind
  |some o=>
   simp[z,gK] at h;rcases h with h|h
   .simp[abj] at h;grind[beq_iff]
   grind
def Rel.dw {N:Nat} {w0:World} {μ0:Mu} {L:sQ} {μ:Mu} {F:Nat->Value} {z:St} {a:Act} {w:World} (H:Rel N w0 μ0 L μ F z a w) (id:Nat):Rel N w0 μ0 L μ F (z.dw id) a w:=by
 have l:∀j o,(z.dw id).ob j=some o->∃G,z.ob j=some G/\o=G.dw id:=λj o q=>by
  simp[St.dw] at q;by_cases e:id=j
  .subst e;simp[cZ] at q
  .simp[bR _ _ e] at q;cases B:z.ob j with
   |none=>simp_all
   |some G=>simp_all
 refine { H with env:=λi sv K=> ?_,obs:=λj o q=> ?_,apart:=λi j oi oj hi hj=> ?_ }
 .simp[St.dw] at K;cases B:z.env i with
  |none=>simp_all
  |some s=>simp[B] at K;subst K;obtain⟨v,hv,hs⟩:=H.env i s B;simp_all[jF]
 .obtain⟨G,D,rfl⟩:=l j o q;have:=H.obs j _ D;cases G with
  |row e sz xs=>exact this
  |mp k e ks I=>exact this
  |mr k e s ks I=>exact this
  |rn e s k e' s' xs ys=>exact this
  |it s n=>exact this
  |lp s=>exact this
  |box t cells=>obtain⟨b,I,B,h2,S,h4,U,V⟩:=this;refine⟨b,I,B,h2,S,h4,?_,V⟩;clear S V D q;induction cells generalizing I with
   |nil=>exact U
   |cons c cs ih=>obtain⟨u,us,rfl,k1,k2⟩:=U;exact⟨u,us,rfl,jF k1,ih _ k2⟩
 .obtain⟨oi',O,_⟩:=l i _ hi;obtain⟨oj',R,_⟩:=l j _ hj;exact H.apart i j _ _ O R
def Rel.sr {N:Nat} {w0:World} {μ0:Mu} {L:sQ} {D:Mu} {q:Nat->Value} {a:Act} {w:World}:∀(l:List Nat) (B:St),Rel N w0 μ0 L D q B a w->Rel N w0 μ0 L D q (AM.sr l B) a w
 |[],_,z=>z
 |p::l,B,z=>Rel.sr l _ (z.dw p)
end
section
variable {P:Program} {N:Nat} {w0:World} {μ0:Mu} {L:sQ} {h:Hint} {cz:eN} {Q:Exit->Act->World->Prop}
def UX (wW:iB L.q μ0 P cz) {z:Array Oper} {st stF:St} (hedges:sW 0 z.toList=true)
  (hrun:ku P h cz z 0 z.toList [] (sr (x8 z.toList) st)=some stF) (hd:∀o∈z.toList,∀i,o.dst=some i->i<N)
  (hQ:∀a' w' μ' O,Rel N w0 μ0 L μ' O stF a' w'->Q .normal a' w') {μ:Mu} {loc:Nat->Value} {a:Act} {w:World} (hR:Rel N w0 μ0 L μ loc st a w) {F:Fence} (hF:Wd F):
  wpAnyIn F 0 P .any z Q z.size (Array.replicate z.size false) a w:=by
 obtain⟨fs0,hl0,hm0,hs0,hr0,_,hp0⟩:=run_of z.toList 0 [] _ _ (λk o hk=>by simp_all) hrun;let D:Array Bool->Nat->Prop:=λl j=>l.getD j false=true
 have main:∀(B:Nat) (l:Array Bool) (a:Act) (w:World) (μ:Mu) (loc:Nat->Value) (fs:List (Nat×gA)) (x:St),l.size=z.size->fs.length<=B->
   (∀j o,D l j->z[j]? =some o->∀e∈o.after.toList,Region.binds .any e=true->D l e.on)->
   (∀j,j∈fs.map (·.1)↔j<z.size/\¬D l j)->fs.Pairwise (λp q=>p.1<q.1)->N6 (qR P h cz z) fs x stF->fs.Pairwise (λp q=>p.2.conflict q.2=true->reach z 12 q.1 p.1=true)->Rel N w0 μ0 L μ loc x a w->
   wpAnyIn F 0 P .any z Q B l a w:=by
  intro B;induction B with
  |zero=>intro l a w μ loc fs x hsz hle hcl G _ I _ R;have Kk:fs=[]:=kW af;subst Kk;have hx:x=stF:=I;subst hx;refine⟨?_,hQ _ _ _ _ R⟩;unfold Region.ready;apply yX.2;grind
  |succ B ih=>
   intro l a w μ loc fs x hsz hle hcl G K I HE R;have hready:∀i,i∈Region.ready .any z l->∃o,z[i]? =some o/\i<z.size/\¬D l i/\∀e∈o.after.toList,Region.binds .any e=true->D l e.on:=by
    intro i hi;unfold Region.ready at hi;simp only[c4,gL,aS,gW] at hi;obtain⟨U,hnl,H⟩:=hi;have ho:z[i]? =some (z[i]'U):=Ba U;refine⟨_,ho,U,?_,?_⟩
    .have hl':i<l.size:=by omega
     have:l[i]=false:=by simpa[Array.getD,hl'] using hnl
     simp[D,Array.getD,hl',this]
    .intro e he hb;simp only[ho,dX,rL] at H;have:=Ed.1 H e (by simpa using he);simpa[hb,D] using this
   have abU:∀i,i<z.size->∀j,D (l.setIfInBounds i true) j↔(D l j\/j=i):=by
    intro i hi j;have hl':i<l.size:=by omega
    by_cases S:j<l.size
    .by_cases e:i=j
     .subst e;simp[D,Array.getD,S]
     .have e':j≠i:=λh=>e h.symm
      simp[D,Array.getD,S,e,e',Array.getElem_setIfInBounds]
    .have e':j≠i:=λh=>by subst h;exact S hl'
     have h1:(l.setIfInBounds i true).getD j false=false:=by simp[Array.getD,S]
     have h2:l.getD j false=false:=by simp[Array.getD,S]
     simp only[D,h1,h2,e',nJ]
   refine⟨λKk=> ?_,λi hi=> ?_⟩
   ·
    cases fs with
    |nil=>have hx:x=stF:=I;subst hx;exact hQ _ _ _ _ R
    |cons p fs=>
     exfalso;have hp:=(G p.1).1 ai;have hlow:∀k,k<p.1->D l k:=λk hk=>eB λhn=>by
      have:=(G k).2 ⟨af,hn⟩;simp only[bw,aJ] at this;rcases this with e|hk'
      .omega
      .obtain⟨q,hq,rfl⟩:=aD.1 hk';have:=(dG.1 K).1 q hq;omega
     have ho:z[p.1]? =some (z[p.1]'hp.1):=Ba hp.1;have hs2:=Zi hedges p.1 (z[p.1]'hp.1) ai;have hl':p.1<l.size:=by omega
     have hmem':p.1∈Region.ready .any z l:=by
      unfold Region.ready;simp only[c4,gL,aS,gW];refine⟨hp.1,?_,?_⟩
      .grind
      .simp only[ho,dX,rL];apply Ed.2;intro e he;cases hb:Region.binds .any e with
       |false=>rfl
       |true=>have:=hlow e.on (by simpa using hs2 e (by simpa using he) hb);simpa[D] using this
     rw[Kk] at hmem';cases hmem'
   .obtain⟨o,ho,U,hnD,H⟩:=hready i hi;obtain⟨p,hpm,hpe⟩:=aD.1 ((G i).2 ⟨U,hnD⟩);obtain⟨pre,post,rfl⟩:=Ee hpm;subst hpe;have hpre:∀q∈pre,q.2.conflict p.2=false:=λq hq=>by
     cases hc:q.2.conflict p.2 with
     |false=>rfl
     |true=>have hr:=(rN.1 HE).2.2 q hq p ai hc;have:=PJ hcl 12 p.1 q.1 (λo' ho'=>by rw[ho] at ho';injection ho' with ho';subst ho';exact H) hr;exact absurd this ((G q.1).1 (by simp only[cn,bu];exact .inl (aD.2 ⟨q,hq,rfl⟩))).2
    obtain⟨s1,V,hruns',_⟩:=N6.front (i:=p.1) (f:=p.2) pre x I hpre;have hnext:∀a' w' μ' O,Rel N w0 μ0 L μ' O s1 a' w'->wpAnyIn F 0 P .any z Q B (l.setIfInBounds p.1 true) a' w':=λa' w' μ' O hR'=>by
     have hnp:∀q∈pre++post,q.1≠p.1:=λq hq e=>by
      rcases bu.1 hq with h1|h1
      .have:=(rN.1 K).2.2 q h1 p (by simp);omega
      .have:=(dG.1 (rN.1 K).2.1).1 q h1;omega
     refine ih _ a' w' μ' O (pre++post) s1 (by simp[hsz]) (by simp at hle⊢;omega) (λj oj S hoj e he hb=> ?_) (λj=> ?_) (K.sublist ai) hruns' (HE.sublist ai) hR'
     .grind
     .rw[abU _ U];have:=G j;simp only[cn,bw,bu,aJ] at this⊢;constructor
      .intro S;obtain⟨k1,k2⟩:=this.1 (S.elim .inl λh=> .inr (.inr h));refine⟨k1,λh=>h.elim k2 λe=> ?_⟩;subst e;rcases S with S|S<;>obtain⟨q,hq,e⟩:=aD.1 S<;>exact hnp q (by simp[hq]) e
      .rintro⟨k1,k2⟩;rcases this.2 ⟨k1,λh=>k2 (.inl h)⟩ with h1|h1|h1
       .exact .inl h1
       .exact absurd (.inr h1) k2
       .exact .inr h1
    have hdo :=hd o (by grind);unfold wpOpIn;simp[ho];simp[qR,ho] at V;split at V
    .rename_i hw;rw[Au R hw];exact Ls R wW hdo V hnext F hF
    .rename_i hw;injection V with V;subst V;rw[Au R hw];exact⟨λf _=>hF.fn f,hnext _ _ _ _ (R.set hdo (rfl))⟩
    simp_all
 have hnone:∀j,¬D (Array.replicate z.size false) j:=λj=>by by_cases S:j<z.size<;>simp[D,Array.getD]
 refine main _ _ a w _ _ _ _ ai (by simp[hl0]) (λj o S=>absurd S (hnone j)) (λj=> ?_) hs0 hr0 hp0 (Rel.sr _ _ hR);simp_all
end
