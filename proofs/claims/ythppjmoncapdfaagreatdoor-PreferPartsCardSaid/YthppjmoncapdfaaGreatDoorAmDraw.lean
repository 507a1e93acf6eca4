/- THE ABSTRACT MACHINE. -/
import Derived.Test.YthppjmoncapdfaaGreatDoorAmRun
set_option linter.all false
namespace Go.AM
open Go.RowKit
section
variable {P:Program} {h:Hint} {bC:cr}
def iE {q l:St} {x:Operand} (w:∀t,x= .tmp t->q.env t=l.env t) (ty:TypeId):aN P ty q x=aN P ty l x:=by cases x with
 |tmp t=>exact w t rfl
 |_=>rfl
def Ed (P:Program) (q l:St) (x:Operand):Prop:=∀ty w,aN P ty q x=some w->∀id∈w.ids,q.ob id=l.ob id
def ri {q l:St} {v:SV} (z:∀id∈v.ids,q.ob id=l.ob id):elems q v=elems l v:=by cases v with
 |sub id s B w=>grind[elems,SV.ids]
 |row id=>grind[elems,SV.ids]
 |pv x=>cases x<;>rfl
 |_=>rfl
def HQ {q l:St} {v:SV} (w:∀id∈v.ids,q.ob id=l.ob id):lenOf q v=lenOf l v:=by cases v with
 |row id=>grind[lenOf,SV.ids]
 |pv x=>cases x<;>rfl
 |_=>rfl
def BX {q l:St} {v:SV} (w:∀id∈v.ids,q.ob id=l.ob id):maps q v=maps l v:=by cases v with
 |row id=>grind[maps,SV.ids]
 |pv x=>cases x<;>rfl
 |_=>rfl
def Kl {z l:St} {v:SV} (B:∀id∈v.ids,z.ob id=l.ob id):jI z v=jI l v:=by cases v with
 |row id=>grind[jI,SV.ids]
 |ag w=>
  have key:∀w:List _,(∀id∈(SV.ag w).ids,z.ob id=l.ob id)->gQ z w=gQ l w:=by intro w;induction w with
   |nil=>intro _;rfl
   |cons c w D=>grind[SV.ids,gQ]
  simp[jI,key _ B]
 |aq id q=>cases q with
  |full=>rfl
  |nr i=>grind[jI,SV.ids]
 |_=>rfl
def Dc {st st':St} {xs:List Operand} {ts:List TypeId} (l:∀x∈xs,Ed P st st' x) (w:∀x∈xs,∀ty,aN P ty st x=aN P ty st' x):gw P st xs ts=gw P st' xs ts:=by induction xs generalizing ts with
 |nil=>rfl
 |cons x xs B=>
  have z:(aN P (ts.headD 0) st x).bind (jI st)=(aN P (ts.headD 0) st' x).bind (jI st'):=by rw[<-w x ah];cases q:aN P _ _ x with
   |none=>rfl
   |some D=>exact Kl (l x ah _ _ q)
  simp_all[gw]
def vl {st st':St} {b:Bool}:∀{xs:List Operand} {ts:List TypeId},(∀x∈xs,∀ty,aN P ty st x=aN P ty st' x)->nG P b st xs ts=nG P b st' xs ts
 |[],_,_=>rfl
 |x::xs,ts,l=>by simp[nG,Fl];rw[l x ah,vl (λy q=>l y (by simp[q]))]
theorem oE {w q:St} {ty:Nat->TypeId} {l:List (Nat×Operand)} (z:∀x∈l.map (·.2),∀t,aN P t w x=aN P t q x):partsOf P ty w l=partsOf P ty q l:=by induction l with
 |nil=>rfl
 |cons p l B=>simp_all[partsOf]
theorem uu {z w:St} {b:Bool} {q:AV} {l:List Operand} (B:∀x∈l,∀t,aN P t z x=aN P t w x):jJ P z b q l=jJ P w b q l:=by induction l generalizing q with
 |nil=>rfl
 |cons x l D=>simp_all[jJ]
def Ib {B l:St} {c:Call} (q:∀x∈c.args.toList,Ed P B l x) (G:∀x∈c.args.toList,∀ty,aN P ty B x=aN P ty l x):sH P c B=sH P c l:=by
 obtain⟨H,⟨args⟩,I⟩:=c;unfold sH;simp at G q⊢;split
 .rename_i x;have z:=G x ah;have w:=q x ah;split
  .rename_i t _;rw[<-z t];cases F:aN P t _ x with
   |none=>simp
   |some K=>have:=HQ (w t _ F);have D:=BX (w t _ F);grind
  .rfl
 .grind[uu]
 .grind[uu]
 .rfl
def wJ {st st':St} {x:Option Operand} (l:∀y,x=some y->∀ty,aN P ty st y=aN P ty st' y):j8 P st x=j8 P st' x:=by cases x with
 |none=>rfl
 |some y=>simp[j8,l y _]
def KI {st st':St} {o:Oper} (z:HX o.op=false->∀x∈o.op.operands.toList,Ed P st st' x) (q:∀x∈o.op.operands.toList,∀ty,aN P ty st x=aN P ty st' x):c8 P o st=c8 P o st':=by obtain⟨V,op,type,pos,after,guard⟩:=o;simp only at q;cases op with
 |move x=>simp_all[Op.operands,c8]
 |assign x=>simp_all[Op.operands,c8]
 |pick c a b=>simp_all[Op.operands,c8]
 |binOp op t x y t'=>simp_all[Op.operands,c8]
 |unOp op t x=>simp_all[Op.operands,c8]
 |convert s d x=>
  have w:=q x (by simp[Op.operands]);have D:=z rfl x (by simp[Op.operands]) s;have W:(aN P s st x).bind (elems st)=(aN P s st' x).bind (elems st'):=by rw[<-w s];cases B:aN P s st x with
   |none=>rfl
   |some G=>exact ri (D _ B)
  simp only[c8,w 0,W]
 |nilCheck x=>simp_all[Op.operands,c8]
 |fieldAddr t x f=>simp_all[Op.operands,c8]
 |field t x f=>simp_all[Op.operands,c8]
 |indexAddr t x i=>
  have w:=q x (by simp[Op.operands]);have O:=q i (by simp[Op.operands]);have D:=z rfl x (by simp[Op.operands]) t;have z1:sk P st t x i=sk P st' t x i:=by unfold sk;rw[<-w t,<-O 0];cases B:aN P t st x with
   |none=>simp
   |some G=>have F:=D _ B;grind[isSlice,id,aN,SV.ids]
  simp_all[w6,c8]
 |index t x i=>simp_all[Op.operands,c8]
 |load t x=>have w:=q x (by simp[Op.operands]);have D:=z rfl x (by simp[Op.operands]) 0;simp only[c8];rw[<-w 0];cases B:aN P 0 st x with
  |none=>rfl
  |some G=>have F:=D _ B;grind[id,SV.ids]
 |lookup t x k ok=>
  have w:=q x (by simp[Op.operands]);have hk:=q k (by simp[Op.operands]);have D:=z rfl x (by simp[Op.operands]) t;have K:(aN P t st x).bind (maps st)=(aN P t st' x).bind (maps st'):=by rw[<-w t];cases B:aN P t st x with
   |none=>rfl
   |some G=>exact BX (D _ B)
  have I:(aN P t st x).bind (z8 st)=(aN P t st' x).bind (z8 st'):=by rw[<-w t];cases B:aN P t st x with
   |none=>rfl
   |some G=>have:=D _ B;cases G with
    |row id=>grind[z8,id,SV.ids]
    |_=>rfl
  simp only[c8,K,hk,I]
 |extract x i=>simp_all[Op.operands,c8]
 |slice t x U S mx=>cases mx with
  |some m=>simp only[c8,Ls];cases U with
   |some l=>rfl
   |none=>cases S with
    |none=>rfl
    |some y=>have w:=q x (by simp[Op.operands]);have O:=q y (by simp[Op.operands]);have K:=q m (by simp[Op.operands]);have D:=z rfl x (by simp[Op.operands]) t;simp only;rw[<-O 0,<-K 0,<-w t];cases B:aN P t st x with
     |none=>rfl
     |some G=>have F:=D _ B;grind[id,SV.ids]
  |none=>have w:=q x (by simp[Op.operands]);have hl:=wJ (P:=P) (st:=st) (st':=st') (x:=U) (λy e=>by simp_all[Op.operands]);have hh:=wJ (P:=P) (st:=st) (st':=st') (x:=S) (λy e=>by simp_all[Op.operands]);have D:=z rfl x (by simp[Op.operands]) t;simp[c8];rw[<-w t];cases B:aN P t _ x with
   |none=>simp
   |some G=>have F:=D _ B;grind[SV.ids]
 |build t R=>grind[oE,Op.operands,c8,tK]
 |call c=>
  have H:∀x∈c.args.toList,x∈(Op.call c).operands.toList:=λx w=>by simp_all[Op.operands,Call.operands]
  have:=Ib (λx w=>z rfl x (H x w)) (λx w=>q x (H x w));assumption
 |_=>simp[c8]
def qt {D:St}:∀{l:List Operand} {x:Operand} {ty:TypeId} {B:SV} {id:Nat},x∈l->aN P ty D x=some B->id∈B.ids->id∈DG D l:=by intro l;induction l with
 |nil=>simp
 |cons y l F=>
  intro x ty B id z w q;rcases aD.1 z with rfl|z
  .cases x with
   |tmp t=>simp_all[aN,DG]
   |const v=>simp[aN] at w;cases G:ofConst P ty v with
    |none=>simp_all
    |some y=>grind[SV.ids]
   |func f=>grind[aN,SV.ids]
   |global g=>simp[aN] at w
  .have:=F z w q;cases y with
   |tmp t=>simp_all[DG]
   |_=>assumption
def rQ (q:St):∀(n:Nat) (l done:List Nat),∀id∈done,id∈iz q n l done
 |0,l,done,id,h=>by assumption
 |n+1,[],done,id,h=>by assumption
 |n+1,x::l,done,id,h=>by simp only[iz];cases done.contains x with
  |true=>exact rQ _ n _ _ _ h
  |false=>exact rQ _ n _ _ _ (by simp[h])
def nv {w q:St}:∀(n:Nat) (l done:List Nat),(∀id∈iz w n l done,w.ob id=q.ob id)->iz w n l done=iz q n l done
 |0,l,done,h=>by rfl
 |n+1,[],done,h=>by rfl
 |n+1,x::l,done,h=>by simp only[iz] at h⊢;cases z:done.contains x with
  |true=>rw[z] at h;exact nv n _ _ h
  |false=>
   rw[z] at h;have D :=h x (rQ _ n _ _ x ah);have B:AS w x=AS q x:=by simp[AS,D]
   rw[<-B];exact nv n _ _ h
def rS {z w:St} {ids:List Nat} {B:Nat->Nat}:∀{l:List (Nat×Nat)},(∀p∈l,z.ob p.1=w.ob p.1)->jl z ids B l=jl w ids B l
 |[],_=>rfl
 |p::l,h=>by obtain⟨id,F⟩:=p;simp[jl];rw[h (id,F) ah,rS (λq D=>h q (by simp[D]))]
def tJ {z l:St}:∀{xs:List Operand} {q:List TypeId},(∀x∈xs,∀ty,aN P ty z x=aN P ty l x)->pz P h z xs q=pz P h l xs q
 |[],q,_=>rfl
 |x::xs,q,w=>by simp[pz,NZ];rw[w x ah,tJ (λy B=>w y (by simp[B]))]
def Ek {st st':St} {c:Call} {f:Operand} (F:aN P 0 st f=aN P 0 st' f) (D:∀x∈c.args.toList,∀ty,aN P ty st x=aN P ty st' x)
  (l:∀g args,pK P h st c f=some (g,args)->∀id∈iN st args,st.ob id=st'.ob id):og P h bC st c f=og P h bC st' c f:=by
 have w:pK P h st c f=pK P h st' c f:=by unfold pK;rw[F,tJ D]
 unfold og;rw[<-w];cases H:pK P h _ c f with
 |none=>rfl
 |some p=>
  obtain⟨g,args⟩:=p;simp only;have q:=l g _ H;have z:iN _ _=iN _ _:=nv _ _ _ q;rw[<-z];have B:jl _ (iN st args) (mP (gy (iN st args))) (gy (iN st args))=jl _ _ _ _:=
   rS (λp G=>q _ (by
    have:p.1∈(gy _).map _:=aA.2 ⟨p,G,rfl⟩
    simp_all[gy,oU]))
  rw[B]
def JP {st st':St} {o:Oper} (F:HX o.op=false->∀id∈wI st o,st.ob id=st'.ob id) (O:∀id∈Ci P h o st,st.ob id=st'.ob id) (D:∀t∈slotsOf o,st.env t=st'.env t):cz P h bC o st=cz P h bC o st':=by
 have H:HX o.op=false->∀x∈o.op.operands.toList,Ed P st st' x:=λhn x B ty sv ho id S=>F hn id (qt B ho S)
 have w:∀x∈o.op.operands.toList,∀ty,aN P ty st x=aN P ty st' x:=λx B ty=>iE (λt e=>D t (by
  subst e
  exact dR.2 ⟨.tmp t,B,rfl⟩)) ty
 have G:=KI (P:=P) (o:=o) H w;obtain⟨R,op,type,pos,after,guard⟩:=o;simp only at w;cases op with
 |buildSlice t len I=>
  have hp:∀ty,partsOf P ty st I.toList=partsOf P ty st' I.toList:=λty=>oE (λx B=>w x (by simpa[Op.operands] using B))
  simp[cz,iB,hp]
 |call c=>obtain⟨W,⟨args⟩,⟨K⟩⟩:=c;cases W with
  |value f=>
   have q:∀x∈args,x∈(Op.call { callee:=Callee.value f,args:=⟨args⟩,argTypes:=⟨K⟩ }).operands.toList:=λx B=>by simp_all[Op.operands,Call.operands,gm,bn]
   have hf:=w f (by simp[Op.operands,Call.operands]);have ha:=Dc (P:=P) (st:=st) (st':=st') (xs:=args) (ts:=K) (λx B=>H rfl x (q x B)) (λx B=>w x (q x B));have hr:args.any (iJ st)=args.any (iJ st'):=by
    have key:∀x∈args,iJ st x=iJ st' x:=λx B=>by cases x with
     |tmp t=>have:=w (.tmp t) (q _ B) 0;simp_all[aN,iJ]
     |_=>rfl
    clear ha q w G D H F O;induction args with
    |nil=>rfl
    |cons x xs V=>simp_all
   have U:args.any (λx=>(kR h st x).isSome)=args.any (λx=>(kR h st' x).isSome):=by
    have key:∀x∈args,kR h st x=kR h st' x:=λx B=>by cases x with
     |tmp t=>have:=w (.tmp t) (q _ B) 0;simp_all[aN,kR]
     |_=>rfl
    clear ha q w G D hr H F O;induction args with
    |nil=>rfl
    |cons x xs V=>simp_all
   have hwide:wide st { callee:=Callee.value f,args:=⟨args⟩,argTypes:=⟨K⟩ } f=wide st' { callee:=Callee.value f,args:=⟨args⟩,argTypes:=⟨K⟩ } f:=by
    have kf:JX st f=JX st' f:=by cases f with
     |tmp t=>simp_all[aN,JX]
     |_=>rfl
    have key:∀x∈args,yu st x=yu st' x:=λx B=>by cases x with
     |tmp t=>have:=w (.tmp t) (q _ B) 0;simp_all[aN,yu]
     |_=>rfl
    have kk:args.any (yu st)=args.any (yu st'):=by clear ha q w G D hr H F U O;induction args with
     |nil=>rfl
     |cons x xs V=>simp_all
    simp only[wide,kf,kk]
   cases how:R.any h.owns.contains with
   |true=>simp[cz,how]
   |false=>
   cases hst:R.any h.stay.contains with
   |false=>simp_all[cz]
   |true=>
    have hc:=Ek (P:=P) (h:=h) (bC:=bC) (st:=st) (st':=st') (c:={ callee:=Callee.value f,args:=⟨args⟩,argTypes:=⟨K⟩ }) (f:=f) (hf 0) (λx B=>w x (q x B)) (λg as hg id S=>O id (by simp_all[Ci,ai]));simp_all[cz]
  |_=>assumption
 |makeFunc f first z=>cases f with
  |func g=>
   have hc:pE st z.toList=pE st' z.toList:=by
    have key:∀x∈z.toList,∀ty,aN P ty st x=aN P ty st' x:=λx B=>w x (by simp_all[Op.operands,gm,bn])
    clear w G D H F;generalize z.toList=l at key;induction l with
    |nil=>rfl
    |cons x xs V=>cases x with
     |tmp t=>simp_all[aN,pE]
     |_=>rfl
   have QS:mA st z.toList=mA st' z.toList:=by
    have key:∀x∈z.toList,∀ty,aN P _ _ x=aN P _ _ x:=λx B=>w x (by simp_all[Op.operands])
    generalize z.toList=l at key;induction l with
    |nil=>rfl
    |cons x xs V=>cases x with
     |tmp t=>simp_all[aN,mA]
     |_=>rfl
   have V6:mA st first.toList=mA st' first.toList:=by
    have key:∀x∈first.toList,∀ty,aN P _ _ x=aN P _ _ x:=λx B=>w x (by simp_all[Op.operands])
    generalize first.toList=l at key
    induction l with
    |nil=>rfl
    |cons x xs V=>cases x with
     |tmp t=>simp_all[aN,mA]
     |_=>rfl
   simp[cz,hc,QS,V6]
  |_=>rfl
 |assign x=>simp[cz,G]
 |lookup t x k ok=>simp[cz,G]
 |build t ps=>grind[oE,Op.operands,cz,tK]
 |load t x=>simp[cz,G]
 |_=>assumption
def uj {z q:St} {l:Array Oper} {o:Oper} (w:∀t∈eU l o,z.env t=q.env t):lP l o z=lP l o q:=by grind[lP,eU]
theorem MZ {a b:List Nat} {x:Nat} (l:x∈a) (q:x∈b):meets a b=true:=by simp[meets];grind[Nat.beq_refl]
def Dn {t:TypeId} {s D:St} {F w:SV} {id:Nat} (l:storeAt P t s F w=some D) (z:targetId F=some id):
  D.env=s.env/\(∀j,j≠id->D.ob j=s.ob j)/\∀x:St,x.ob id=s.ob id->(∀j∈w.ids,x.ob j=s.ob j)->storeAt P t x F w=some { x with ob:=put x.ob id (D.ob id) }:=by
 have H:∀x:St,(∀j∈w.ids,x.ob j=s.ob j)->nC x w=nC s w:=λx B=>by cases w with
  |row j=>simp_all[nC,SV.ids]
  |pv v=>cases v<;>rfl
  |_=>rfl
 cases F with
 |ptr i G=>
  simp[targetId,aB] at z;subst z;simp[storeAt] at l;split at l
  .split at l
   .split at l
    .injection l with l;subst l;refine⟨rfl,λj q=>aM _ _ (λe=>q e.symm),λx B _=> ?_⟩;simp_all[storeAt,br]
    simp_all
   .split at l
    .injection l with l;subst l;refine⟨rfl,λj q=>aM _ _ (λe=>q e.symm),λx B _=> ?_⟩;simp_all[storeAt,br]
    simp_all
   .split at l
    .injection l with l;subst l;refine⟨rfl,λj q=>aM _ _ (λe=>q e.symm),λx B I=> ?_⟩;simp[storeAt,br];simp_all
    simp_all
  simp_all
 |rp i K k G=>
  simp[targetId,aB] at z;subst z;simp[storeAt] at l;split at l
  .split at l
   .split at l
    .injection l with l;subst l;refine⟨rfl,λj q=>aM _ _ (λe=>q e.symm),λx B _=> ?_⟩;simp_all[storeAt,br]
    simp_all
   simp_all
  simp_all
 |_=>simp[targetId] at z
theorem tR {id:Nat} {v:SV} (h:v.mentions id=true):id∈v.ids:=by
 have l:∀w:List _,w.any (l8.mentions id)=true->id∈w.filterMap (fun
  | .p j| .r j=>some j
  | .v _=>none):=λw F=>by
  grind[l8.mentions,beq_iff]
 induction v with
 |two s b B=>exact B h
 |ptr j z=>simp[SV.ids,cD];exact(beq_iff.1 h).symm
 |row j=>simp[SV.ids,cD];exact(beq_iff.1 h).symm
 |rp j D i z=>simp[SV.ids,cD];exact(beq_iff.1 h).symm
 |sub j D H G=>simp[SV.ids,cD];exact(beq_iff.1 h).symm
 |cl f w=>exact l _ h
 |ag w=>exact l _ h
 |aq j q=>simp[SV.mentions] at h;simp[SV.ids];grind[beq_iff]
 |_=>simp[SV.mentions] at h
def St.same {x y:St} (l:∀t,x.env t=y.env t) (q:∀t,x.ob t=y.ob t):x=y:=by obtain⟨B,D⟩:=x;have w :=funext l;have z :=funext q;simp_all
def M1 (p:Nat×Option AV) (v:SV):SV:=match p.2 with
 |none=>v.bX p.1
 |some a=>SV.bY p.1 a v
def iC (l:List (Nat×Option AV)) (v:SV):SV:=l.foldl (λv p=>M1 p v) v
def Ob.u7 (g:SV->SV):Ob->Ob
 | .box t cells=> .box t (cells.map g)
 |o=>o
def dQ (f:ey) (q:Nat->Option SV) (w:Nat->Option Ob) (l:List (Nat×Option AV)) (x:St):St:=
 {env:=λt=>if t∈f.ws then q t else(x.env t).map (iC l),ob:=λj=>if j∈f.wo then w j else(x.ob j).map (Ob.u7 (iC l)) }
def EY (p:Nat×Option AV) (v:SV):∃c:SV,(∀id,c.mentions id=false)/\M1 p v=(bif v.mentions p.1 then c else v)/\((∀j,v≠ .row j)->c= .any):=by obtain⟨id,x⟩:=p;cases x with
 |none=>exact⟨_,λ_=>rfl,rfl,λ_=>rfl⟩
 |some a=>cases v with
  |row j=>exact⟨_,λ_=>rfl,rfl,λh=>absurd rfl (h j)⟩
  |_=>exact⟨_,λ_=>rfl,rfl,λ_=>rfl⟩
def EZ {p:Nat×Option AV} {v:SV} (h:v.mentions p.1=false):M1 p v=v:=by obtain⟨c,_,e,_⟩:=EY p v;simp_all
def RW {p:Nat×Option AV} {v:SV} {j:Nat} (h:(M1 p v).mentions j=true):v.mentions j=true:=by obtain⟨c,l,e,_⟩:=EY p v;grind
theorem P7 {p q:Nat×Option AV} (w:p.1≠q.1) (v:SV):M1 p (M1 q v)=M1 q (M1 p v):=by obtain⟨c,F,e,k⟩:=EY p v;obtain⟨c',l,D,k'⟩:=EY q v;cases B:v.mentions p.1 with
 |false=>cases z:v.mentions q.1 with
  |false=>simp_all
  |true=>simp_all[EZ]
 |true=>rw[e,B,ai,EZ (F _)];cases z:v.mentions q.1 with
  |false=>simp_all
  |true=>
   rw[D,z,ai,EZ (l _)];have H:∀j,v≠ .row j:=λj G=>by subst G;exact w ((beq_iff.1 B).symm.trans (beq_iff.1 z))
   simp_all
def sC:∀{l:List (Nat×Option AV)} {v:SV},(∀p∈l,v.mentions p.1=false)->iC l v=v
 |[],v,_=>rfl
 |p::l,v,h=>by show iC l (M1 p v)=v;rw[EZ (h p ah)];exact sC λq w=>h q (by simp[w])
theorem zm:∀{l:List (Nat×Option AV)} {v:SV} {j:Nat},(iC l v).mentions j=true->v.mentions j=true
 |[],v,j,h=>h
 |p::l,v,j,h=>RW (zm h)
def M0 {l:List (Nat×Option AV)} {p:Nat×Option AV}:∀{v:SV},(∀q∈l,p.1≠q.1)->iC l (M1 p v)=M1 p (iC l v):=by induction l with
 |nil=>intro v _;rfl
 |cons q l w=>intro v h;show iC l _=M1 p (iC l _);grind[P7]
theorem xe:∀{l m:List (Nat×Option AV)} (v:SV),(∀p∈l,∀q∈m,p.1≠q.1)->iC l (iC m v)=iC m (iC l v)
 |[],m,v,_=>rfl
 |p::l,m,v,h=>by show iC l (M1 p _)=iC m (iC l _);rw[<-M0 (h p ah),xe _ λr w=>h r (by simp[w])]
def RV {g:SV->SV} {o:Ob} (h:∀v,(∀id,v.mentions id=true->o.mentions id=true)->g v=v):o.u7 g=o:=by cases o with
 |box t cells=>simp[Ob.u7];congr 1;refine(fQ λc l=>h c λid q=> ?_).trans (j0 _);grind[Ob.mentions]
 |_=>rfl
def qH {l:List (Nat×Option AV)} {o:Ob} (h:∀p∈l,o.mentions p.1=false):o.u7 (iC l)=o:=
 RV λv w=>sC λp q=>by grind
def PV {l:List (Nat×Option AV)} {o:Ob} {j:Nat} (h:(o.u7 (iC l)).mentions j=true):o.mentions j=true:=by cases o with
 |box t cells=>grind[Ob.u7,Ob.mentions,zm]
 |_=>exact h
theorem MY {l m:List (Nat×Option AV)} (o:Ob) (h:∀p∈l,∀q∈m,p.1≠q.1):(o.u7 (iC m)).u7 (iC l)=(o.u7 (iC l)).u7 (iC m):=by cases o with
 |box t cells=>simp[Ob.u7,dw];grind[List.map_congr_left,xe]
 |_=>rfl
def yz (o:Ob):o.u7 (iC [])=o:=qH λp l=>by cases l
structure Bc (sf:St->Option St) (s:St) (f:ey) (ev:Nat->Option SV) (ov:Nat->Option Ob) (l:List (Nat×Option AV)):Prop where
 keys:∀p∈l,p.1∈f.mv
 run:∀x:St,(∀t∈f.rs,x.env t=s.env t)->(∀j∈f.ro,x.ob j=s.ob j)->(∀j∈f.rl,(x.ob j).map Ob.pe=(s.ob j).map Ob.pe)->sf x=some (dQ f ev ov l x)
 len:∀j∈f.wo,f.kp j=true->(ov j).map Ob.pe=(s.ob j).map Ob.pe
 P8:∀t∈f.ws,∀v id,ev t=some v->v.mentions id=true->id∈f.Ta
 P9:∀j∈f.wo,∀o id,ov j=some o->o.mentions id=true->id∈f.Ta
 mvm:∀id∈f.mv,id∈f.Ta
structure Gv (s:St) (f:ey):Prop where
 inE:∀t∈f.rs,∀v id,s.env t=some v->v.mentions id=true->id∈f.Ta
 inO:∀j∈f.ro,∀o id,s.ob j=some o->o.mentions id=true->id∈f.Ta
 we:∀t v id,s.env t=some v->id∈f.mv->v.mentions id=true->f.we t=true
 oe:∀j o id,s.ob j=some o->id∈f.mv->o.mentions id=true->f.oe j=true
def fV {a b:List Nat} {x y:Nat} (h:meets a b=false) (l:x∈a) (q:y∈b):x≠y:=λe=>by grind[MZ]
def D1 (g:SV->SV) (o:Ob):(o.u7 g).pe=o.pe:=by cases o<;>rfl
def Vr {f:ey} {q:Nat->Option SV} {w:Nat->Option Ob} {l:List (Nat×Option AV)} {x:St} {j:Nat} (h:¬j∈f.wo):((dQ f q w l x).ob j).map Ob.pe=(x.ob j).map Ob.pe:=by simp[dQ,az h];cases x.ob j with
 |none=>rfl
 |some o=>simp[D1]
def Vs {f:ey} {w:Nat->Option SV} {q:Nat->Option Ob} {l:List (Nat×Option AV)} {x:St} {j:Nat} (h:j∈f.wo):(dQ f w q l x).ob j=q j:=by simp[dQ,ak h]
def WN {r w:List Nat} {k:Nat->Bool} {j:Nat} (h:(r.any λj=>w.contains j&& !(k j))=false) (l:j∈r) (q:j∈w):k j=true:=by simp_all
def UY {sp si:St->Option St} {s:St} {B G:ey} {U R:Nat->Option SV} {op S:Nat->Option Ob} {W li:List (Nat×Option AV)} (K:Bc sp s B U op W) (H:Gv s B) (I:Bc si (dQ B U op W s) G R S li) (hc:B.conflict G=false):
  Bc si s G R S li/\Bc sp (dQ G R S li s) B U op W/\Gv (dQ G R S li s) B/\dQ B U op W (dQ G R S li s)=dQ G R S li (dQ B U op W s):=by
 unfold ey.conflict at hc;simp only[jR] at hc;obtain⟨⟨⟨⟨⟨⟨⟨⟨⟨⟨⟨⟨⟨_,_⟩,d1⟩,d2⟩,d3⟩,d4⟩,d5⟩,d6⟩,d7⟩,d8⟩,d9⟩,d10⟩,d11⟩,d12⟩:=hc;have w9:∀t∈G.rs,B.we t=false:=λt l=>by simp_all
 have w10:∀t∈G.ro,B.oe t=false:=λt l=>by simp_all
 have aE:∀t∈G.rs,(dQ B U op W s).env t=s.env t:=λt l=>by simp only[dQ];rw[az λh=>fV d1 h l rfl];cases e:s.env t with
  |none=>rfl
  |some v=>simp only[bW];rw[sC λp F=> ?_];cases w:v.mentions p.1 with
   |false=>rfl
   |true=>have:=H.we t v p.1 e (K.keys p F) w;simp_all
 have aO:∀t∈G.ro,(dQ B U op W s).ob t=s.ob t:=λt l=>by simp only[dQ];rw[az λh=>fV d4 h l rfl];cases e:s.ob t with
  |none=>rfl
  |some v=>simp only[bW];rw[qH λp F=> ?_];cases w:v.mentions p.1 with
   |false=>rfl
   |true=>have:=H.oe t v p.1 e (K.keys p F) w;simp_all
 have bE:∀t∈B.rs,(dQ G R S li s).env t=s.env t:=λt l=>by simp only[dQ];rw[az λh=>fV d2 l h rfl];cases e:s.env t with
  |none=>rfl
  |some v=>simp only[bW];rw[sC λp F=> ?_];cases w:v.mentions p.1 with
   |false=>rfl
   |true=>exact absurd rfl (fV d8 (I.keys p F) (H.inE t l v p.1 e w))
 have bO:∀t∈B.ro,(dQ G R S li s).ob t=s.ob t:=λt l=>by simp only[dQ];rw[az λh=>fV d5 l h rfl];cases e:s.ob t with
  |none=>rfl
  |some v=>simp only[bW];rw[qH λp F=> ?_];cases w:v.mentions p.1 with
   |false=>rfl
   |true=>exact absurd rfl (fV d8 (I.keys p F) (H.inO t l v p.1 e w))
 have nO:∀t∈B.wo,¬t∈G.wo:=λt D z=>fV d6 D z rfl
 have aL:∀t∈G.rl,((dQ _ U op W s).ob t).map _=(s.ob t).map _:=λt l=>by
  by_cases h:t∈B.wo
  .rw[Vs h];exact K.len t h (WN d11 l h)
  .exact Vr h
 have bK :=λt l hk=>(I.len t l hk).trans (Vr λh=>nO t h l)
 have bL:∀t∈B.rl,((dQ _ R S li s).ob t).map Ob.pe=(s.ob t).map Ob.pe:=λt l=>by
  by_cases h:t∈G.wo
  .rw[Vs h];simp_all
  .exact Vr h
 have hk :=λp F q V=>fV d7 (K.keys p F) (I.mvm _ (I.keys q V))
 refine⟨⟨I.keys,λx D z h3=>I.run x (λt l=>(D t l).trans (aE t l).symm) (λt l=>(z t l).trans (aO t l).symm) (λt l=>(h3 t l).trans (aL t l).symm),bK,I.P8,I.P9,I.mvm⟩,
  ⟨K.keys,λx D z h3=>K.run x (λt l=>(D t l).trans (bE t l)) (λt l=>(z t l).trans (bO t l)) (λt l=>(h3 t l).trans (bL t l)),λt l hk=>(K.len t l hk).trans (Vr (nO t l)).symm,K.P8,K.P9,K.mvm⟩,
  ⟨λt l v id e w=>H.inE t l v _ ((bE t l).symm.trans e) w,λt l v id e w=>H.inO t l v _ ((bO t l).symm.trans e) w,λt v id e O w=> ?_,λt v id e O w=> ?_⟩,?_⟩
 .simp[dQ] at e;split at e
  .rename_i l;exact absurd rfl (fV d7 O (I.P8 t l v _ e w))
  .cases e0:s.env t with
   |none=>simp_all
   |some v0=>rw[e0] at e;simp at e;subst e;exact H.we t _ _ e0 O (zm w)
 .simp[dQ] at e;split at e
  .rename_i l;exact absurd rfl (fV d7 O (I.P9 t l v _ e w))
  .cases e0:s.ob t with
   |none=>simp_all
   |some v0=>rw[e0] at e;simp at e;subst e;exact H.oe t _ _ e0 O (PV w)
 .simp[dQ,St.mk.injEq];constructor
  .funext t;by_cases D:t∈B.ws
   .rw[ak D,az λz=>fV d3 D z rfl];rw[ak D];cases e:U t with
    |none=>rfl
    |some v=>simp;rw[sC λq V=> ?_];cases w:v.mentions _ with
     |false=>rfl
     |true=>exact absurd rfl (fV d8 (I.keys q V) (K.P8 t D v _ e w))
   .rw[az D];by_cases z:t∈G.ws
    .rw[ak z,ak z];cases e:R t with
     |none=>rfl
     |some v=>simp;rw[sC λq V=> ?_];cases w:v.mentions _ with
      |false=>rfl
      |true=>exact absurd rfl (fV d7 (K.keys q V) (I.P8 t z v _ e w))
    .rw[az z,az z,az D];cases s.env t with
     |none=>rfl
     |some v=>grind[xe]
  .funext t;by_cases D:t∈B.wo
   .rw[ak D,az λz=>fV d6 D z rfl];rw[ak D];cases e:op t with
    |none=>rfl
    |some v=>simp;rw[qH λq V=> ?_];cases w:v.mentions _ with
     |false=>rfl
     |true=>exact absurd rfl (fV d8 (I.keys q V) (K.P9 t D v _ e w))
   .rw[az D];by_cases z:t∈G.wo
    .rw[ak z,ak z];cases e:S t with
     |none=>rfl
     |some v=>simp;rw[qH λq V=> ?_];cases w:v.mentions _ with
      |false=>rfl
      |true=>exact absurd rfl (fV d7 (K.keys q V) (I.P9 t z v _ e w))
    .rw[az z,az z,az D];cases s.ob t with
     |none=>rfl
     |some v=>grind[MY]
def Ec (w:Nat->St->Option St):List (Nat×ey)->St->St->Prop
 |[],s,q=>s=q
 |p::l,s,q=>∃z,w p.1 s=some z/\(p.2.all=false->∃B D m,Bc (w p.1) s p.2 B D m/\Gv s p.2)/\Ec w l z q
def Oi {a b:ey} (h:a.conflict b=false):a.all=false/\b.all=false:=by simp_all[ey.conflict]
def Ec.front {w:Nat->St->Option St} {i:Nat} {f:ey} {post:List (Nat×ey)} {U:St}:∀(pre:List (Nat×ey)) (s:St),Ec w (pre++(i,f)::post) s U->(∀p∈pre,p.2.conflict f=false)->
  ∃s1,w i s=some s1/\Ec w (pre++post) s1 U/\(f.all=false->∃ev ov m,Bc (w i) s f ev ov m)
 |[],s,⟨S,z,F,B⟩,_=>⟨S,z,B,λG=>by simp_all⟩
 |p::pre,s,⟨S,z,F,B⟩,H=>by
  have l:=H p ah;obtain⟨G,hb⟩:=Oi l;obtain⟨ep,op,lp,K,D⟩:=F G;obtain⟨s1,k1,k2,k3⟩:=Ec.front _ _ B λq hq=>H q (by simp[hq])
  obtain⟨ei,oi,li,I⟩:=k3 hb;have V :=by have:=K.run s (λ_ _=>rfl) (λ_ _=>rfl) (λ_ _=>rfl);rw[z] at this;injection this
  subst V;obtain⟨O,R,r3,r4⟩:=UY K D I l;have W :=by have:=I.run _ (λ_ _=>rfl) (λ_ _=>rfl) (λ_ _=>rfl);rw[k1] at this;injection this
  refine⟨_,O.run s (λ_ _=>rfl) (λ_ _=>rfl) (λ_ _=>rfl),⟨s1,?_,λ_=>⟨ep,op,lp,R,r3⟩,k2⟩,λ_=>⟨ei,oi,li,O⟩⟩;rw[R.run _ (λ_ _=>rfl) (λ_ _=>rfl) (λ_ _=>rfl),r4,W]
def mD (P:Program) (h:Hint) (bC:cr) (l:Array Oper) (k:Nat) (q:St):Option St:=
 match l[k]? with
 |some o=>match lP l o q with
  |some true=>step P h bC o q
  |some false=>some (q.set o.dst .undef)
  |none=>none
 |none=>none
def Rg {id:Nat} {cells:List SV} (h:cells.any (SV.mentions id)=true):id∈cells.flatMap SV.ids:=by grind[tR]
theorem Qi {id:Nat} {o:Ob} (h:o.mentions id=true):id∈o.ids:=by cases o with
 |box t cells=>exact Rg h
 |_=>cases h
def EC {G:St->Option St} {s D:St} {f:ey} {l:List (Nat×Option AV)} (K:∀p∈l,p.1∈f.mv) (B:∀x:St,(∀t∈f.rs,x.env t=s.env t)->(∀j∈f.ro,x.ob j=s.ob j)->(∀j∈f.rl,(x.ob j).map Ob.pe=(s.ob j).map Ob.pe)->G x=some (dQ f D.env D.ob l x))
  (w:∀j∈f.wo,f.kp j=true->(D.ob j).map Ob.pe=(s.ob j).map Ob.pe):
  ∃H O m,Bc G s (f.fill s D) H O m/\Gv s (f.fill s D):=by
 have mem:∀{id:Nat} {g:Nat->List _} {l:List _} {t:Nat},t∈l->id∈g t->id∈l.flatMap g:=λF h=>List.mem_flatMap.2 ⟨_,F,h⟩
 refine⟨_,_,l,⟨K,B,w,λt F v id e z=> ?_,λj I o id e z=> ?_,λid q=> ?_⟩,⟨λt F v id e z=> ?_,λj I o id e z=> ?_,λt v id e q z=> ?_,λj o id e q z=> ?_⟩⟩
 .grind[ey.fill,Ey,tR]
 .grind[ey.fill,LW,Qi]
 .simp_all[ey.fill]
 .grind[ey.fill,Ey,tR]
 .grind[ey.fill,LW,Qi]
 .grind[ey.fill]
 grind[ey.fill]
def gx {l:Type} {x:Option l} {g:l->l} (h:∀v,g v=v):x.map g=x:=by cases x<;>simp[h]
def Qx {f:ey} {s x:St} {d:Option Nat} {v:SV} (l:f.ws=d.toList) (q:f.wo=[]):x.set d v=dQ f (s.set d v).env (s.set d v).ob [] x:=by
 refine St.same (λt=> ?_) (λj=> ?_)
 .simp only[dQ,l];cases d with
  |none=>exact(gx λ_=>rfl).symm
  |some d=>
   by_cases e:d=t
   .simp_all[St.set,br]
   .have:¬t∈(some d).toList:=by simp;exact λh=>e h.symm
    rw[az this];simp[St.set,aM _ _ e];exact(gx λ_=>rfl).symm
 .simp[dQ,q];rw[gx yz];cases d<;>rfl
def B1 {f:ey} {s x:St} {d id:Nat} {o:Ob} {v:SV} (l:f.ws=[d]) (q:f.wo=[id]):(x.new id o).set (some d) v=dQ f ((s.new id o).set (some d) v).env ((s.new id o).set (some d) v).ob [(id,none)] x:=by
 refine St.same (λt=> ?_) (λj=> ?_)
 .simp[dQ,l,cD];by_cases e:t=d
  .simp_all[St.set,br]
  .rw[az e];simp[St.set,aM _ _ (λh=>e h.symm)];rfl
 .simp[dQ,q,cD];by_cases e:j=id
  .simp_all[St.set,St.new,br]
  .rw[az e];simp[St.set,St.new,St.bX,aM _ _ (λh=>e h.symm)];rfl
def Sc {l:Array Oper} {k:Nat} {o:Oper} {s:St} (B:l[k]? =some o) (D:lP l o s=some false):
  ∃q F m,Bc (mD P h bC l k) s ((oR l o).fill s (s.set o.dst .undef)) q F m/\Gv s ((oR l o).fill s (s.set o.dst .undef)):=
 EC (l:=[]) ah (λx w _ _=>by
  simp[mD,B];rw[uj w,D]
  rw[Qx (f:=oR _ o) rfl rfl]) λj z _=>by cases z
def iw (z:St->Option St) (s:St) (f:ey) (w:Nat->Option SV) (q:Nat->Option Ob) (l:List (Nat×Option AV)):Prop:=
 (∀p∈l,p.1∈f.mv)/\(∀j∈f.wo,f.kp j=true->(q j).map Ob.pe=(s.ob j).map Ob.pe)/\
  ∀x:St,(∀t∈f.rs,x.env t=s.env t)->(∀j∈f.ro,x.ob j=s.ob j)->(∀j∈f.rl,(x.ob j).map Ob.pe=(s.ob j).map Ob.pe)->z x=some (dQ f w q l x)
def iw.imp {H:St->Option St} {s:St} {f q:ey} {D:Nat->Option SV} {G:Nat->Option Ob} {l:List (Nat×Option AV)} (B:iw H s f D G l) (I:∀t∈f.rs,t∈q.rs) (K:∀t∈f.ro,t∈q.ro) (O:∀t∈f.mv,t∈q.mv) (R:∀t,t∈f.ws↔t∈q.ws) (z:∀t,t∈f.wo↔t∈q.wo) (S:∀t∈f.rl,t∈q.rl) (U:∀t∈f.wo,q.kp t=true->f.kp t=true):iw H s q D G l:=
 ⟨λp W=>O _ (B.1 p W),λj F V=>B.2.1 j ((z j).2 F) (U j ((z j).2 F) V),λx k1 k2 k3=>by
  rw[B.2.2 x (λt w=>k1 t (I t w)) (λt w=>k2 t (K t w)) (λt w=>k3 t (S t w))]
  simp[dQ,R,z]⟩
def iw.at {B:St->Option St} {s z:St} {f:ey} {q:Nat->Option SV} {w:Nat->Option Ob} {l:List (Nat×Option AV)} (D:iw B s f q w l) (h:B s=some z):z=dQ f q w l s:=by have:=D.2.2 s (λ_ _=>rfl) (λ_ _=>rfl) (λ_ _=>rfl);simp_all
def L7 {s1 s2:St->Option St} {s:St} {f1 f2:ey} {q F:Nat->Option SV} {l G:Nat->Option Ob} {z B:List (Nat×Option AV)} (I:iw s1 s f1 q l z) (K:iw s2 (dQ f1 q l z s) f2 F G B):
  ∃U ov,iw (λx=>(s1 x).bind s2) s (f1.then f2) U ov (z++B):=by
 refine⟨λt=>if t∈f2.ws then F t else(q t).map (iC B),λj=>if j∈f2.wo then G j else(l j).map (Ob.u7 (iC B)),λp V=> ?_,λj O H=> ?_,λx W k2 k3=> ?_⟩
 .simp[ey.then,bn];exact(bn.1 V).imp (I.1 p) (K.1 p)
 .simp[ey.then,aF,ew,ga,List.contains_eq_mem,bM] at H;simp[ey.then,bn] at O;have D:((dQ f1 q l z s).ob j).map Ob.pe=(s.ob j).map Ob.pe:=by
   by_cases a:j∈f1.wo
   .rw[Vs a];exact I.2.1 j a (H.1.resolve_right λh=>h a)
   .exact Vr a
  by_cases a:j∈f2.wo
  .simp[ak a];exact(K.2.1 j a (H.2.resolve_right λh=>h a)).trans D
  .simp[az a];have b :=O.resolve_left a;rw[<-I.2.1 j b (H.1.resolve_right λh=>h b)];cases l j with
   |none=>rfl
   |some o=>simp[D1]
 .have R:=I.2.2 x (λt w=>W t (by simp[ey.then,w])) (λt w=>k2 t (by simp[ey.then,w])) (λt w=>k3 t (by simp[ey.then,w]))
  have S:=K.2.2 (dQ f1 q l z x) (λt w=>by simp_all[dQ,ey.then]) (λt w=>by simp_all[dQ,ey.then]) (λt w=>by
   by_cases a:t∈f1.wo
   .rw[Vs a,Vs a]
   simp_all[Vr,ey.then])
  simp[R,dU,S,aB];have mm:∀v,iC B (iC z v)=iC (z++B) v:=λv=>by simp[iC]
  refine St.same (λt=> ?_) (λj=> ?_)
  .simp[dQ,ey.then];by_cases a:t∈f2.ws
   .simp_all
   .by_cases b:t∈f1.ws
    .simp_all
    .simp[a,b];cases x.env t with
     |none=>rfl
     |some v=>simp_all
  .simp[dQ,ey.then];by_cases a:j∈f2.wo
   .simp_all
   .by_cases b:j∈f1.wo
    .simp_all
    .simp[a,b];cases x.ob j with
     |none=>rfl
     |some o=>cases o with
      |box t cells=>simp_all[Ob.u7]
      |_=>rfl
def iw.nil (s:St) (f:ey) (l:f.ws=[]) (q:f.wo=[]):iw some s f (λ_=>none) (λ_=>none) []:=
 ⟨ah,λj w=>(by simp_all),λx _ _ _=>by
  congr 1;refine St.same (λt=> ?_) (λj=> ?_)
  .simp[dQ,l];exact(gx λ_=>rfl).symm
  simp_all[dQ,gx,yz]⟩
def Cc {s H:St} {id:Nat} (q:s.bY id=some H):∃w G l,iw (λx=>x.bY id) s { ro:=[id],wo:=[id],mv:=[id] } w G l:=by
 unfold St.bY at q;split at q
 .rename_i v D F;refine⟨λ_=>none,λ_=>none,[(id,some v)],by simp,λj _ B=>(by cases B),λx _ z _=> ?_⟩;have e:x.ob id=s.ob _:=z _ ah;unfold St.bY;simp[e,D,F,aB];refine St.same (λt=> ?_) (λj=> ?_)
  .rfl
  .simp[dQ,cD];by_cases a:j=id
   .subst a;simp[br]
   .rw[az a,aM _ _ (λh=>a h.symm)];rfl
 simp_all
def vk:∀{cells:List SV} {s H:St},kQ cells s=some H->∃q z l,iw (kQ cells) s { ro:=qS cells,wo:=qS cells,mv:=qS cells } q z l
 |[],s,H,_=>⟨_,_,_,iw.nil s _ rfl rfl⟩
 |c::cells,s,H,G=>by
  have other:(∀id,c≠ .row id)->(∀x,kQ (c::cells) x=kQ cells x)/\qS (c::cells)=qS _:=λD=>by cases c<;>first|exact absurd rfl (D _)|exact⟨λ_=>rfl,rfl⟩
  by_cases K:∃id,c= .row id
  .obtain⟨id,rfl⟩:=K;obtain⟨s1,w,B⟩:=bZ.1 G;obtain⟨q,z,l,O⟩:=Cc w;obtain⟨U,ov',l',R⟩:=vk B;rw[O.at w] at R;obtain⟨V,ov2,r3⟩:=L7 O R;exact⟨_,_,_,r3.imp (λt F=>by assumption) (λt F=>by assumption) (λt F=>by assumption) (λt=>by rfl) (λt=>by simp[ey.then,qS,or_comm]) (λt F=>by assumption) (λt _ hk=>by cases hk)⟩
  .obtain⟨I,S⟩:=other λid h=>K ⟨id,h⟩
   rw[I] at G;obtain⟨q,z,l,r⟩:=vk G;refine⟨q,z,l,?_⟩;rw[S];exact⟨r.1,r.2.1,λx w B W=>by rw[I];exact r.2.2 x w B W⟩
def M8 {s S:St} {t:Nat} (B:qL s t=some S):∃z D l,iw (λx=>qL x t) s (Fh s t) z D l:=by
 unfold qL at B;unfold Fh;split at B
 .rename_i id G;obtain⟨z,D,l,r⟩:=Cc B;refine⟨z,D,l,r.1,r.2.1,λx q w F=> ?_⟩;have e :=q t ah;simp[qL,e,G];exact r.2.2 x ah w ah
 .rename_i id R G;split at B
  .rename_i U cells I;obtain⟨z,D,l,r⟩:=vk B;refine⟨z,D,l,r.1,r.2.1,λx q w F=> ?_⟩;have e :=q t ah;have K:x.ob id=s.ob _:=w _ ah;simp[qL,e,G,K,I];exact r.2.2 x ah (λj H=>w j (by simp[H])) ah
  simp_all
 .refine⟨λ_=>none,λ_=>none,[],?_⟩;have O:∀x:St,x.env t=s.env t->qL x t=some x:=λx e=>by
   simp_all[qL]
  refine⟨ah,λj H=>(by simp at H),λx q w F=> ?_⟩;simp only;rw[O x (q t ah)];exact(iw.nil s _ rfl rfl).2.2 x q w F
theorem HF {w l:St} {t:TypeId} {x z:Operand} (V:∀ty,aN P ty w x=aN P ty l x) (S:∀ty,aN P ty w z=aN P ty l z) (B:∀ty H,aN P ty w x=some H->∀id∈H.ids,(w.ob id).map Ob.pe=(l.ob id).map Ob.pe):sk P w t x z=sk P l t x z:=by
 unfold sk;rw[<-V,<-S];split<;>try rfl
 .rename_i e s id q i hs U hq;have k:=B t _ U id (by simp[SV.ids]);cases I:w.ob _ with
  |none=>grind
  |some W=>rw[I] at k;cases K:l.ob _ with
   |none=>simp_all
   |some F=>rw[K] at k;simp at k;cases W with
    |row O sz xs=>cases F with
     |row R G ys=>
      simp[Ob.pe,Ob.row.injEq] at k;obtain⟨_,rfl,D⟩:=k;have :=by simpa using aC List.length D
      simp_all
     |_=>cases k
    |rn O sz q1 q2 q3 xs zs=>cases F with
     |rn R G q4 q5 q6 ys zs2=>
      simp only[Ob.pe,Ob.rn.injEq] at k;obtain⟨_,rfl,_,_,_,D,_⟩:=k;have :=by simpa using aC List.length D
      simp_all
     |_=>cases k
    |_=>cases F<;>first|rfl|cases k
theorem EO {w l:St} {n:Nat} {e:TypeId} {x q:Operand} (B:∀ty,aN P ty w x=aN P ty l x) (z:∀ty,aN P ty w q=aN P ty l q):w6 P w n e x q=w6 P l n e x q:=by unfold w6;simp_all
def IV {z:Array Oper} {o:Oper} {s:St} {v:SV} (S:cz P h bC o s=some v):iw (step0 P h bC o) s (qE P h z o s) (s.set o.dst v).env (s.set o.dst v).ob []:=
 ⟨ah,λj K=>(by cases K),λx G H I=>by
  have fin:cz P h _ o s=cz P h bC o x->step0 P h bC o x=some (dQ (qE P h z o s) (s.set _ v).env _ _ x):=λthis=>by rw[S] at this;simp[step0,<-this];rw[Qx (f:=qE P h _ o s) rfl rfl]
  cases B:O2 o.op with
  |true=>cases q:o.op with
   |indexAddr t a V=>
    have w:∀y∈o.op.operands.toList,∀ty,aN P ty s y=aN P _ x y:=λy U ty=>iE (λu e=>(G u (by
     subst e
     exact eS _ (dR.2 ⟨_,U,rfl⟩))).symm) _
    have W:=w a (by rw[q];simp[Op.operands]);have hi:=w V (by rw[q];simp[Op.operands])
    have hl:∀ty F,aN P ty s a=some F->∀id∈F.ids,(s.ob _).map _=(x.ob _).map _:=λty F e id l=>(I _ (by
     simp[qE,B]
     exact qt (by rw[q];simp[Op.operands]) e l)).symm
    refine fin ?_;simp[cz,q,c8];grind[HF,EO]
   |_=>rw[q] at B;cases B
  |false=>
   have D:∀id∈Ci P h o s,s.ob id=x.ob id:=λid l=>by grind[HX,qE,Ci]
   exact fin (JP (λO id l=>(H _ (by simp[qE,O,B,l])).symm) D (λt R=>(G t (by simp[qE,eU,R])).symm))⟩
def QE {l:Array Oper} {k:Nat} {o:Oper} {s:St} {v:SV} (G:l[k]? =some o) (I:lP l o s=some true) (q:yF h o=[]) (H:cz P h bC o s=some v):
  ∃z K m,Bc (mD P h bC l k) s ((qE P h l o s).fill s (s.set o.dst v)) z K m/\Gv s ((qE P h l o s).fill s (s.set o.dst v)):=
 EC (l:=[]) ah (λx w B D=>by
  simp[mD,G];rw[uj w,I];simp[step,q]
  exact(IV H).2.2 x w B D) λj F _=>by cases F
def NY {o:Oper} {s s':St} {c:Call} {d id:Nat} {x y:Operand} {t R:TypeId} (U:o.op= .call c) (hc:c.callee= .builtin .append) (q:c.args.toList=[x,y]) (V:c.argTypes.toList=[t,R]) (hd:o.dst=some d) (hx:aN P t s x=some (.row id)) (l:step0 P h bC o s=some s'):
  ∃ob:Ob,s'=(s.new id ob).set (some d) (.row id)/\
   ∀x:St,(∀t∈slotsOf o,x.env t=s.env t)->(∀j∈id::wI s o,x.ob j=s.ob j)->step0 P h bC o x=some ((x.new id ob).set (some d) (.row id)):=by
 have hf:∀x:St,cz P h bC o x=none:=λx=>by simp_all[cz,sH]
 have he:∀F:St,step0 P h bC o F=(match isSlice P t,aN P t F x,aN P R F y with
  |some (e,s),some (.row id),some y=>match F.ob id,elems F y,P.info? e with
   |some (.row I w xs),some (G,B),some i=>
    if t=R/\e=I/\s=w/\w=G/\0<w/\(xs.length+B.length) *i.bytes<=140737488355328/\xs.length+B.length<=4611686018427387904/\i.zero.map (λz=>z.cells.size)=some w/\fN id=true then
     some ((F.new id (.row e w (xs++B))).set (some d) (.row id)) else none
   |some (.rn I w k e2 s2 xs zs),some (G,B),some i=>
    if t=R/\e=I/\s=w/\w=G/\0<w/\(xs.length+B.length) *i.bytes<=140737488355328/\xs.length+B.length<=4611686018427387904/\i.zero.map (λz=>z.cells.size)=some w/\fN id=true/\B.all (mu k)=true then
     some ((F.new id (.rn e w k e2 s2 (xs++B.map λc=>c.set k .hole) (zs++B.map λ_=>some []))).set (some d) (.row id)) else none
   |_,_,_=>none
  |some (e,s),some (.aq id .full),some y=>match F.ob id,elems F y,P.info? e with
   |some (.row I w xs),some (G,B),some i=>
    if t=R/\e=I/\s=w/\w=G/\0<w/\(xs.length+B.length) *i.bytes<=140737488355328/\xs.length+B.length<=4611686018427387904/\i.zero.map (λz=>z.cells.size)=some w/\fN id=true/\B.isEmpty=false then
     some ((F.new id (.row e w (xs++B))).set (some d) (.row id)) else none
   |_,_,_=>none
  |_,_,_=>none):=λF=>by
  simp only[step0,hf,jN,U,hc,hd,q,V];rfl
 rw[he] at l;split at l
 .rename_i e sz0 id2 sy hs O W;rw[hx] at O;simp only[aB,SV.row.injEq] at O;subst O;split at l
  .rename_i I w xs G B i qq hel hi;split at l
   .rename_i S;injection l with l;refine⟨.row e w (xs++B),l.symm,λF K H=> ?_⟩
    have D:∀z∈[x,y],∀ty,aN P ty F z=aN P ty s z:=λz hz ty=>iE (λu e=>K u (by
     subst e;refine dR.2 ⟨.tmp u,?_,rfl⟩;rw[U];simp only[Op.operands,Call.operands,hc,gm,bn];right
     rw[q];exact hz)) ty
    rw[he,D x ah t,D y ah R,hx,W,hs];have e1:F.ob id=s.ob id:=H id ah
    have e2:elems F sy=elems s sy:=ri (λj hj=>H j (cK _ (qt (P:=P) (x:=y) (ty:=R) (by
     rw[U];simp only[Op.operands,Call.operands,hc,gm,bn];right
     rw[q];simp) W hj)))
    grind
   .cases l
  .rename_i I w k e3 s3 xs zs G B i qq hel hi;split at l
   .rename_i S;injection l with l;refine⟨.rn e w k e3 s3 (xs++B.map λc=>c.set k .hole) (zs++B.map λ_=>some []),l.symm,λF K H=> ?_⟩
    have D:∀z∈[x,y],∀ty,aN P ty _ z=aN P _ s z:=λz hz ty=>iE (λu e=>K u (by
     subst e;refine dR.2 ⟨.tmp u,?_,rfl⟩;rw[U];simp only[Op.operands,Call.operands,gm,bn];right
     rw[q];exact hz)) _
    rw[he,D x ah t,D y ah _,hx,W,hs];have e1:F.ob id=s.ob _:=H _ ah
    have e2 :=ri (λj hj=>H j (cK _ (qt (by
     rw[U];simp only[Op.operands,Call.operands,gm]
     rw[q];simp) W hj)))
    grind
   .cases l
  .cases l
 .simp_all
 simp_all
def Mj {o:Oper} {s s':St} {c:Call} {d id:Nat} {x y:Operand} {t K:TypeId} (O:o.op= .call c) (hc:c.callee= .builtin .append) (w:c.args.toList=[x,y]) (I:c.argTypes.toList=[t,K]) (hd:o.dst=some d) (hx:aN P t s x=some (.aq id .full)) (l:step0 P h bC o s=some s'):
  ∃W:Ob,s'=(s.new id W).set (some d) (.row id)/\
   ∀x:St,(∀t∈slotsOf o,x.env t=s.env t)->(∀j∈id::wI s o,x.ob j=s.ob j)->step0 P h bC o x=some ((x.new id W).set (some d) (.row id)):=by
 have hf:∀x:St,cz P h bC o x=none:=λx=>by simp_all[cz,sH]
 have he:∀D:St,step0 P h bC o D=(match isSlice P t,aN P t D x,aN P K D y with
  |some (e,s),some (.row id),some y=>match D.ob id,elems D y,P.info? e with
   |some (.row H q xs),some (F,B),some i=>
    if t=K/\e=H/\s=q/\q=F/\0<q/\(xs.length+B.length) *i.bytes<=140737488355328/\xs.length+B.length<=4611686018427387904/\i.zero.map (λz=>z.cells.size)=some q/\fN id=true then
     some ((D.new id (.row e q (xs++B))).set (some d) (.row id)) else none
   |some (.rn H q k U s2 xs zs),some (F,B),some i=>
    if t=K/\e=H/\s=q/\q=F/\0<q/\(xs.length+B.length) *i.bytes<=140737488355328/\xs.length+B.length<=4611686018427387904/\i.zero.map (λz=>z.cells.size)=some q/\fN id=true/\B.all (mu k)=true then
     some ((D.new id (.rn e q k U s2 (xs++B.map λc=>c.set k .hole) (zs++B.map λ_=>some []))).set (some d) (.row id)) else none
   |_,_,_=>none
  |some (e,s),some (.aq id .full),some y=>match D.ob id,elems D y,P.info? e with
   |some (.row H q xs),some (F,B),some i=>
    if t=K/\e=H/\s=q/\q=F/\0<q/\(xs.length+B.length) *i.bytes<=140737488355328/\xs.length+B.length<=4611686018427387904/\i.zero.map (λz=>z.cells.size)=some q/\fN id=true/\B.isEmpty=false then
     some ((D.new id (.row e q (xs++B))).set (some d) (.row id)) else none
   |_,_,_=>none
  |_,_,_=>none):=λD=>by
  simp only[step0,hf,jN,O,hc,hd,w,I];rfl
 rw[he] at l;split at l
 .simp_all
 .rename_i e sz0 id2 sy hs G hy;rw[hx] at G;simp at G;subst G;split at l
  .split at l
   .injection l with l;refine⟨_,l.symm,λD S R=> ?_⟩
    have V:∀z∈[x,y],∀ty,aN P ty _ z=aN P _ s z:=λz hz ty=>iE (λu e=>S u (by
     subst e;refine dR.2 ⟨.tmp u,?_,rfl⟩;rw[O];simp only[Op.operands,Call.operands,gm,bn];right
     rw[w];exact hz)) _
    have U :=ri (λj hj=>R j (cK _ (qt (by
     rw[O];simp only[Op.operands,Call.operands,gm]
     rw[w];simp) hy hj)))
    grind
   .cases l
  .cases l
 simp_all
def Wz {q:Array Oper} {o:Oper} {s:St} (w:¬∃t x,o.op= .load t x) (z:¬∃t a x id B i l j,o.op= .store t a x/\aN P 0 s a=some (.rp id B i l)/\aN P t s x=some (.row j)) (j:Nat):(iQ P h q o s).kp j=false:=by
 unfold iQ yo vM EF;split
 .split
  .grind
  .rfl
  .split<;>rfl
 .cases h.rows.contains _<;>rfl
 .cases h.rows.contains _<;>rfl
 .split
  .split
   .split<;>rfl
   .rfl
  .cases(o.dst.any _&& !(o.dst.any _)) with
   |true=>rfl
   |false=>rename_i c _ _ f _;cases(!(o.dst.any _)&&(!(o.dst.any _)&&wide s c f)) with
    |false=>rfl
    |true=>simp[qD];split<;>rfl
  .rfl
 .simp_all
 .rfl
def Sg {D:Array Oper} {o:Oper} {s W:St} {t:TypeId} {a:Operand} (ho:o.op= .load t a) (l:step0 P h bC o s=some W) (q:(iQ P h D o s).all=false):
  ∃ev ov m,iw (step0 P h bC o) s (iQ P h D o s) ev ov m:=by
 obtain⟨F,w⟩:∃F,iQ P h D o s=F:=⟨_,rfl⟩
 rw[w] at q⊢;unfold iQ at w;rw[ho] at w;cases H:o.dst with
 |none=>rw[H] at w;subst w;cases q
 |some d=>rw[H] at w;simp only at w;cases I:h.take.contains d with
  |false=>rw[I] at w;subst w;cases q
  |true=>
   rw[I] at w;simp[ai,Hs] at w;split at w
   .rename_i id sz i B V;split at w
    .rename_i e R k e' s2 xs ys z;subst w;have he:∀x:St,aN P 0 x a=some (.rp id sz i B)->x.ob id=some (.rn e R k e' s2 xs ys)->step0 P h bC o x=rI P x t a d:=λx h1 h2=>by
      simp_all[cz,step0,jN]
     rw[he s V z] at l;unfold rI at l;rw[V] at l;split at l
     .rename_i id2 sz2 i2 off2 e1 G;obtain⟨rfl,rfl,rfl,rfl⟩:=e1;rw[z] at l;simp at l;split at l
      .rename_i zs hy;cases hb:(Nat.beq sz R&&Nat.beq B k&& !(Nat.beq id d)&&Nat.blt id 10000) with
       |false=>simp_all
       |true=>
       rw[hb] at l;simp at l;have U:id≠d:=λe=>by simp_all
       refine⟨W.env,W.ob,[(d,none)],by simp,λj hj hk=> ?_,λx h1 h2 _=> ?_⟩<;>subst l
       rotate_left
       .have O:aN P 0 x a=some (.rp id sz i B):=by
         rw[<-V]
         exact iE (λu e=>h1 u (by
          subst e
          exact eS _ (dR.2 ⟨.tmp u,by rw[ho];simp[Op.operands],rfl⟩))) 0
        have K :=(h2 _ ah).trans z;rw[he x O K];unfold rI;rw[O,G];simp only[K,hy,hb];refine aC _ (St.same (λu=> ?_) (λu=> ?_))
        .simp[dQ,cD];by_cases e:u=d
         .simp_all[St.set,br]
         .rw[az e];simp[St.set,aM _ _ (λh=>e h.symm)];rfl
        .simp[dQ,aD,dG,dV];by_cases e:u=d
         .simp_all[St.set,St.new,br]
         .by_cases e2:u=id
          .subst e2;simp[true_or,js,St.set,St.new,St.bX,aM _ _ (λh=>e h.symm),br]
          .rw[az af];simp[St.set,St.new,St.bX,aM _ _ (λh=>e h.symm),aM _ _ (λh=>e2 h.symm)];rfl
       .have S :=by
         simp only[aF] at hk;exact beq_iff.1 hk.1
        subst S;rw[z];simp[St.set,St.new,St.bX,aM _ _ (λh=>U h.symm),br,bW,Ob.bX,Ob.pe]
      simp_all
     simp_all
    .subst w;cases q
   .subst w;cases q
def AQ {R:Type} {b:Bool} {x:Option R} {r:R} (l:(bif b then x else none)=some r):b=true/\x=some r:=by grind
def mw:∀(l:List Nat) (q:St) (t:Nat),(iG l q).env t=(q.env t).map (iC (l.map λi=>(i,none)))
 |[],q,t=>by exact(gx λ_=>rfl).symm
 |id::l,q,t=>by simp[iG];rw[mw l _ t];simp[St.bX,Option.map_map];rfl
def qM:∀(l:List Nat) (q:St) (j:Nat),j∉l->(iG l q).ob j=(q.ob j).map (Ob.u7 (iC (l.map λi=>(i,none))))
 |[],q,j,_=>by simp_all[iG,gx,yz]
 |id::l,q,j,w=>by simp at w;simp[iG];rw[qM l _ j w.2];simp only[St.bX,aM _ _ (λh=>w.1 h.symm)];cases q.ob j with
  |none=>rfl
  |some o=>cases o<;>simp only[bW,Ob.bX,Ob.u7,dw]<;>rfl
theorem ou:∀(l:List Nat) (w q:St) (j:Nat),w.ob j=q.ob j->(iG l w).ob j=(iG l q).ob j
 |[],w,q,j,h=>h
 |id::l,w,q,j,h=>by
  refine ou l _ _ j ?_;by_cases e:id=j
  .simp_all[St.bX,br]
  simp_all[St.bX,aM]
theorem back_mem {names:List Nat} {D:Nat->Nat}:∀{m:List (Nat×Nat)} {q back:List (Nat×Ob)},kG names D m q=some back->∀{j:Nat} {o:Ob},find back j=some o->j∈m.map (·.1)
 |[],[],back,h,j,o,l=>by simp[kG,aB] at h;subst h;cases l
 |[],_::_,back,h,_,_,_=>by simp[kG] at h
 |_::_,[],back,h,_,_,_=>by simp[kG] at h
 |(id,F)::m,(B,G)::q,back,h,j,o,l=>by obtain⟨_,h⟩:=AQ h;simp at h;obtain⟨r,z,rfl⟩:=h;simp[find] at l;cases w:Nat.beq id j with
  |true=>simp_all
  |false=>rw[w] at l;exact cK _ (back_mem z l)
def RU {B:Array Oper} {o:Oper} {s s':St} {c:Call} {f:Operand} (ho:o.op= .call c) (hc:c.callee= .value f) (how:o.dst.any h.owns.contains=false) (U:o.dst.any h.stay.contains=false) (hw:wide s c f=true)
  (w:step0 P h bC o s=some s') (F:(qD P h B o s c f).all=false):∃ev ov m,iw (step0 P h bC o) s (qD P h B o s c f) ev ov m:=by
 have S0:∀x:St,(∀t∈eU B o,x.env t=s.env t)->∀y∈o.op.operands.toList,∀ty,aN P ty x y=aN P ty s y:=λx W y hy' ty=>iE (λu e=>W u (by
  subst e
  exact eS _ (dR.2 ⟨.tmp u,hy',rfl⟩))) ty
 have G:∀x∈c.args.toList,x∈o.op.operands.toList:=λx hx=>by simp_all[Op.operands,Call.operands,gm,bn]
 have hfo:f∈o.op.operands.toList:=by rw[ho];simp[Op.operands,Call.operands,hc]
 have hwide:∀x:St,(∀t∈eU B o,x.env t=s.env t)->wide x c f=wide s c f:=λx W=>by
  have Wc:∀y∈o.op.operands.toList,∀u,y= .tmp u->x.env u=s.env u:=λy hy u e=>W u (by
   subst e
   exact eS _ (dR.2 ⟨.tmp u,hy,rfl⟩))
  have e1:JX x f=JX s f:=by cases f with
   |tmp u=>simp only[JX,Wc _ hfo u rfl]
   |_=>rfl
  have e2:∀l:List Operand,(∀y∈l,y∈o.op.operands.toList)->l.any (yu x)=l.any (yu s):=by intro l;induction l with
   |nil=>simp
   |cons y l ih=>intro hl;simp only[List.any_cons];rw[ih λz hz=>hl z (by simp[hz])];cases y with
    |tmp u=>simp only[yu,Wc _ (hl (.tmp u) ah) u rfl]
    |_=>rfl
  unfold wide;rw[e1,e2 _ G]
 have he:∀x:St,(∀t∈eU B o,x.env t=s.env t)->step0 P h bC o x=gC P h bC x c f o.dst:=λx W=>by
  have hwx:=(hwide x W).trans hw;have hfn:cz P h bC o x=none:=by simp only[cz,ho,hc,how,U,hwx,aj,sS,Bool.true_or,ai]
  unfold step0;rw[hfn];cases O:o.dst with
  |none=>simp only[jN,ho,hc,O,hwx,Option.any_none,aj,sS,ai]
  |some d=>rw[O] at how U;simp only[jN,ho,hc,O,how,U,hwx,aj,sS,ai]
 rw[he s λ_ _=>rfl] at w;have Uq:∃g args,pK P h s c f=some (g,args):=by
  unfold qD at F;split at F
  .simp_all
  .cases F
 obtain⟨g,args,Wp⟩:=Uq;have hF:qD P h B o s c f={ rs:=eU B o,ws:=o.dst.toList,ro:=iN s args,wo:=iN s args,mv:=(iN s args).filter (jm false s (lV args)) }:=by unfold qD;rw[Wp]
 rw[hF];have D:=Wp;unfold pK at D;split at D
 .rename_i g0 pre q V hfn hvs;simp only[aB,aQ] at D;obtain⟨rfl,rfl⟩:=D;unfold gC at w;rw[hfn,hvs] at w;simp only[U] at w;obtain⟨K,w⟩:=AQ w;split at w
  .rename_i Kn S;split at w
   .rename_i r u5 I;split at w
    .rename_i back H;obtain⟨Nx,w⟩:=AQ w;injection w with w;generalize R:iz s 200 ((pre++(V++q)).flatMap SV.ids) []=ids at K S I H w;have hro:iN s (pre++(V++q))=ids:=R;rw[hro];have hfst:(gK (jm false s (lV (pre++(V++q)))) 0 ids).map (·.1)=ids:=oU _ _ _;refine⟨s'.env,s'.ob,(ids.filter (jm false s (lV (pre++(V++q))))).map λi=>(i,none),λp hp=> ?_,λj _ hk=>(by cases hk),λx W h2 _=> ?_⟩
     .obtain⟨i,hi,rfl⟩:=aA.1 hp;exact hi
     .have k1:aN P 0 x f=aN P 0 s f:=S0 x W f hfo 0;have k2:pz P h x c.args.toList c.argTypes.toList=pz P h s c.args.toList c.argTypes.toList:=tJ λy hy ty=>S0 x W y (G y hy) ty
      have k3:iz x 200 ((pre++(V++q)).flatMap SV.ids) []=ids:=by rw[<-R];exact(nv 200 _ _ λid hid=>(h2 id (by rw[R] at hid;exact hid)).symm).symm
      have k4:∀id∈ids,jm false x (lV (pre++(V++q))) id=jm false s (lV (pre++(V++q))) id:=λid hid=>by simp only[jm,LD,h2 id hid]
      have k5:∀(l:List Nat) (n:Nat),(∀id∈l,id∈ids)->gK (jm false x (lV (pre++(V++q)))) n l=gK (jm false s (lV (pre++(V++q)))) n l:=by intro l;induction l with
       |nil=>intro n _;rfl
       |cons i l ih=>simp_all[gK]
      have k6:=k5 ids 0 λ_ h=>h
      have k7:jl x ids (mP (gK (jm false s (lV (pre++(V++q)))) 0 ids)) (gK (jm false s (lV (pre++(V++q)))) 0 ids)=some Kn:=by
       rw[<-S];exact rS λp hp=>h2 p.1 (by grind)
      have k8 :=List.filter_congr λi hi=>k4 i hi
      rw[he x W];unfold gC;rw[k1,k2,hfn,hvs];simp only[U,k3,k6,K,k7,I,H,Nx];refine aC _ (St.same (λt=> ?_) (λj=> ?_))
      .simp[dQ];cases O:o.dst with
       |none=>simp_all[St.set,mw]
       |some d=>
        by_cases e:d=t
        .subst e;rw[<-w,O];simp[St.set,br]
        .rw[az (by grind)];simp_all[St.set,aM,mw]
      .have OR:∀(y) (v),(St.set y o.dst v).ob=y.ob:=λy v=>by cases o.dst<;>rfl
       simp[dQ,OR];by_cases e:j∈ids
       .grind[ou]
       .have hb:find back j=none:=by
         cases hf:find _ j with
         |none=>rfl
         |some o'=>grind[back_mem]
        simp_all[qM]
    simp_all
   simp_all
  simp_all
 simp_all
def UO {G:Array Oper} {o:Oper} {s s':St} {t:TypeId} {a y:Operand} {id R i w j:Nat} (W:o.op= .store t a y) (V:aN P 0 s a=some (.rp id R i w)) (hy:aN P t s y=some (.row j)) (l:step0 P h bC o s=some s') (D:(iQ P h G o s).all=false):
  ∃ev ov m,iw (step0 P h bC o) s (iQ P h G o s) ev ov m:=by
 obtain⟨F,B⟩:∃F,iQ P h G o s=F:=⟨_,rfl⟩
 rw[B] at D⊢;unfold iQ at B;rw[W] at B;cases I:o.dst with
 |some d=>rw[I] at B;subst B;cases D
 |none=>
  rw[I] at B;simp[yo,V,hy] at B;subst B;have he:∀x:St,aN P 0 x a=some (.rp id R i w)->aN P t x y=some (.row j)->step0 P h bC o x=Am P x t id R i w j:=λx h1 U=>by simp_all[cz,c8,step0,jN]
  rw[he s V hy] at l;unfold Am at l;split at l
  .rename_i e sz' k e' s2 xs ys S s3 zs H hsz qq K;cases hb:(Nat.beq R sz'&&Nat.beq w k&&Nat.blt id 10000&&Nat.blt j 10000&&Nat.beq e' S&&Nat.beq s2 s3&&Nat.blt i ys.length&& !(Nat.beq id j)) with
   |false=>simp_all
   |true=>
   rw[hb] at l;simp at l;refine⟨s'.env,s'.ob,[(j,none),(id+40000,none)],by simp,λq hq hk=> ?_,λx h1 U _=> ?_⟩<;>subst l
   .simp_all[br,Ob.pe]
   .have O:∀z∈o.op.operands.toList,∀ty,aN P ty x z=aN P _ s z:=λz hz ty=>iE (λu e=>h1 u (by
     subst e
     exact eS _ (dR.2 ⟨_,hz,rfl⟩))) _
    have k1:=O a (by rw[W];simp[Op.operands]) 0;have k2:=O y (by rw[W];simp[Op.operands]) t;have x1 :=(U _ ah).trans qq;have x2 :=(U j ah).trans K;rw[he x (k1.trans V) (k2.trans hy)];unfold Am;simp only[H,hsz,x1,x2,hb];refine aC _ (St.same (λu=> ?_) (λu=> ?_))
    .exact mw [j,id+40000] x u
    .simp[dQ];by_cases e:u=id
     .simp_all[br]
     .simp[aM _ _ (λh=>e h.symm)];by_cases S:u=j
      .rw[ak (.inr (.inl S))];exact ou [j,id+40000] x s u (by simp_all)
      .by_cases e3:u=id+40000
       .simp_all[St.bX,br]
       .rw[az af];exact qM [j,id+40000] x u (by simp_all)
  simp_all
def JJ {H:Array Oper} {o:Oper} {s s':St} (w:step0 P h bC o s=some s') (B:(iQ P h H o s).all=false):
  ∃ev ov m,iw (step0 P h bC o) s (iQ P h H o s) ev ov m:=by
 by_cases hld:∃t x,o.op= .load t x
 .obtain⟨t,a,ho⟩:=hld;exact Sg ho w B
 by_cases hpt:∃t a x id sz i off j,o.op= .store t a x/\aN P 0 s a=some (.rp id sz i off)/\aN P t s x=some (.row j)
 .obtain⟨t,a,x,id,sz,i,off,j,ho,ha,hx⟩:=hpt;exact UO ho ha hx w B
 by_cases hct:∃t a x id off j sz lo hi,o.op= .store t a x/\aN P 0 s a=some (.ptr id off)/\aN P t s x=some (.sub j sz lo hi)
 .obtain⟨t,a,x,id,off,j,sz,lo,hi,ho,ha,hx⟩:=hct;unfold iQ at B;rw[ho] at B;cases G:o.dst with
  |some d=>rw[G] at B;cases B
  |none=>rw[G] at B;simp only[yo,ha,hx] at B;cases B
 have go:∀{l:List (Nat×Option AV)},(∀p∈l,p.1∈(iQ P h H o s).mv)->(∀t∈eU H o,t∈(iQ P h H o s).rs)->(∀x:St,(∀t∈(iQ P h H o s).rs,x.env t=s.env t)->(∀j∈(iQ P h H o s).ro,x.ob j=s.ob j)->step0 P h bC o x=some (dQ (iQ P h H o s) s'.env s'.ob l x))->
   ∃ev ov m,iw (step0 P h bC o) s (iQ P h H o s) ev ov m:=λhk _ O=>⟨_,_,_,hk,λj _ hj=>(by rw[Wz hld hpt] at hj;cases hj),λx K S _=>O x K S⟩
 obtain⟨F,D⟩:∃F,iQ P h H o s=F:=⟨_,rfl⟩
 rw[D] at B go⊢;unfold iQ at D;split at D
 ·
  rename_i t ax ay q hdn;replace D:vM P H o s ax=F:=by
   rw[<-D];unfold yo;split
   .rename_i K S;exact absurd ⟨_,_,_,_,_,_,_,_,q,K,S⟩ hpt
   .rename_i K S;exact absurd ⟨_,_,_,_,_,_,_,_,_,q,K,S⟩ hct
   .rfl
  unfold vM at D;split at D
  .rename_i id hx;subst D;obtain⟨sa,hsa,htg⟩:=bZ.1 hx;have U:∀x,cz P h bC o x=none:=λx=>by simp[cz,q,c8]
   have R:=w;unfold step0 at R;rw[U] at R;simp only[jN,hdn,q,hsa] at R;split at R
   .rename_i K S;injection K with K;subst K;exact absurd ⟨_,_,_,_,_,_,_,_,q,hsa,S⟩ hpt
   .rename_i K S;injection K with K;subst K;exact absurd ⟨_,_,_,_,_,_,_,_,_,q,hsa,S⟩ hct
   .rename_i sa' sv _ hnr e1 hy;injection e1 with e1;subst e1;obtain⟨l1,l2,l3⟩:=Dn R htg;refine go (l:=[]) ah (λt W=>W) λx K S=> ?_
    have S0:∀y∈o.op.operands.toList,∀ty,aN P ty x y=aN P ty s y:=λy hy' ty=>iE (λu e=>K u (by
     subst e
     exact eS _ (dR.2 ⟨.tmp u,hy',rfl⟩))) ty
    have k1:=S0 ax (by rw[q];simp[Op.operands]) 0;have k2:=S0 ay (by rw[q];simp[Op.operands]) t;unfold step0;rw[U];have hsel:jN P h bC o x=storeAt P t x sa sv:=by simp only[jN,hdn,q,k1,k2,hsa,hy]
    simp only;rw[hsel,l3 x (S id ah) λj hj=>S j (cK _ (qt (P:=P) (x:=ay) (ty:=t) (by rw[q];simp[Op.operands]) hy hj))];congr 1;refine St.same (λu=> ?_) (λu=> ?_)
    .simp only[dQ,dG,jg];exact(gx λ_=>rfl).symm
    .simp only[dQ,cD];by_cases e:u=id
     .subst e;simp[br]
     .rw[az e,aM _ _ (λh=>e h.symm)];exact(gx yz).symm
   .cases R
  .subst D;cases B
 ·
  rename_i t d q G;cases V:h.rows.contains d with
  |true=>rw[V] at D;subst D;cases B
  |false=>
   rw[V] at D;simp only[aj] at D;subst D;have he:∀x,step0 P h bC o x=match D8 P h (some d) t with
    |some z=>some ((x.new d (.box t (z.map .pv))).set (some d) (.ptr d 0))
    |none=>none:=λx=>by
    have U:cz P h bC o x=none:=by simp[cz,q,c8]
    unfold step0;rw[U];simp only[jN,G,q,V,aj];rfl
   rw[he] at w;split at w
   .rename_i z hz;injection w with w;subst w;refine go (l:=[(d,none)]) ah (λt W=>W) λx K S=> ?_
    rw[he,hz];simp only;rw[B1 (f:={ rs:=eU H o,ws:=[d],wo:=[d],mv:=[d] }) (s:=s) rfl rfl]
   .cases w
 ·
  rename_i t len I d q G;cases V:h.rows.contains d with
  |false=>rw[V] at D;subst D;cases B
  |true=>
   rw[V] at D;simp only[ai] at D;subst D;have he:∀x,step0 P h bC o x=match iB P t len I.toList x with
    |some (e,s,xs)=>match find h.nest d with
     |none=>some ((x.new d (.row e s xs)).set (some d) (.row d))
     |some (k,e',s')=>bif Nat.blt k s&&xs.all (mu k) then some ((x.new d (.rn e s k e' s' (xs.map λc=>c.set k .hole) (xs.map λ_=>some []))).set (some d) (.row d)) else none
    |none=>none:=λx=>by
    have U:cz P h bC o x=none:=by simp only[cz,q,G,sU,V,ai]
    unfold step0;rw[U];simp only[jN,G,q];rfl
   have hl:∀x:St,(∀t∈eU H o,x.env t=s.env t)->iB P t len I.toList x=iB P t len I.toList s:=λx K=>by
    unfold iB
    have hp:∀ty,partsOf P ty x I.toList=partsOf P ty s I.toList:=λty=>oE (λy hy t=>iE (λu e=>K u (by
     subst e
     exact eS _ (dR.2 ⟨.tmp u,by rw[q];simpa[Op.operands] using hy,rfl⟩))) t)
    simp only[hp]
   rw[he] at w;obtain⟨ob,hs',O⟩:∃ob:Ob,s'=(s.new d ob).set (some d) (.row d)/\∀x:St,iB P t len I.toList x=iB P t len I.toList s->step0 P h bC o x=some ((x.new d ob).set (some d) (.row d)):=by
    split at w
    .rename_i e sz xs Wh;split at w
     .rename_i hn;injection w with w;exact⟨_,w.symm,λx hx=>by rw[he,hx,Wh];simp only[hn]⟩
     .rename_i k e' s2 hn;obtain⟨hb,w⟩:=AQ w;injection w with w;exact⟨_,w.symm,λx hx=>by rw[he,hx,Wh];simp only[hn,hb,ai]⟩
    .cases w
   subst hs';refine go (l:=[(d,none)]) ah (λt W=>W) λx K S=> ?_
   rw[O x (hl x K),B1 (f:={ rs:=eU H o,ws:=[d],wo:=[d],mv:=[d] }) (s:=s) rfl rfl]
 .rename_i c q;split at D
  ·
   rename_i hc;unfold EF at D;split at D
   .rename_i x y t t' d hargs wg G;split at D
    .rename_i id hx;subst D;obtain⟨ob,hs',O⟩:=NY q hc hargs wg G hx w;subst hs';refine go (l:=[(id,none)]) ah (λt W=>W) λx K S=> ?_
     rw[O x (λt W=>K t (by simp[eU,W])) S,B1 (f:={ rs:=eU H o,ws:=[d],ro:=id::wI s o,wo:=[id],mv:=[id] }) (s:=s) rfl rfl]
    .rename_i id hx;subst D;obtain⟨ob,hs',O⟩:=Mj q hc hargs wg G hx w;subst hs';refine go (l:=[(id,none)]) ah (λt W=>W) λx K S=> ?_
     rw[O x (λt W=>K t (by simp[eU,W])) S,B1 (f:={ rs:=eU H o,ws:=[d],ro:=id::wI s o,wo:=[id],mv:=[id] }) (s:=s) rfl rfl]
    .subst D;cases B
   .subst D;cases B
  ·
   rename_i f hc;cases Up:(o.dst.any h.owns.contains&& !(o.dst.any (λd=>(sD h d).isSome))) with
   |false=>rw[Up] at D;simp only[aj] at D;cases hmn:(!(o.dst.any h.owns.contains)&&(!(o.dst.any h.stay.contains)&&wide s c f)) with
    |false=>rw[hmn] at D;subst D;cases B
    |true=>rw[hmn] at D;simp only[ai] at D;rw[<-D] at B⊢;simp only[aF,ga] at hmn;exact RU q hc hmn.1 hmn.2.1 hmn.2.2 w B
   |true=>
    rw[Up] at D;simp only[ai] at D;subst D;obtain⟨how,EK⟩:=sQ.1 Up;have he:∀x,step0 P h bC o x=iK P h bC x c f o.dst:=λx=>by
     have U:cz P h bC o x=none:=by simp only[cz,q,hc,how,ai]
     unfold step0;rw[U];cases G:o.dst with
     |none=>rw[G] at how;cases how
     |some d=>rw[G] at how;simp only[jN,q,hc,G,how,ai]
    have S0:∀x:St,(∀t∈eU H o,x.env t=s.env t)->∀y∈o.op.operands.toList,∀ty,aN P ty x y=aN P ty s y:=λx K y hy' ty=>iE (λu e=>K u (by
     subst e
     exact eS _ (dR.2 ⟨.tmp u,hy',rfl⟩))) ty
    rw[he] at w;unfold iK at w;split at w
    .rename_i d G;have hn:(sD h d).isSome=false:=by simpa[G] using EK
     rw[hn] at w;split at w
     .rename_i g caps vs hf hvs;split at w
      rotate_left
      .rename_i cs' hr
       have:sD h d=none:=by simpa using hn
       rw[this] at w;cases w
      .cases w
      rename_i e sz xs hr;injection w with w;subst w;refine go (l:=[(d,none)]) (by simp[G]) (λt W=>W) λx K S=> ?_
      have k1:=S0 x K f (by rw[q];simp[Op.operands,Call.operands,hc]) 0;have k2:=vl (P:=P) (b:=false) (st:=x) (st':=s) (xs:=c.args.toList) (ts:=c.argTypes.toList) (λy hy=>S0 x K y (by rw[q];simp only[Op.operands,Call.operands,gm,bn];exact .inr hy));rw[he];unfold iK;rw[G];simp only[hn,k1,k2,hf,hvs,hr,aj];exact aC some (B1 (f:={ rs:=eU H o,ws:=(some d).toList,wo:=(some d).toList,mv:=(some d).toList }) (s:=s) rfl rfl)
     .cases w
    .cases w
  .subst D;cases B
 .rename_i hq _;exact absurd ⟨_,_,hq⟩ hld
 .subst D;cases B
def Hr {ops:Array Oper} {o:Oper}:∀{l:List Nat} {s s':St},(kn l s).bind (step0 P h bC o)=some s'->(Dz P h ops o l s).all=false->∃ev ov m,iw (λx=>(kn l x).bind (step0 P h bC o)) s (Dz P h ops o l s) ev ov m
 |[],s,s',q,w=>by simp only[kn,dU] at q⊢;simp only[Dz] at w⊢;cases z:O1 h s o with
  |false=>simp_all[aj,JJ]
  |true=>rw[z] at w;simp only[ai] at w⊢;cases O:(isW o.op||RM s o.op) with
   |false=>rw[O] at w;cases w
   |true=>simp only[ai];cases D:cz P h bC o s with
    |some v=>exact⟨_,_,_,IV D⟩
    |none=>exfalso;unfold step0 at q;rw[D] at q;simp only at q;cases B:o.op with
     |buildSlice t len K=>
      simp only[O1,B] at z;have z:o.dst.any h.rows.contains=false:=by simpa using z
      simp only[cz,B,z,aj,Option.map_eq_none_iff] at D;grind[jN]
     |build t K=>
      simp only[O1,B] at z;have z:o.dst.any h.rows.contains=false:=by simpa using z
      cases R:o.dst with
      |none=>simp[jN,B,R] at q
      |some d=>simp_all[jN,aj]
     |load t x=>
      simp only[O1,B] at z;have z:o.dst.any h.take.contains=false:=by simpa using z
      cases R:o.dst with
      |none=>simp[jN,B,R] at q
      |some d=>simp_all[jN,aj]
     |call c=>simp only[isW,B,mX,RM] at O;cases hc:c.callee with
      |value f=>
       rw[hc] at O;simp only[ga] at O;have S:∀x∈c.args.toList,iJ s x=false:=λx hx=>by grind
       have hag:c.args.toList.any (rK s)=false:=by rw[pV];intro x hx ha;have F:=S x hx;cases x with
        |tmp i=>simp only[rK] at ha;simp only[iJ] at F;grind
        |_=>cases ha
       have V:∀l:List Operand,(∀x∈l,iJ s x=false)->jN.fu s l=some s:=by intro l;induction l with
        |nil=>intro _;rfl
        |cons x l ih=>
         intro hl;have F:=hl x ah;have h2:=ih λy hy=>hl y (by simp[hy])
         cases x with
         |tmp i=>simp only[jN.fu];simp only[iJ] at F;grind
         |_=>exact h2
       have hpa:jN.gi s c.args.toList=some s:=by unfold jN.gi;rw[hag];exact V _ S
       simp only[O1,B,hc,aF,ga,ew] at z;obtain⟨how,z⟩:=z
       have he:jN P h bC o s=(bif o.dst.any h.owns.contains then iK P h bC s c f o.dst else bif o.dst.any h.stay.contains&&wide s c f then none else bif wide s c f then gC P h bC s c f o.dst else bif c.args.toList.any (λx=>(kR h s x).isSome) then lF P h bC s c f o.dst else
        match jN.gi s c.args.toList with
        |some G=>match aN P 0 G f,gw P G c.args.toList c.argTypes.toList with
         |some (.pv (.fn g H)),some vs=>match bC g ((vs++H).map .pv) [] with
          |some (r,[])=>bif c.args.toList.any (iJ G)|| !r.iD then none else some (G.set o.dst (.pv r))
          |_=>none
         |_,_=>none
        |none=>none):=by
        cases R:o.dst<;>simp only[jN,B,hc,R]<;>rfl
       rw[he,how] at q;simp only[aj] at q;rcases z with z|z
       .simp_all
       .obtain⟨MS,W⟩:=(jR).1 z;rw[MS,W,hpa] at q;simp only at q;simp only[cz,B,hc] at D;rw[how,MS,W] at D;split at q
        .rename_i g H vs F h2;rw[F,h2] at D;simp only at D;split at q
         .rename_i r hr;rw[hr] at D;simp[O] at D q;cases U:r.iD with
          |true=>rw[U] at D;cases D
          |false=>rw[U] at q;cases q
         simp_all
        simp_all
      |_=>simp_all
     |_=>simp[isW,RM,B] at O
 |t::l,s,s',q,w=>by simp[kn] at q;cases F:qL s t with
  |none=>simp_all
  |some s1=>
   rw[F] at q;simp[Dz,F] at w⊢;have I :=by simp[ey.then,jR] at w;exact w.2
   obtain⟨ev,ov,m,r1⟩:=M8 F;obtain⟨ev',ov',m',r2⟩:=Hr q I;have e1:=r1.at F;rw[e1] at r2;obtain⟨ev2,ov2,r3⟩:=L7 r1 r2;rw[<-e1] at r3;refine⟨ev2,_,_,r3.1,r3.2.1,λx k1 k2 k3=> ?_⟩;rw[<-r3.2.2 x k1 k2 k3];grind[kn]
theorem MC {l:Array Oper} {k:Nat} {o:Oper} {s F:St} (U:l[k]? =some o) (V:lP l o s=some true) (B:step P h bC o s=some F) (w:((pS P h l o s).fill s F).all=false):
  ∃G O m,Bc (mD P h bC l k) s ((pS P h l o s).fill s F) G O m/\Gv s ((pS P h l o s).fill s F):=by
 have z :=by simp[pS,ey.then,sV] at w;exact w
 obtain⟨G,O,m,r⟩:=Hr B z;have D:iw (step P h _ o) s (pS P h l o s) _ _ m:=r.imp (λt q=>by simp[pS,ey.then,q]) (λt q=>by simp[pS,ey.then,q]) (λt q=>by simp[pS,ey.then,q]) (λt=>by rfl) (λt=>by rfl) (λt q=>by simp[pS,ey.then,q]) (λt q K=>by simp_all[pS,ey.then]);have e:=D.at B;refine EC D.1 (λx H R S=> ?_) λj I K=> ?_
 rotate_left
 .rw[e,Vs I];exact D.2.1 j I K
 simp[mD,U];rw[uj λt q=>H t (by simp[pS,ey.then,q]),V];simp only;rw[D.2.2 x H R S,e];congr 1;refine St.same (λt=> ?_) (λj=> ?_)
 .simp[dQ];simp_all
 .simp[dQ];simp_all
def UR {w:Array Oper}:∀(l:List Oper) (i:Nat) (z:List (Nat×ey)) (B s:St),(∀k o,l[k]? =some o->w[i+k]? =some o)->gM P h bC w i l z B=some s->
  ∃F:List (Nat×ey),F.length=l.length/\(∀j,j∈F.map (·.1)↔i<=j/\j<i+l.length)/\F.Pairwise (λp q=>p.1<q.1)/\Ec (mD P h bC w) F B s/\
   (∀p∈z,∀q∈F,p.2.conflict q.2=true->reach w 12 q.1 p.1=true)/\F.Pairwise (λp q=>p.2.conflict q.2=true->reach w 12 q.1 p.1=true):=by
 intro l;induction l with
 |nil=>intro i z B s _ D;simp only[gM,aB] at D;exact⟨[],rfl,by simp, .nil,D,by simp, .nil⟩
 |cons o l ih=>
  intro i z B s R D;have V:w[i]? =some o:=by simpa using R 0 o ah
  have H:∀(f:ey) (G:St),mD P h bC w i B=some G->(f.all=false->∃ev ov m,Bc (mD P h bC w i) B f ev ov m/\Gv B f)->rR w z i f=true->gM P h bC w (i+1) l ((i,f)::z) G=some s->
    ∃F:List (Nat×ey),F.length=(o::l).length/\(∀j,j∈F.map (·.1)↔i<=j/\j<i+(o::l).length)/\F.Pairwise (λp q=>p.1<q.1)/\Ec (mD P h bC w) F B s/\
     (∀p∈z,∀q∈F,p.2.conflict q.2=true->reach w 12 q.1 p.1=true)/\F.Pairwise (λp q=>p.2.conflict q.2=true->reach w 12 q.1 p.1=true):=λf G h1 h2 h3 h4=>by
   obtain⟨F,k0,k1,k2,k3,k4,k5⟩:=ih (i+1) ((i,f)::z) G s (λk o' hk=>by
    have:=R (k+1) o' (by assumption)
    grind) h4
   refine⟨(i,f)::F,by simp[k0],λj=> ?_, .cons (λq O=> ?_) k2,⟨G,h1,h2,k3⟩,λp hp q O K=> ?_, .cons (λq O=>k4 (i,f) ah q O) k5⟩
   .simp only[aK,aD,k1,aT];omega
   .have:=(k1 q.1).1 (aA.2 ⟨q,O,rfl⟩);omega
   .rcases aD.1 O with rfl|O
    .have:=cH.1 h3 p hp;simpa[K] using this
    grind
  simp only[gM] at D;split at D
  .cases D
  .rename_i b W;cases b with
   |false=>simp only[aj] at D;cases I:rR w z i ((oR w o).fill B (B.set o.dst .undef)) with
    |false=>simp[I] at D
    |true=>simp only[I,ai] at D;exact H _ _ (by simp only[mD,V,W]) (λ_=>Sc V W) I D
   |true=>cases hF:(O1 h B o&&(yF h o).isEmpty) with
    |true=>
     have S :=by simp only[aF] at hF;exact pX.1 hF.2
     simp[hF] at D;cases U:cz P h bC o B with
     |none=>simp[U] at D
     |some v=>simp[U] at D;cases K:rR w z i ((qE P h w o B).fill B (B.set o.dst v)) with
      |false=>simp[K] at D
      |true=>simp[K] at D;exact H _ _ (by simp[mD,V,W,step,S,kn,dU,step0,U]) (λ_=>QE V W S U) K D
    |false=>cases hs:step P h bC o B with
     |none=>simp_all
     |some G=>cases K:rR w z i ((pS P h w o B).fill B G) with
      |false=>simp_all
      |true=>grind[mD,MC]
def Mv:∀{l:List Oper} {i:Nat},om i l=true->∀(p:Nat) (o:Oper),l[p]? =some o->∀e∈o.after.toList,Region.binds .any e=true->e.on<i+p:=by intro l;induction l with
 |nil=>simp
 |cons x l D=>intro i w p o q e z B;simp only[om,aF] at w;cases p with
  |zero=>simp at q;subst q;have:=cH.1 w.1 e z;simp_all
  |succ p=>grind
def Fo {l:Array Oper} {D:Nat->Prop} (w:∀j o,D j->l[j]? =some o->∀e∈o.after.toList,Region.binds .any e=true->D e.on):
  ∀(n i j:Nat),(∀o,l[i]? =some o->∀e∈o.after.toList,Region.binds .any e=true->D e.on)->reach l n i j=true->D j:=by
 intro n;induction n with
 |zero=>simp_all[reach]
 |succ n B=>intro i j q h;simp[reach] at h;cases z:l[i]? with
  |none=>grind
  |some o=>
   simp[z,ew] at h;rcases h with h|h
   .simp[Om] at h;grind[beq_iff]
   grind
def Rel.bX {N:Nat} {w0:World} {μ0:Mu} {L:nV} {W:Mu} {F:Nat->Value} {z:St} {a:Act} {w:World} (H:Rel N w0 μ0 L W F z a w) (id:Nat):Rel N w0 μ0 L W F (z.bX id) a w:=by
 have l:∀j o,(z.bX id).ob j=some o->∃G,z.ob j=some G/\o=G.bX id:=λj o q=>by
  simp[St.bX] at q;by_cases e:id=j
  .subst e;simp[br] at q
  .simp[aM _ _ e] at q;cases B:z.ob j with
   |none=>simp_all
   |some G=>simp_all
 refine { H with env:=λi sv K=> ?_,obs:=λj o q=> ?_,apart:=λi j oi oj hi hj=> ?_ }
 .simp[St.bX] at K;cases B:z.env i with
  |none=>simp_all
  |some s=>simp[B] at K;subst K;obtain⟨v,hv,hs⟩:=H.env i s B;simp_all[gH]
 .obtain⟨G,D,rfl⟩:=l j o q;have:=H.obs j _ D;cases G with
  |row e sz xs=>exact this
  |mp k e ks I=>exact this
  |mr k e s ks I=>exact this
  |rn e s k e' s' xs ys=>exact this
  |it s n=>exact this
  |lp s=>exact this
  |box t cells=>obtain⟨b,I,B,h2,S,h4,U,V⟩:=this;refine⟨b,I,B,h2,S,h4,?_,V⟩;clear S V D q;induction cells generalizing I with
   |nil=>exact U
   |cons c cs ih=>obtain⟨u,us,rfl,k1,k2⟩:=U;exact⟨u,us,rfl,gH k1,ih _ k2⟩
 .obtain⟨oi',O,_⟩:=l i _ hi;obtain⟨WJ,R,_⟩:=l j _ hj;exact H.apart i j _ _ O R
def Rel.nH {N:Nat} {w0:World} {μ0:Mu} {L:nV} {D:Mu} {q:Nat->Value} {a:Act} {w:World}:∀(l:List Nat) (B:St),Rel N w0 μ0 L D q B a w->Rel N w0 μ0 L D q (AM.nH l B) a w
 |[],_,z=>z
 |p::l,B,z=>Rel.nH l _ (z.bX p)
end
section
variable {P:Program} {N:Nat} {w0:World} {μ0:Mu} {L:nV} {h:Hint} {bC:cr} {Q:Exit->Act->World->Prop}
def JE (uo:dX L.q μ0 P bC) {z:Array Oper} {st WV:St} (Uh:om 0 z.toList=true)
  (hrun:gM P h bC z 0 z.toList [] (nH (rZ z.toList) st)=some WV) (hd:∀o∈z.toList,∀i,o.dst=some i->i<N)
  (hQ:∀a' w' μ' O,Rel N w0 μ0 L μ' O WV a' w'->Q .normal a' w') {μ:Mu} {loc:Nat->Value} {a:Act} {w:World} (hR:Rel N w0 μ0 L μ loc st a w) {F:Fence} (hF:Wd F):
  wpAnyIn F 0 P .any z Q z.size (Array.replicate z.size false) a w:=by
 obtain⟨fs0,hl0,hm0,hs0,Uq,_,hp0⟩:=UR z.toList 0 [] _ _ (λk o hk=>by simp_all) hrun;let D:Array Bool->Nat->Prop:=λl j=>l.getD j false=true
 have main:∀(B:Nat) (l:Array Bool) (a:Act) (w:World) (μ:Mu) (loc:Nat->Value) (fs:List (Nat×ey)) (x:St),l.size=z.size->fs.length<=B->
   (∀j o,D l j->z[j]? =some o->∀e∈o.after.toList,Region.binds .any e=true->D l e.on)->
   (∀j,j∈fs.map (·.1)↔j<z.size/\¬D l j)->fs.Pairwise (λp q=>p.1<q.1)->Ec (mD P h bC z) fs x WV->fs.Pairwise (λp q=>p.2.conflict q.2=true->reach z 12 q.1 p.1=true)->Rel N w0 μ0 L μ loc x a w->
   wpAnyIn F 0 P .any z Q B l a w:=by
  intro B;induction B with
  |zero=>intro l a w μ loc fs x hsz hle EJ G _ I _ R;have EK:fs=[]:=jc af;subst EK;have hx:x=WV:=I;subst hx;refine⟨?_,hQ _ _ _ _ R⟩;unfold Region.ready;apply xK.2;grind
  |succ B ih=>
   intro l a w μ loc fs x hsz hle EJ G K I S4 R;have Us:∀i,i∈Region.ready .any z l->∃o,z[i]? =some o/\i<z.size/\¬D l i/\∀e∈o.after.toList,Region.binds .any e=true->D l e.on:=by
    intro i hi;unfold Region.ready at hi;simp only[jY,fC,aF,ga] at hi;obtain⟨U,hnl,H⟩:=hi;have ho:z[i]? =some (z[i]'U):=qX U;refine⟨_,ho,U,?_,?_⟩
    .have hl':i<l.size:=by omega
     have:l[i]=false:=by simpa[Array.getD,hl'] using hnl
     simp[D,Array.getD,hl',this]
    .intro e he hb;simp only[ho,bW,sP] at H;have:=xL.1 H e (by simpa using he);simpa[hb,D] using this
   have OR:∀i,i<z.size->∀j,D (l.setIfInBounds i true) j↔(D l j\/j=i):=by
    intro i hi j;have hl':i<l.size:=by omega
    by_cases S:j<l.size
    .by_cases e:i=j
     .subst e;simp[D,Array.getD,S]
     .have e':j≠i:=λh=>e h.symm
      simp[D,Array.getD,S,e,e',Array.getElem_setIfInBounds]
    .have e':j≠i:=λh=>by subst h;exact S hl'
     have W:(l.setIfInBounds i true).getD j false=false:=by simp[Array.getD,S]
     have h2:l.getD j false=false:=by simp[Array.getD,S]
     simp only[D,W,h2,e',dV]
   refine⟨λEK=> ?_,λi hi=> ?_⟩
   ·
    cases fs with
    |nil=>have hx:x=WV:=I;subst hx;exact hQ _ _ _ _ R
    |cons p fs=>
     exfalso;have hp:=(G p.1).1 ah;have hlow:∀k,k<p.1->D l k:=λk hk=>mY λhn=>by
      have:=(G k).2 ⟨af,hn⟩;simp only[aK,aD] at this;rcases this with e|hk'
      .omega
      .obtain⟨q,hq,rfl⟩:=aA.1 hk';have:=(c9.1 K).1 q hq;omega
     have ho:z[p.1]? =some (z[p.1]'hp.1):=qX hp.1;have hs2:=Mv Uh p.1 (z[p.1]'hp.1) ah;have hl':p.1<l.size:=by omega
     have SY:p.1∈Region.ready .any z l:=by
      unfold Region.ready;simp only[jY,fC,aF,ga];refine⟨hp.1,?_,?_⟩
      .grind
      .simp only[ho,bW,sP];apply xL.2;intro e he;cases hb:Region.binds .any e with
       |false=>rfl
       |true=>have:=hlow e.on (by simpa using hs2 e (by simpa using he) hb);simpa[D] using this
     rw[EK] at SY;cases SY
   .obtain⟨o,ho,U,hnD,H⟩:=Us i hi;obtain⟨p,hpm,hpe⟩:=aA.1 ((G i).2 ⟨U,hnD⟩);obtain⟨pre,post,rfl⟩:=xM hpm;subst hpe;have hpre:∀q∈pre,q.2.conflict p.2=false:=λq hq=>by
     cases hc:q.2.conflict p.2 with
     |false=>rfl
     |true=>have hr:=(mZ.1 S4).2.2 q hq p ah hc;have:=Fo EJ 12 p.1 q.1 (λo' ho'=>by rw[ho] at ho';injection ho' with ho';subst ho';exact H) hr;exact absurd this ((G q.1).1 (by simp only[bw,bn];exact .inl (aA.2 ⟨q,hq,rfl⟩))).2
    obtain⟨s1,V,Uu,_⟩:=Ec.front (i:=p.1) (f:=p.2) pre x I hpre;have hnext:∀a' w' μ' O,Rel N w0 μ0 L μ' O s1 a' w'->wpAnyIn F 0 P .any z Q B (l.setIfInBounds p.1 true) a' w':=λa' w' μ' O V0=>by
     have hnp:∀q∈pre++post,q.1≠p.1:=λq hq e=>by
      rcases bn.1 hq with W|W
      .have:=(mZ.1 K).2.2 q W p (by simp);omega
      .have:=(c9.1 (mZ.1 K).2.1).1 q W;omega
     refine ih _ a' w' μ' O (pre++post) s1 (by simp[hsz]) (by simp at hle⊢;omega) (λj oj S hoj e he hb=> ?_) (λj=> ?_) (K.sublist ah) Uu (S4.sublist ah) V0
     .grind
     .rw[OR _ U];have:=G j;simp only[bw,aK,bn,aD] at this⊢;constructor
      .intro S;obtain⟨k1,k2⟩:=this.1 (S.elim .inl λh=> .inr (.inr h));refine⟨k1,λh=>h.elim k2 λe=> ?_⟩;subst e;rcases S with S|S<;>obtain⟨q,hq,e⟩:=aA.1 S<;>exact hnp q (by simp[hq]) e
      .rintro⟨k1,k2⟩;rcases this.2 ⟨k1,λh=>k2 (.inl h)⟩ with W|W|W
       .exact .inl W
       .exact absurd (.inr W) k2
       .exact .inr W
    have hdo :=hd o (by grind);unfold wpOpIn;simp[ho];simp[mD,ho] at V;split at V
    .rename_i hw;rw[uk R hw];exact Cu R uo hdo V hnext F hF
    .rename_i hw;injection V with V;subst V;rw[uk R hw];exact⟨λf _=>hF.fn f,hnext _ _ _ _ (R.set hdo (rfl))⟩
    simp_all
 have hnone:∀j,¬D (Array.replicate z.size false) j:=λj=>by by_cases S:j<z.size<;>simp[D,Array.getD]
 refine main _ _ a w _ _ _ _ ah (by simp[hl0]) (λj o S=>absurd S (hnone j)) (λj=> ?_) hs0 Uq hp0 (Rel.nH _ _ hR);simp_all
end
