/- THE ABSTRACT MACHINE. -/
import Derived.Test.YthppjmoncapdfaaGreatDoorAmRun
set_option linter.all false
namespace Go.AM
open Go.RowKit
section
variable {P:Program} {h:Hint} {cI:dX}
def kG {q l:St} {x:Operand} (w:∀t,x= .tmp t->q.env t=l.env t) (ty:TypeId):bz P ty q x=bz P ty l x:=by cases x with
 |tmp t=>exact w t rfl
 |_=>rfl
def Mb (P:Program) (q l:St) (x:Operand):Prop:=∀ty w,bz P ty q x=some w->∀id∈w.ids,q.ob id=l.ob id
def vE {q l:St} {v:SV} (z:∀id∈v.ids,q.ob id=l.ob id):elems q v=elems l v:=by cases v with
 |sub id s B w=>grind[elems,SV.ids]
 |row id=>grind[elems,SV.ids]
 |pv x=>cases x<;>rfl
 |_=>rfl
def Rf {q l:St} {v:SV} (w:∀id∈v.ids,q.ob id=l.ob id):lenOf q v=lenOf l v:=by cases v with
 |row id=>grind[lenOf,SV.ids]
 |pv x=>cases x<;>rfl
 |_=>rfl
def IS {q l:St} {v:SV} (w:∀id∈v.ids,q.ob id=l.ob id):maps q v=maps l v:=by cases v with
 |row id=>grind[maps,SV.ids]
 |pv x=>cases x<;>rfl
 |_=>rfl
def Uq {z l:St} {v:SV} (B:∀id∈v.ids,z.ob id=l.ob id):mh z v=mh l v:=by cases v with
 |row id=>grind[mh,SV.ids]
 |ag w=>
  have key:∀w:List _,(∀id∈(SV.ag w).ids,z.ob id=l.ob id)->jU z w=jU l w:=by intro w;induction w with
   |nil=>intro _;rfl
   |cons c w D=>grind[SV.ids,jU]
  simp[mh,key _ B]
 |aq id q=>cases q with
  |full=>rfl
  |nr i=>grind[mh,SV.ids]
 |_=>rfl
def KN {st st':St} {xs:List Operand} {ts:List TypeId} (l:∀x∈xs,Mb P st st' x) (w:∀x∈xs,∀ty,bz P ty st x=bz P ty st' x):jx P st xs ts=jx P st' xs ts:=by induction xs generalizing ts with
 |nil=>rfl
 |cons x xs B=>
  have z:(bz P (ts.headD 0) st x).bind (mh st)=(bz P (ts.headD 0) st' x).bind (mh st'):=by rw[<-w x ah];cases q:bz P _ _ x with
   |none=>rfl
   |some D=>exact Uq (l x ah _ _ q)
  simp_all[jx]
def An {st st':St} {b:Bool}:∀{xs:List Operand} {ts:List TypeId},(∀x∈xs,∀ty,bz P ty st x=bz P ty st' x)->rF P b st xs ts=rF P b st' xs ts
 |[],_,_=>rfl
 |x::xs,ts,l=>by simp[rF,NK];rw[l x ah,An (λy q=>l y (by simp[q]))]
theorem sL {w q:St} {ty:Nat->TypeId} {l:List (Nat×Operand)} (z:∀x∈l.map (·.2),∀t,bz P t w x=bz P t q x):partsOf P ty w l=partsOf P ty q l:=by induction l with
 |nil=>rfl
 |cons p l B=>simp_all[partsOf]
theorem y8 {z w:St} {b:Bool} {q:AV} {l:List Operand} (B:∀x∈l,∀t,bz P t z x=bz P t w x):mj P z b q l=mj P w b q l:=by induction l generalizing q with
 |nil=>rfl
 |cons x l D=>simp_all[mj]
def RE {B l:St} {c:Call} (q:∀x∈c.args.toList,Mb P B l x) (G:∀x∈c.args.toList,∀ty,bz P ty B x=bz P ty l x):xb P c B=xb P c l:=by
 obtain⟨H,⟨args⟩,tys⟩:=c;unfold xb;simp at G q⊢;split
 .rename_i x;have z:=G x ah;have w:=q x ah;split
  .rename_i t _;rw[<-z t];cases F:bz P t _ x with
   |none=>simp
   |some I=>have:=Rf (w t _ F);have D:=IS (w t _ F);grind
  .rfl
 .grind[y8]
 .grind[y8]
 .rfl
def BH {st st':St} {x:Option Operand} (l:∀y,x=some y->∀ty,bz P ty st y=bz P ty st' y):nh P st x=nh P st' x:=by cases x with
 |none=>rfl
 |some y=>simp[nh,l y _]
def UR {st st':St} {o:Oper} (z:Rt o.op=false->∀x∈o.op.operands.toList,Mb P st st' x) (q:∀x∈o.op.operands.toList,∀ty,bz P ty st x=bz P ty st' x):eY P o st=eY P o st':=by obtain⟨V,op,type,pos,after,guard⟩:=o;simp only at q;cases op with
 |move x=>simp_all[Op.operands,eY]
 |assign x=>simp_all[Op.operands,eY]
 |pick c a b=>simp_all[Op.operands,eY]
 |binOp op t x y t'=>simp_all[Op.operands,eY]
 |unOp op t x=>simp_all[Op.operands,eY]
 |convert s d x=>
  have w:=q x (by simp[Op.operands]);have D:=z rfl x (by simp[Op.operands]) s;have he:(bz P s st x).bind (elems st)=(bz P s st' x).bind (elems st'):=by rw[<-w s];cases B:bz P s st x with
   |none=>rfl
   |some G=>exact vE (D _ B)
  simp only[eY,w 0,he]
 |nilCheck x=>simp_all[Op.operands,eY]
 |fieldAddr t x f=>simp_all[Op.operands,eY]
 |field t x f=>simp_all[Op.operands,eY]
 |indexAddr t x i=>
  have w:=q x (by simp[Op.operands]);have O:=q i (by simp[Op.operands]);have D:=z rfl x (by simp[Op.operands]) t;have FR:wS P st t x i=wS P st' t x i:=by unfold wS;rw[<-w t,<-O 0];cases B:bz P t st x with
   |none=>simp
   |some G=>have F:=D _ B;grind[isSlice,id,bz,SV.ids]
  simp_all[B8,eY]
 |index t x i=>simp_all[Op.operands,eY]
 |load t x=>have w:=q x (by simp[Op.operands]);have D:=z rfl x (by simp[Op.operands]) 0;simp only[eY];rw[<-w 0];cases B:bz P 0 st x with
  |none=>rfl
  |some G=>have F:=D _ B;grind[id,SV.ids]
 |lookup t x k ok=>
  have w:=q x (by simp[Op.operands]);have hk:=q k (by simp[Op.operands]);have D:=z rfl x (by simp[Op.operands]) t;have K:(bz P t st x).bind (maps st)=(bz P t st' x).bind (maps st'):=by rw[<-w t];cases B:bz P t st x with
   |none=>rfl
   |some G=>exact IS (D _ B)
  have I:(bz P t st x).bind (FW st)=(bz P t st' x).bind (FW st'):=by rw[<-w t];cases B:bz P t st x with
   |none=>rfl
   |some G=>have:=D _ B;cases G with
    |row id=>grind[FW,id,SV.ids]
    |_=>rfl
  simp only[eY,K,hk,I]
 |extract x i=>simp_all[Op.operands,eY]
 |slice t x U S mx=>cases mx with
  |some m=>simp only[eY,VO];cases U with
   |some l=>rfl
   |none=>cases S with
    |none=>rfl
    |some y=>have w:=q x (by simp[Op.operands]);have O:=q y (by simp[Op.operands]);have K:=q m (by simp[Op.operands]);have D:=z rfl x (by simp[Op.operands]) t;simp only;rw[<-O 0,<-K 0,<-w t];cases B:bz P t st x with
     |none=>rfl
     |some G=>have F:=D _ B;grind[id,SV.ids]
  |none=>have w:=q x (by simp[Op.operands]);have hl:=BH (P:=P) (st:=st) (st':=st') (x:=U) (λy e=>by simp_all[Op.operands]);have hh:=BH (P:=P) (st:=st) (st':=st') (x:=S) (λy e=>by simp_all[Op.operands]);have D:=z rfl x (by simp[Op.operands]) t;simp[eY];rw[<-w t];cases B:bz P t _ x with
   |none=>simp
   |some G=>have F:=D _ B;grind[SV.ids]
 |build t R=>grind[sL,Op.operands,eY,yj]
 |call c=>
  have H:∀x∈c.args.toList,x∈(Op.call c).operands.toList:=λx w=>by simp_all[Op.operands,Call.operands]
  have:=RE (λx w=>z rfl x (H x w)) (λx w=>q x (H x w));assumption
 |_=>simp[eY]
def uD {D:St}:∀{l:List Operand} {x:Operand} {ty:TypeId} {B:SV} {id:Nat},x∈l->bz P ty D x=some B->id∈B.ids->id∈Lq D l:=by intro l;induction l with
 |nil=>simp
 |cons y l F=>
  intro x ty B id z w q;rcases aG.1 z with rfl|z
  .cases x with
   |tmp t=>simp_all[bz,Lq]
   |const v=>simp[bz] at w;cases G:ofConst P ty v with
    |none=>simp_all
    |some y=>grind[SV.ids]
   |func f=>grind[bz,SV.ids]
   |global g=>simp[bz] at w
  .have:=F z w q;cases y with
   |tmp t=>simp_all[Lq]
   |_=>assumption
def wk (q:St):∀(n:Nat) (l done:List Nat),∀id∈done,id∈kB q n l done
 |0,l,done,id,h=>by assumption
 |n+1,[],done,id,h=>by assumption
 |n+1,x::l,done,id,h=>by simp only[kB];cases done.contains x with
  |true=>exact wk _ n _ _ _ h
  |false=>exact wk _ n _ _ _ (by simp[h])
def rj {w q:St}:∀(n:Nat) (l done:List Nat),(∀id∈kB w n l done,w.ob id=q.ob id)->kB w n l done=kB q n l done
 |0,l,done,h=>by rfl
 |n+1,[],done,h=>by rfl
 |n+1,x::l,done,h=>by simp only[kB] at h⊢;cases z:done.contains x with
  |true=>rw[z] at h;exact rj n _ _ h
  |false=>
   rw[z] at h;have D :=h x (wk _ n _ _ x ah);have B:GX w x=GX q x:=by simp[GX,D]
   rw[<-B];exact rj n _ _ h
def wv {z w:St} {ids:List Nat} {B:Nat->Nat}:∀{l:List (Nat×Nat)},(∀p∈l,z.ob p.1=w.ob p.1)->lE z ids B l=lE w ids B l
 |[],_=>rfl
 |p::l,h=>by obtain⟨id,F⟩:=p;simp[lE];rw[h (id,F) ah,wv (λq D=>h q (by simp[D]))]
def yg {z l:St}:∀{xs:List Operand} {q:List TypeId},(∀x∈xs,∀ty,bz P ty z x=bz P ty l x)->tD P h z xs q=tD P h l xs q
 |[],q,_=>rfl
 |x::xs,q,w=>by simp[tD,Zs];rw[w x ah,yg (λy B=>w y (by simp[B]))]
def Mk {st st':St} {c:Call} {f:Operand} (D:bz P 0 st f=bz P 0 st' f) (B:∀x∈c.args.toList,∀ty,bz P ty st x=bz P ty st' x)
  (l:∀g args,tK P h st c f=some (g,args)->∀id∈kM st args,st.ob id=st'.ob id):r8 P h cI st c f=r8 P h cI st' c f:=by
 have e1:tK P h st c f=tK P h st' c f:=by unfold tK;rw[D,yg B]
 unfold r8;rw[<-e1];cases G:tK P h _ c f with
 |none=>rfl
 |some p=>
  obtain⟨g,args⟩:=p;simp only;have q:=l g _ G;have w:kM _ _=kM _ _:=rj _ _ _ q;rw[<-w];have z:lE _ (kM st args) (qI (jA (kM st args))) (jA (kM st args))=lE _ _ _ _:=
   wv (λp F=>q _ (by
    have:p.1∈(jA _).map _:=aD.2 ⟨p,F,rfl⟩
    simp_all[jA,tf]))
  rw[z]
def TG {st st':St} {o:Oper} (F:Rt o.op=false->∀id∈BG st o,st.ob id=st'.ob id) (K:∀id∈Jv P h o st,st.ob id=st'.ob id) (D:∀t∈slotsOf o,st.env t=st'.env t):ew P h cI o st=ew P h cI o st':=by
 have H:Rt o.op=false->∀x∈o.op.operands.toList,Mb P st st' x:=λhn x B ty sv ho id R=>F hn id (uD B ho R)
 have w:∀x∈o.op.operands.toList,∀ty,bz P ty st x=bz P ty st' x:=λx B ty=>kG (λt e=>D t (by
  subst e
  exact fo.2 ⟨.tmp t,B,rfl⟩)) ty
 have G:=UR (P:=P) (o:=o) H w;obtain⟨O,op,type,pos,after,guard⟩:=o;simp only at w;cases op with
 |buildSlice t len I=>
  have hp:∀ty,partsOf P ty st I.toList=partsOf P ty st' I.toList:=λty=>sL (λx B=>w x (by simpa[Op.operands] using B))
  simp[ew,kD,hp]
 |call c=>obtain⟨V,⟨args⟩,⟨tys⟩⟩:=c;cases V with
  |value f=>
   have q:∀x∈args,x∈(Op.call { callee:=Callee.value f,args:=⟨args⟩,argTypes:=⟨tys⟩ }).operands.toList:=λx B=>by simp_all[Op.operands,Call.operands,jl,bw]
   have hf:=w f (by simp[Op.operands,Call.operands]);have ha:=KN (P:=P) (st:=st) (st':=st') (xs:=args) (ts:=tys) (λx B=>H rfl x (q x B)) (λx B=>w x (q x B));have hr:args.any (kK st)=args.any (kK st'):=by
    have key:∀x∈args,kK st x=kK st' x:=λx B=>by cases x with
     |tmp t=>have:=w (.tmp t) (q _ B) 0;simp_all[bz,kK]
     |_=>rfl
    clear ha q w G D H F K;induction args with
    |nil=>rfl
    |cons x xs U=>simp_all
   have S:args.any (λx=>(ou h st x).isSome)=args.any (λx=>(ou h st' x).isSome):=by
    have key:∀x∈args,ou h st x=ou h st' x:=λx B=>by cases x with
     |tmp t=>have:=w (.tmp t) (q _ B) 0;simp_all[bz,ou]
     |_=>rfl
    clear ha q w G D hr H F K;induction args with
    |nil=>rfl
    |cons x xs U=>simp_all
   have hwide:wide st { callee:=Callee.value f,args:=⟨args⟩,argTypes:=⟨tys⟩ } f=wide st' { callee:=Callee.value f,args:=⟨args⟩,argTypes:=⟨tys⟩ } f:=by
    have kf:TT st f=TT st' f:=by cases f with
     |tmp t=>simp_all[bz,TT]
     |_=>rfl
    have key:∀x∈args,DJ st x=DJ st' x:=λx B=>by cases x with
     |tmp t=>have:=w (.tmp t) (q _ B) 0;simp_all[bz,DJ]
     |_=>rfl
    have kk:args.any (DJ st)=args.any (DJ st'):=by clear ha q w G D hr H F S K;induction args with
     |nil=>rfl
     |cons x xs U=>simp_all
    simp only[wide,kf,kk]
   cases how:O.any h.owns.contains with
   |true=>simp[ew,how]
   |false=>
   cases hst:O.any h.stay.contains with
   |false=>simp_all[ew]
   |true=>
    have hc:=Mk (P:=P) (h:=h) (cI:=cI) (st:=st) (st':=st') (c:={ callee:=Callee.value f,args:=⟨args⟩,argTypes:=⟨tys⟩ }) (f:=f) (hf 0) (λx B=>w x (q x B)) (λg as hg id R=>K id (by simp_all[Jv,ai]));simp_all[ew]
  |_=>assumption
 |makeFunc f first z=>cases f with
  |func g=>
   have hc:tE st z.toList=tE st' z.toList:=by
    have key:∀x∈z.toList,∀ty,bz P ty st x=bz P ty st' x:=λx B=>w x (by simp_all[Op.operands,jl,bw])
    clear w G D H F;generalize z.toList=l at key;induction l with
    |nil=>rfl
    |cons x xs U=>cases x with
     |tmp t=>simp_all[bz,tE]
     |_=>rfl
   have hc2:qi st z.toList=qi st' z.toList:=by
    have key:∀x∈z.toList,∀ty,bz P _ _ x=bz P _ _ x:=λx B=>w x (by simp_all[Op.operands])
    generalize z.toList=l at key;induction l with
    |nil=>rfl
    |cons x xs U=>cases x with
     |tmp t=>simp_all[bz,qi]
     |_=>rfl
   have hc3:qi st first.toList=qi st' first.toList:=by
    have key:∀x∈first.toList,∀ty,bz P _ _ x=bz P _ _ x:=λx B=>w x (by simp_all[Op.operands])
    generalize first.toList=l at key
    induction l with
    |nil=>rfl
    |cons x xs U=>cases x with
     |tmp t=>simp_all[bz,qi]
     |_=>rfl
   simp[ew,hc,hc2,hc3]
  |_=>rfl
 |assign x=>simp[ew,G]
 |lookup t x k ok=>simp[ew,G]
 |build t ps=>grind[sL,Op.operands,ew,yj]
 |load t x=>simp[ew,G]
 |_=>assumption
def yX {z q:St} {l:Array Oper} {o:Oper} (w:∀t∈gG l o,z.env t=q.env t):pG l o z=pG l o q:=by grind[pG,gG]
theorem Yl {a b:List Nat} {x:Nat} (l:x∈a) (q:x∈b):meets a b=true:=by simp[meets];grind[Nat.beq_refl]
def KX {t:TypeId} {s D:St} {F w:SV} {id:Nat} (l:storeAt P t s F w=some D) (z:targetId F=some id):
  D.env=s.env/\(∀j,j≠id->D.ob j=s.ob j)/\∀x:St,x.ob id=s.ob id->(∀j∈w.ids,x.ob j=s.ob j)->storeAt P t x F w=some { x with ob:=put x.ob id (D.ob id) }:=by
 have H:∀x:St,(∀j∈w.ids,x.ob j=s.ob j)->rB x w=rB s w:=λx B=>by cases w with
  |row j=>simp_all[rB,SV.ids]
  |pv v=>cases v<;>rfl
  |_=>rfl
 cases F with
 |ptr i G=>
  simp[targetId,aN] at z;subst z;simp[storeAt] at l;split at l
  .split at l
   .split at l
    .injection l with l;subst l;refine⟨rfl,λj q=>bu _ _ (λe=>q e.symm),λx B _=> ?_⟩;simp_all[storeAt,cu]
    simp_all
   .split at l
    .injection l with l;subst l;refine⟨rfl,λj q=>bu _ _ (λe=>q e.symm),λx B _=> ?_⟩;simp_all[storeAt,cu]
    simp_all
   .split at l
    .injection l with l;subst l;refine⟨rfl,λj q=>bu _ _ (λe=>q e.symm),λx B I=> ?_⟩;simp[storeAt,cu];simp_all
    simp_all
  simp_all
 |rp i K k G=>
  simp[targetId,aN] at z;subst z;simp[storeAt] at l;split at l
  .split at l
   .split at l
    .injection l with l;subst l;refine⟨rfl,λj q=>bu _ _ (λe=>q e.symm),λx B _=> ?_⟩;simp_all[storeAt,cu]
    simp_all
   simp_all
  simp_all
 |_=>simp[targetId] at z
theorem yE {id:Nat} {v:SV} (h:v.mentions id=true):id∈v.ids:=by
 have l:∀w:List _,w.any (pY.mentions id)=true->id∈w.filterMap (fun
  | .p j| .r j=>some j
  | .v _=>none):=λw F=>by
  grind[pY.mentions,beq_iff]
 induction v with
 |two s b B=>exact B h
 |ptr j z=>simp[SV.ids,bX];exact(beq_iff.1 h).symm
 |row j=>simp[SV.ids,bX];exact(beq_iff.1 h).symm
 |rp j D i z=>simp[SV.ids,bX];exact(beq_iff.1 h).symm
 |sub j D H G=>simp[SV.ids,bX];exact(beq_iff.1 h).symm
 |cl f w=>exact l _ h
 |ag w=>exact l _ h
 |aq j q=>simp[SV.mentions] at h;simp[SV.ids];grind[beq_iff]
 |_=>simp[SV.mentions] at h
def St.same {x y:St} (l:∀t,x.env t=y.env t) (q:∀t,x.ob t=y.ob t):x=y:=by obtain⟨z,B⟩:=x;have e1 :=funext l;have w :=funext q;simp_all
def Yn (p:Nat×Option AV) (v:SV):SV:=match p.2 with
 |none=>v.dG p.1
 |some a=>SV.dL p.1 a v
def kE (l:List (Nat×Option AV)) (v:SV):SV:=l.foldl (λv p=>Yn p v) v
def Ob.Aa (g:SV->SV):Ob->Ob
 | .box t cells=> .box t (cells.map g)
 |o=>o
def fJ (f:gi) (q:Nat->Option SV) (w:Nat->Option Ob) (l:List (Nat×Option AV)) (x:St):St:=
 {env:=λt=>if t∈f.ws then q t else(x.env t).map (kE l),ob:=λj=>if j∈f.wo then w j else(x.ob j).map (Ob.Aa (kE l)) }
def Nn (p:Nat×Option AV) (v:SV):∃c:SV,(∀id,c.mentions id=false)/\Yn p v=(bif v.mentions p.1 then c else v)/\((∀j,v≠ .row j)->c= .any):=by obtain⟨id,x⟩:=p;cases x with
 |none=>exact⟨_,λ_=>rfl,rfl,λ_=>rfl⟩
 |some a=>cases v with
  |row j=>exact⟨_,λ_=>rfl,rfl,λh=>absurd rfl (h j)⟩
  |_=>exact⟨_,λ_=>rfl,rfl,λ_=>rfl⟩
def Np {p:Nat×Option AV} {v:SV} (h:v.mentions p.1=false):Yn p v=v:=by obtain⟨c,_,e,_⟩:=Nn p v;simp_all
def mv1_sub {p:Nat×Option AV} {v:SV} {j:Nat} (h:(Yn p v).mentions j=true):v.mentions j=true:=by obtain⟨c,l,e,_⟩:=Nn p v;grind
theorem acK {p q:Nat×Option AV} (w:p.1≠q.1) (v:SV):Yn p (Yn q v)=Yn q (Yn p v):=by obtain⟨c,F,e,k⟩:=Nn p v;obtain⟨c',l,D,k'⟩:=Nn q v;cases B:v.mentions p.1 with
 |false=>cases z:v.mentions q.1 with
  |false=>simp_all
  |true=>simp_all[Np]
 |true=>rw[e,B,ai,Np (F _)];cases z:v.mentions q.1 with
  |false=>simp_all
  |true=>
   rw[D,z,ai,Np (l _)];have H:∀j,v≠ .row j:=λj G=>by subst G;exact w ((beq_iff.1 B).symm.trans (beq_iff.1 z))
   simp_all
def wZ:∀{l:List (Nat×Option AV)} {v:SV},(∀p∈l,v.mentions p.1=false)->kE l v=v
 |[],v,_=>rfl
 |p::l,v,h=>by show kE l (Yn p v)=v;rw[Np (h p ah)];exact wZ λq w=>h q (by simp[w])
theorem E0:∀{l:List (Nat×Option AV)} {v:SV} {j:Nat},(kE l v).mentions j=true->v.mentions j=true
 |[],v,j,h=>h
 |p::l,v,j,h=>mv1_sub (E0 h)
def Ym {l:List (Nat×Option AV)} {p:Nat×Option AV}:∀{v:SV},(∀q∈l,p.1≠q.1)->kE l (Yn p v)=Yn p (kE l v):=by induction l with
 |nil=>intro v _;rfl
 |cons q l w=>intro v h;show kE l _=Yn p (kE l _);grind[acK]
theorem Ce:∀{l m:List (Nat×Option AV)} (v:SV),(∀p∈l,∀q∈m,p.1≠q.1)->kE l (kE m v)=kE m (kE l v)
 |[],m,v,_=>rfl
 |p::l,m,v,h=>by show kE l (Yn p _)=kE m (kE l _);rw[<-Ym (h p ah),Ce _ λr w=>h r (by simp[w])]
def mapS_id {g:SV->SV} {o:Ob} (h:∀v,(∀id,v.mentions id=true->o.mentions id=true)->g v=v):o.Aa g=o:=by cases o with
 |box t cells=>simp[Ob.Aa];congr 1;refine(gT λc l=>h c λid q=> ?_).trans (jX _);grind[Ob.mentions]
 |_=>rfl
def uZ {l:List (Nat×Option AV)} {o:Ob} (h:∀p∈l,o.mentions p.1=false):o.Aa (kE l)=o:=
 mapS_id λv w=>wZ λp q=>by grind
def acy {l:List (Nat×Option AV)} {o:Ob} {j:Nat} (h:(o.Aa (kE l)).mentions j=true):o.mentions j=true:=by cases o with
 |box t cells=>grind[Ob.Aa,Ob.mentions,E0]
 |_=>exact h
theorem Yk {l m:List (Nat×Option AV)} (o:Ob) (h:∀p∈l,∀q∈m,p.1≠q.1):(o.Aa (kE m)).Aa (kE l)=(o.Aa (kE l)).Aa (kE m):=by cases o with
 |box t cells=>simp[Ob.Aa,eV];grind[List.map_congr_left,Ce]
 |_=>rfl
def DO (o:Ob):o.Aa (kE [])=o:=uZ λp l=>by cases l
structure Hz (sf:St->Option St) (s:St) (f:gi) (ev:Nat->Option SV) (ov:Nat->Option Ob) (l:List (Nat×Option AV)):Prop where
 keys:∀p∈l,p.1∈f.mv
 run:∀x:St,(∀t∈f.rs,x.env t=s.env t)->(∀j∈f.ro,x.ob j=s.ob j)->(∀j∈f.rl,(x.ob j).map Ob.tv=(s.ob j).map Ob.tv)->sf x=some (fJ f ev ov l x)
 len:∀j∈f.wo,f.kp j=true->(ov j).map Ob.tv=(s.ob j).map Ob.tv
 acM:∀t∈f.ws,∀v id,ev t=some v->v.mentions id=true->id∈f.men
 acN:∀j∈f.wo,∀o id,ov j=some o->o.mentions id=true->id∈f.men
 mvm:∀id∈f.mv,id∈f.men
structure PB (s:St) (f:gi):Prop where
 inE:∀t∈f.rs,∀v id,s.env t=some v->v.mentions id=true->id∈f.men
 inO:∀j∈f.ro,∀o id,s.ob j=some o->o.mentions id=true->id∈f.men
 we:∀t v id,s.env t=some v->id∈f.mv->v.mentions id=true->f.we t=true
 oe:∀j o id,s.ob j=some o->id∈f.mv->o.mentions id=true->f.oe j=true
def iX {a b:List Nat} {x y:Nat} (h:meets a b=false) (l:x∈a) (q:y∈b):x≠y:=λe=>by grind[Yl]
def LU (g:SV->SV) (o:Ob):(o.Aa g).tv=o.tv:=by cases o<;>rfl
def skN {f:gi} {q:Nat->Option SV} {w:Nat->Option Ob} {l:List (Nat×Option AV)} {x:St} {j:Nat} (h:¬j∈f.wo):((fJ f q w l x).ob j).map Ob.tv=(x.ob j).map Ob.tv:=by simp[fJ,au h];cases x.ob j with
 |none=>rfl
 |some o=>simp[LU]
def skO {f:gi} {w:Nat->Option SV} {q:Nat->Option Ob} {l:List (Nat×Option AV)} {x:St} {j:Nat} (h:j∈f.wo):(fJ f w q l x).ob j=q j:=by simp[fJ,az h]
def rl_kp {r w:List Nat} {k:Nat->Bool} {j:Nat} (h:(r.any λj=>w.contains j&& !(k j))=false) (l:j∈r) (q:j∈w):k j=true:=by simp_all
def swapFx {sp si:St->Option St} {s:St} {B G:gi} {U R:Nat->Option SV} {op S:Nat->Option Ob} {lp li:List (Nat×Option AV)} (K:Hz sp s B U op lp) (H:PB s B) (I:Hz si (fJ B U op lp s) G R S li) (hc:B.conflict G=false):
  Hz si s G R S li/\Hz sp (fJ G R S li s) B U op lp/\PB (fJ G R S li s) B/\fJ B U op lp (fJ G R S li s)=fJ G R S li (fJ B U op lp s):=by
 unfold gi.conflict at hc;simp only[mF] at hc;obtain⟨⟨⟨⟨⟨⟨⟨⟨⟨⟨⟨⟨⟨_,_⟩,d1⟩,d2⟩,d3⟩,d4⟩,d5⟩,d6⟩,d7⟩,d8⟩,d9⟩,d10⟩,d11⟩,d12⟩:=hc;have w9:∀t∈G.rs,B.we t=false:=λt l=>by simp_all
 have w10:∀t∈G.ro,B.oe t=false:=λt l=>by simp_all
 have aE:∀t∈G.rs,(fJ B U op lp s).env t=s.env t:=λt l=>by simp only[fJ];rw[au λh=>iX d1 h l rfl];cases e:s.env t with
  |none=>rfl
  |some v=>simp only[cR];rw[wZ λp F=> ?_];cases w:v.mentions p.1 with
   |false=>rfl
   |true=>have:=H.we t v p.1 e (K.keys p F) w;simp_all
 have aO:∀t∈G.ro,(fJ B U op lp s).ob t=s.ob t:=λt l=>by simp only[fJ];rw[au λh=>iX d4 h l rfl];cases e:s.ob t with
  |none=>rfl
  |some v=>simp only[cR];rw[uZ λp F=> ?_];cases w:v.mentions p.1 with
   |false=>rfl
   |true=>have:=H.oe t v p.1 e (K.keys p F) w;simp_all
 have bE:∀t∈B.rs,(fJ G R S li s).env t=s.env t:=λt l=>by simp only[fJ];rw[au λh=>iX d2 l h rfl];cases e:s.env t with
  |none=>rfl
  |some v=>simp only[cR];rw[wZ λp F=> ?_];cases w:v.mentions p.1 with
   |false=>rfl
   |true=>exact absurd rfl (iX d8 (I.keys p F) (H.inE t l v p.1 e w))
 have bO:∀t∈B.ro,(fJ G R S li s).ob t=s.ob t:=λt l=>by simp only[fJ];rw[au λh=>iX d5 l h rfl];cases e:s.ob t with
  |none=>rfl
  |some v=>simp only[cR];rw[uZ λp F=> ?_];cases w:v.mentions p.1 with
   |false=>rfl
   |true=>exact absurd rfl (iX d8 (I.keys p F) (H.inO t l v p.1 e w))
 have nO:∀t∈B.wo,¬t∈G.wo:=λt D z=>iX d6 D z rfl
 have aL:∀t∈G.rl,((fJ _ U op lp s).ob t).map _=(s.ob t).map _:=λt l=>by
  by_cases h:t∈B.wo
  .rw[skO h];exact K.len t h (rl_kp d11 l h)
  .exact skN h
 have bK :=λt l hk=>(I.len t l hk).trans (skN λh=>nO t h l)
 have bL:∀t∈B.rl,((fJ _ R S li s).ob t).map Ob.tv=(s.ob t).map Ob.tv:=λt l=>by
  by_cases h:t∈G.wo
  .rw[skO h];simp_all
  .exact skN h
 have hk :=λp F q V=>iX d7 (K.keys p F) (I.mvm _ (I.keys q V))
 refine⟨⟨I.keys,λx D z h3=>I.run x (λt l=>(D t l).trans (aE t l).symm) (λt l=>(z t l).trans (aO t l).symm) (λt l=>(h3 t l).trans (aL t l).symm),bK,I.acM,I.acN,I.mvm⟩,
  ⟨K.keys,λx D z h3=>K.run x (λt l=>(D t l).trans (bE t l)) (λt l=>(z t l).trans (bO t l)) (λt l=>(h3 t l).trans (bL t l)),λt l hk=>(K.len t l hk).trans (skN (nO t l)).symm,K.acM,K.acN,K.mvm⟩,
  ⟨λt l v id e w=>H.inE t l v _ ((bE t l).symm.trans e) w,λt l v id e w=>H.inO t l v _ ((bO t l).symm.trans e) w,λt v id e O w=> ?_,λt v id e O w=> ?_⟩,?_⟩
 .simp[fJ] at e;split at e
  .rename_i l;exact absurd rfl (iX d7 O (I.acM t l v _ e w))
  .cases e0:s.env t with
   |none=>simp_all
   |some v0=>rw[e0] at e;simp at e;subst e;exact H.we t _ _ e0 O (E0 w)
 .simp[fJ] at e;split at e
  .rename_i l;exact absurd rfl (iX d7 O (I.acN t l v _ e w))
  .cases e0:s.ob t with
   |none=>simp_all
   |some v0=>rw[e0] at e;simp at e;subst e;exact H.oe t _ _ e0 O (acy w)
 .simp[fJ,St.mk.injEq];constructor
  .funext t;by_cases D:t∈B.ws
   .rw[az D,au λz=>iX d3 D z rfl];rw[az D];cases e:U t with
    |none=>rfl
    |some v=>simp;rw[wZ λq V=> ?_];cases w:v.mentions _ with
     |false=>rfl
     |true=>exact absurd rfl (iX d8 (I.keys q V) (K.acM t D v _ e w))
   .rw[au D];by_cases z:t∈G.ws
    .rw[az z,az z];cases e:R t with
     |none=>rfl
     |some v=>simp;rw[wZ λq V=> ?_];cases w:v.mentions _ with
      |false=>rfl
      |true=>exact absurd rfl (iX d7 (K.keys q V) (I.acM t z v _ e w))
    .rw[au z,au z,au D];cases s.env t with
     |none=>rfl
     |some v=>grind[Ce]
  .funext t;by_cases D:t∈B.wo
   .rw[az D,au λz=>iX d6 D z rfl];rw[az D];cases e:op t with
    |none=>rfl
    |some v=>simp;rw[uZ λq V=> ?_];cases w:v.mentions _ with
     |false=>rfl
     |true=>exact absurd rfl (iX d8 (I.keys q V) (K.acN t D v _ e w))
   .rw[au D];by_cases z:t∈G.wo
    .rw[az z,az z];cases e:S t with
     |none=>rfl
     |some v=>simp;rw[uZ λq V=> ?_];cases w:v.mentions _ with
      |false=>rfl
      |true=>exact absurd rfl (iX d7 (K.keys q V) (I.acN t z v _ e w))
    .rw[au z,au z,au D];cases s.ob t with
     |none=>rfl
     |some v=>grind[Yk]
def Ma (w:Nat->St->Option St):List (Nat×gi)->St->St->Prop
 |[],s,q=>s=q
 |p::l,s,q=>∃z,w p.1 s=some z/\(p.2.all=false->∃B D m,Hz (w p.1) s p.2 B D m/\PB s p.2)/\Ma w l z q
def ZS {a b:gi} (h:a.conflict b=false):a.all=false/\b.all=false:=by simp_all[gi.conflict]
def Ma.front {w:Nat->St->Option St} {i:Nat} {f:gi} {post:List (Nat×gi)} {U:St}:∀(pre:List (Nat×gi)) (s:St),Ma w (pre++(i,f)::post) s U->(∀p∈pre,p.2.conflict f=false)->
  ∃s1,w i s=some s1/\Ma w (pre++post) s1 U/\(f.all=false->∃ev ov m,Hz (w i) s f ev ov m)
 |[],s,⟨S,z,F,B⟩,_=>⟨S,z,B,λG=>by simp_all⟩
 |p::pre,s,⟨S,z,F,B⟩,H=>by
  have l:=H p ah;obtain⟨G,hb⟩:=ZS l;obtain⟨ep,op,lp,K,D⟩:=F G;obtain⟨s1,k1,k2,k3⟩:=Ma.front _ _ B λq hq=>H q (by simp[hq])
  obtain⟨ei,oi,li,I⟩:=k3 hb;have e1 :=by have:=K.run s (λ_ _=>rfl) (λ_ _=>rfl) (λ_ _=>rfl);rw[z] at this;injection this
  subst e1;obtain⟨O,R,r3,r4⟩:=swapFx K D I l;have V :=by have:=I.run _ (λ_ _=>rfl) (λ_ _=>rfl) (λ_ _=>rfl);rw[k1] at this;injection this
  refine⟨_,O.run s (λ_ _=>rfl) (λ_ _=>rfl) (λ_ _=>rfl),⟨s1,?_,λ_=>⟨ep,op,lp,R,r3⟩,k2⟩,λ_=>⟨ei,oi,li,O⟩⟩;rw[R.run _ (λ_ _=>rfl) (λ_ _=>rfl) (λ_ _=>rfl),r4,V]
def qo (P:Program) (h:Hint) (cI:dX) (l:Array Oper) (k:Nat) (q:St):Option St:=
 match l[k]? with
 |some o=>match pG l o q with
  |some true=>step P h cI o q
  |some false=>some (q.set o.dst .undef)
  |none=>none
 |none=>none
def any_ids {id:Nat} {cells:List SV} (h:cells.any (SV.mentions id)=true):id∈cells.flatMap SV.ids:=by grind[yE]
theorem acX {id:Nat} {o:Ob} (h:o.mentions id=true):id∈o.ids:=by cases o with
 |box t cells=>exact any_ids h
 |_=>cases h
def MD {G:St->Option St} {s D:St} {f:gi} {l:List (Nat×Option AV)} (K:∀p∈l,p.1∈f.mv) (B:∀x:St,(∀t∈f.rs,x.env t=s.env t)->(∀j∈f.ro,x.ob j=s.ob j)->(∀j∈f.rl,(x.ob j).map Ob.tv=(s.ob j).map Ob.tv)->G x=some (fJ f D.env D.ob l x))
  (w:∀j∈f.wo,f.kp j=true->(D.ob j).map Ob.tv=(s.ob j).map Ob.tv):
  ∃H O m,Hz G s (f.fill s D) H O m/\PB s (f.fill s D):=by
 have mem:∀{id:Nat} {g:Nat->List _} {l:List _} {t:Nat},t∈l->id∈g t->id∈l.flatMap g:=λF h=>List.mem_flatMap.2 ⟨_,F,h⟩
 refine⟨_,_,l,⟨K,B,w,λt F v id e z=> ?_,λj I o id e z=> ?_,λid q=> ?_⟩,⟨λt F v id e z=> ?_,λj I o id e z=> ?_,λt v id e q z=> ?_,λj o id e q z=> ?_⟩⟩
 .grind[gi.fill,My,yE]
 .grind[gi.fill,WK,acX]
 .simp_all[gi.fill]
 .grind[gi.fill,My,yE]
 .grind[gi.fill,WK,acX]
 .grind[gi.fill]
 grind[gi.fill]
def jy {l:Type} {x:Option l} {g:l->l} (h:∀v,g v=v):x.map g=x:=by cases x<;>simp[h]
def adf {f:gi} {s x:St} {d:Option Nat} {v:SV} (l:f.ws=d.toList) (q:f.wo=[]):x.set d v=fJ f (s.set d v).env (s.set d v).ob [] x:=by
 refine St.same (λt=> ?_) (λj=> ?_)
 .simp only[fJ,l];cases d with
  |none=>exact(jy λ_=>rfl).symm
  |some d=>
   by_cases e:d=t
   .simp_all[St.set,cu]
   .have:¬t∈(some d).toList:=by simp;exact λh=>e h.symm
    rw[au this];simp[St.set,bu _ _ e];exact(jy λ_=>rfl).symm
 .simp[fJ,q];rw[jy DO];cases d<;>rfl
def IZ {f:gi} {s x:St} {d id:Nat} {o:Ob} {v:SV} (l:f.ws=[d]) (q:f.wo=[id]):(x.new id o).set (some d) v=fJ f ((s.new id o).set (some d) v).env ((s.new id o).set (some d) v).ob [(id,none)] x:=by
 refine St.same (λt=> ?_) (λj=> ?_)
 .simp[fJ,l,bX];by_cases e:t=d
  .simp_all[St.set,cu]
  .rw[au e];simp[St.set,bu _ _ (λh=>e h.symm)];rfl
 .simp[fJ,q,bX];by_cases e:j=id
  .simp_all[St.set,St.new,cu]
  .rw[au e];simp[St.set,St.new,St.dG,bu _ _ (λh=>e h.symm)];rfl
def skip_ok {l:Array Oper} {k:Nat} {o:Oper} {s:St} (B:l[k]? =some o) (D:pG l o s=some false):
  ∃q F m,Hz (qo P h cI l k) s ((s8 l o).fill s (s.set o.dst .undef)) q F m/\PB s ((s8 l o).fill s (s.set o.dst .undef)):=
 MD (l:=[]) ah (λx w _ _=>by
  simp[qo,B];rw[yX w,D]
  rw[adf (f:=s8 _ o) rfl rfl]) λj z _=>by cases z
def kA (z:St->Option St) (s:St) (f:gi) (w:Nat->Option SV) (q:Nat->Option Ob) (l:List (Nat×Option AV)):Prop:=
 (∀p∈l,p.1∈f.mv)/\(∀j∈f.wo,f.kp j=true->(q j).map Ob.tv=(s.ob j).map Ob.tv)/\
  ∀x:St,(∀t∈f.rs,x.env t=s.env t)->(∀j∈f.ro,x.ob j=s.ob j)->(∀j∈f.rl,(x.ob j).map Ob.tv=(s.ob j).map Ob.tv)->z x=some (fJ f w q l x)
def kA.imp {H:St->Option St} {s:St} {f q:gi} {D:Nat->Option SV} {G:Nat->Option Ob} {l:List (Nat×Option AV)} (B:kA H s f D G l) (I:∀t∈f.rs,t∈q.rs) (K:∀t∈f.ro,t∈q.ro) (O:∀t∈f.mv,t∈q.mv) (R:∀t,t∈f.ws↔t∈q.ws) (z:∀t,t∈f.wo↔t∈q.wo) (S:∀t∈f.rl,t∈q.rl) (U:∀t∈f.wo,q.kp t=true->f.kp t=true):kA H s q D G l:=
 ⟨λp hp=>O _ (B.1 p hp),λj F V=>B.2.1 j ((z j).2 F) (U j ((z j).2 F) V),λx k1 k2 k3=>by
  rw[B.2.2 x (λt w=>k1 t (I t w)) (λt w=>k2 t (K t w)) (λt w=>k3 t (S t w))]
  simp[fJ,R,z]⟩
def kA.at {B:St->Option St} {s z:St} {f:gi} {q:Nat->Option SV} {w:Nat->Option Ob} {l:List (Nat×Option AV)} (D:kA B s f q w l) (h:B s=some z):z=fJ f q w l s:=by have:=D.2.2 s (λ_ _=>rfl) (λ_ _=>rfl) (λ_ _=>rfl);simp_all
def Xj {s1 s2:St->Option St} {s:St} {f1 f2:gi} {q F:Nat->Option SV} {l G:Nat->Option Ob} {z B:List (Nat×Option AV)} (I:kA s1 s f1 q l z) (K:kA s2 (fJ f1 q l z s) f2 F G B):
  ∃S ov,kA (λx=>(s1 x).bind s2) s (f1.then f2) S ov (z++B):=by
 refine⟨λt=>if t∈f2.ws then F t else(q t).map (kE B),λj=>if j∈f2.wo then G j else(l j).map (Ob.Aa (kE B)),λp U=> ?_,λj O H=> ?_,λx V k2 k3=> ?_⟩
 .simp[gi.then,bw];exact(bw.1 U).imp (I.1 p) (K.1 p)
 .simp[gi.then,aJ,fq,iA,List.contains_eq_mem,bP] at H;simp[gi.then,bw] at O;have D:((fJ f1 q l z s).ob j).map Ob.tv=(s.ob j).map Ob.tv:=by
   by_cases a:j∈f1.wo
   .rw[skO a];exact I.2.1 j a (H.1.resolve_right λh=>h a)
   .exact skN a
  by_cases a:j∈f2.wo
  .simp[az a];exact(K.2.1 j a (H.2.resolve_right λh=>h a)).trans D
  .simp[au a];have b :=O.resolve_left a;rw[<-I.2.1 j b (H.1.resolve_right λh=>h b)];cases l j with
   |none=>rfl
   |some o=>simp[LU]
 .have e1:=I.2.2 x (λt w=>V t (by simp[gi.then,w])) (λt w=>k2 t (by simp[gi.then,w])) (λt w=>k3 t (by simp[gi.then,w]))
  have R:=K.2.2 (fJ f1 q l z x) (λt w=>by simp_all[fJ,gi.then]) (λt w=>by simp_all[fJ,gi.then]) (λt w=>by
   by_cases a:t∈f1.wo
   .rw[skO a,skO a]
   simp_all[skN,gi.then])
  simp[e1,fK,R,aN];have mm:∀v,kE B (kE z v)=kE (z++B) v:=λv=>by simp[kE]
  refine St.same (λt=> ?_) (λj=> ?_)
  .simp[fJ,gi.then];by_cases a:t∈f2.ws
   .simp_all
   .by_cases b:t∈f1.ws
    .simp_all
    .simp[a,b];cases x.env t with
     |none=>rfl
     |some v=>simp_all
  .simp[fJ,gi.then];by_cases a:j∈f2.wo
   .simp_all
   .by_cases b:j∈f1.wo
    .simp_all
    .simp[a,b];cases x.ob j with
     |none=>rfl
     |some o=>cases o with
      |box t cells=>simp_all[Ob.Aa]
      |_=>rfl
def kA.nil (s:St) (f:gi) (l:f.ws=[]) (q:f.wo=[]):kA some s f (λ_=>none) (λ_=>none) []:=
 ⟨ah,λj w=>(by simp_all),λx _ _ _=>by
  congr 1;refine St.same (λt=> ?_) (λj=> ?_)
  .simp[fJ,l];exact(jy λ_=>rfl).symm
  simp_all[fJ,jy,DO]⟩
def Jk {s H:St} {id:Nat} (q:s.dL id=some H):∃w G l,kA (λx=>x.dL id) s { ro:=[id],wo:=[id],mv:=[id] } w G l:=by
 unfold St.dL at q;split at q
 .rename_i v D F;refine⟨λ_=>none,λ_=>none,[(id,some v)],by simp,λj _ B=>(by cases B),λx _ z _=> ?_⟩;have e:x.ob id=s.ob _:=z _ ah;unfold St.dL;simp[e,D,F,aN];refine St.same (λt=> ?_) (λj=> ?_)
  .rfl
  .simp[fJ,bX];by_cases a:j=id
   .subst a;simp[cu]
   .rw[au a,bu _ _ (λh=>a h.symm)];rfl
 simp_all
def Am:∀{cells:List SV} {s H:St},ot cells s=some H->∃q z l,kA (ot cells) s { ro:=vn cells,wo:=vn cells,mv:=vn cells } q z l
 |[],s,H,_=>⟨_,_,_,kA.nil s _ rfl rfl⟩
 |c::cells,s,H,G=>by
  have other:(∀id,c≠ .row id)->(∀x,ot (c::cells) x=ot cells x)/\vn (c::cells)=vn _:=λD=>by cases c<;>first|exact absurd rfl (D _)|exact⟨λ_=>rfl,rfl⟩
  by_cases I:∃id,c= .row id
  .obtain⟨id,rfl⟩:=I;obtain⟨s1,w,B⟩:=dM.1 G;obtain⟨q,z,l,K⟩:=Jk w;obtain⟨S,ov',l',O⟩:=Am B;rw[K.at w] at O;obtain⟨U,ov2,r3⟩:=Xj K O;exact⟨_,_,_,r3.imp (λt F=>by assumption) (λt F=>by assumption) (λt F=>by assumption) (λt=>by rfl) (λt=>by simp[gi.then,vn,or_comm]) (λt F=>by assumption) (λt _ hk=>by cases hk)⟩
  .obtain⟨e1,R⟩:=other λid h=>I ⟨id,h⟩
   rw[e1] at G;obtain⟨q,z,l,r⟩:=Am G;refine⟨q,z,l,?_⟩;rw[R];exact⟨r.1,r.2.1,λx w B V=>by rw[e1];exact r.2.2 x w B V⟩
def Yw {s S:St} {t:Nat} (B:vf s t=some S):∃z D l,kA (λx=>vf x t) s (NF s t) z D l:=by
 unfold vf at B;unfold NF;split at B
 .rename_i id G;obtain⟨z,D,l,r⟩:=Jk B;refine⟨z,D,l,r.1,r.2.1,λx q w F=> ?_⟩;have e :=q t ah;simp[vf,e,G];exact r.2.2 x ah w ah
 .rename_i id R G;split at B
  .rename_i U cells I;obtain⟨z,D,l,r⟩:=Am B;refine⟨z,D,l,r.1,r.2.1,λx q w F=> ?_⟩;have e :=q t ah;have K:x.ob id=s.ob _:=w _ ah;simp[vf,e,G,K,I];exact r.2.2 x ah (λj H=>w j (by simp[H])) ah
  simp_all
 .refine⟨λ_=>none,λ_=>none,[],?_⟩;have O:∀x:St,x.env t=s.env t->vf x t=some x:=λx e=>by
   simp_all[vf]
  refine⟨ah,λj H=>(by simp at H),λx q w F=> ?_⟩;simp only;rw[O x (q t ah)];exact(kA.nil s _ rfl rfl).2.2 x q w F
theorem QK {w l:St} {t:TypeId} {x z:Operand} (U:∀ty,bz P ty w x=bz P ty l x) (R:∀ty,bz P ty w z=bz P ty l z) (B:∀ty H,bz P ty w x=some H->∀id∈H.ids,(w.ob id).map Ob.tv=(l.ob id).map Ob.tv):wS P w t x z=wS P l t x z:=by
 unfold wS;rw[<-U,<-R];split<;>try rfl
 .rename_i e s id q i hs S hq;have k:=B t _ S id (by simp[SV.ids]);cases e1:w.ob _ with
  |none=>grind
  |some V=>rw[e1] at k;cases I:l.ob _ with
   |none=>simp_all
   |some F=>rw[I] at k;simp at k;cases V with
    |row K sz xs=>cases F with
     |row O G ys=>
      simp[Ob.tv,Ob.row.injEq] at k;obtain⟨_,rfl,D⟩:=k;have :=by simpa using aK List.length D
      simp_all
     |_=>cases k
    |rn K sz q1 q2 q3 xs zs=>cases F with
     |rn O G q4 q5 q6 ys zs2=>
      simp only[Ob.tv,Ob.rn.injEq] at k;obtain⟨_,rfl,_,_,_,D,_⟩:=k;have :=by simpa using aK List.length D
      simp_all
     |_=>cases k
    |_=>cases F<;>first|rfl|cases k
theorem MV {w l:St} {n:Nat} {e:TypeId} {x q:Operand} (B:∀ty,bz P ty w x=bz P ty l x) (z:∀ty,bz P ty w q=bz P ty l q):B8 P w n e x q=B8 P l n e x q:=by unfold B8;simp_all
def Sq {z:Array Oper} {o:Oper} {s:St} {v:SV} (S:ew P h cI o s=some v):kA (step0 P h cI o) s (uT P h z o s) (s.set o.dst v).env (s.set o.dst v).ob []:=
 ⟨ah,λj K=>(by cases K),λx G H I=>by
  have fin:ew P h _ o s=ew P h cI o x->step0 P h cI o x=some (fJ (uT P h z o s) (s.set _ v).env _ _ x):=λthis=>by rw[S] at this;simp[step0,<-this];rw[adf (f:=uT P h _ o s) rfl rfl]
  cases B:aaL o.op with
  |true=>cases q:o.op with
   |indexAddr t a V=>
    have w:∀y∈o.op.operands.toList,∀ty,bz P ty s y=bz P _ x y:=λy U ty=>kG (λu e=>(G u (by
     subst e
     exact dV _ (fo.2 ⟨_,U,rfl⟩))).symm) _
    have ha:=w a (by rw[q];simp[Op.operands]);have hi:=w V (by rw[q];simp[Op.operands])
    have hl:∀ty F,bz P ty s a=some F->∀id∈F.ids,(s.ob _).map _=(x.ob _).map _:=λty F e id l=>(I _ (by
     simp[uT,B]
     exact uD (by rw[q];simp[Op.operands]) e l)).symm
    refine fin ?_;simp[ew,q,eY];grind[QK,MV]
   |_=>rw[q] at B;cases B
  |false=>
   have D:∀id∈Jv P h o s,s.ob id=x.ob id:=λid l=>by grind[Rt,uT,Jv]
   exact fin (TG (λO id l=>(H _ (by simp[uT,O,B,l])).symm) D (λt R=>(G t (by simp[uT,gG,R])).symm))⟩
def adv {l:Array Oper} {k:Nat} {o:Oper} {s:St} {v:SV} (G:l[k]? =some o) (I:pG l o s=some true) (q:DY h o=[]) (H:ew P h cI o s=some v):
  ∃z K m,Hz (qo P h cI l k) s ((uT P h l o s).fill s (s.set o.dst v)) z K m/\PB s ((uT P h l o s).fill s (s.set o.dst v)):=
 MD (l:=[]) ah (λx w B D=>by
  simp[qo,G];rw[yX w,I];simp[step,q]
  exact(Sq H).2.2 x w B D) λj F _=>by cases F
def Zr {o:Oper} {s s':St} {c:Call} {d id:Nat} {x y:Operand} {t R:TypeId} (U:o.op= .call c) (hc:c.callee= .builtin .append) (q:c.args.toList=[x,y]) (V:c.argTypes.toList=[t,R]) (hd:o.dst=some d) (hx:bz P t s x=some (.row id)) (l:step0 P h cI o s=some s'):
  ∃ob:Ob,s'=(s.new id ob).set (some d) (.row id)/\
   ∀x:St,(∀t∈slotsOf o,x.env t=s.env t)->(∀j∈id::BG s o,x.ob j=s.ob j)->step0 P h cI o x=some ((x.new id ob).set (some d) (.row id)):=by
 have hf:∀x:St,ew P h cI o x=none:=λx=>by simp_all[ew,xb]
 have he:∀F:St,step0 P h cI o F=(match isSlice P t,bz P t F x,bz P R F y with
  |some (e,s),some (.row id),some y=>match F.ob id,elems F y,P.info? e with
   |some (.row I w xs),some (G,B),some i=>
    if t=R/\e=I/\s=w/\w=G/\0<w/\(xs.length+B.length) *i.bytes<=140737488355328/\xs.length+B.length<=4611686018427387904/\i.zero.map (λz=>z.cells.size)=some w/\iI id=true then
     some ((F.new id (.row e w (xs++B))).set (some d) (.row id)) else none
   |some (.rn I w k e2 s2 xs zs),some (G,B),some i=>
    if t=R/\e=I/\s=w/\w=G/\0<w/\(xs.length+B.length) *i.bytes<=140737488355328/\xs.length+B.length<=4611686018427387904/\i.zero.map (λz=>z.cells.size)=some w/\iI id=true/\B.all (qe k)=true then
     some ((F.new id (.rn e w k e2 s2 (xs++B.map λc=>c.set k .hole) (zs++B.map λ_=>some []))).set (some d) (.row id)) else none
   |_,_,_=>none
  |some (e,s),some (.aq id .full),some y=>match F.ob id,elems F y,P.info? e with
   |some (.row I w xs),some (G,B),some i=>
    if t=R/\e=I/\s=w/\w=G/\0<w/\(xs.length+B.length) *i.bytes<=140737488355328/\xs.length+B.length<=4611686018427387904/\i.zero.map (λz=>z.cells.size)=some w/\iI id=true/\B.isEmpty=false then
     some ((F.new id (.row e w (xs++B))).set (some d) (.row id)) else none
   |_,_,_=>none
  |_,_,_=>none):=λF=>by
  simp only[step0,hf,mD,U,hc,hd,q,V];rfl
 rw[he] at l;split at l
 .rename_i e sz0 id2 sy hs O hy;rw[hx] at O;simp only[aN,SV.row.injEq] at O;subst O;split at l
  .rename_i I w xs G B i sg hel hi;split at l
   .rename_i S;injection l with l;refine⟨.row e w (xs++B),l.symm,λF K H=> ?_⟩
    have D:∀z∈[x,y],∀ty,bz P ty F z=bz P ty s z:=λz hz ty=>kG (λu e=>K u (by
     subst e;refine fo.2 ⟨.tmp u,?_,rfl⟩;rw[U];simp only[Op.operands,Call.operands,hc,jl,bw];right
     rw[q];exact hz)) ty
    rw[he,D x ah t,D y ah R,hx,hy,hs];have e1:F.ob id=s.ob id:=H id ah
    have e2:elems F sy=elems s sy:=vE (λj hj=>H j (eo _ (uD (P:=P) (x:=y) (ty:=R) (by
     rw[U];simp only[Op.operands,Call.operands,hc,jl,bw];right
     rw[q];simp) hy hj)))
    grind
   .cases l
  .rename_i I w k e3 s3 xs zs G B i sg hel hi;split at l
   .rename_i S;injection l with l;refine⟨.rn e w k e3 s3 (xs++B.map λc=>c.set k .hole) (zs++B.map λ_=>some []),l.symm,λF K H=> ?_⟩
    have D:∀z∈[x,y],∀ty,bz P ty _ z=bz P _ s z:=λz hz ty=>kG (λu e=>K u (by
     subst e;refine fo.2 ⟨.tmp u,?_,rfl⟩;rw[U];simp only[Op.operands,Call.operands,jl,bw];right
     rw[q];exact hz)) _
    rw[he,D x ah t,D y ah _,hx,hy,hs];have e1:F.ob id=s.ob _:=H _ ah
    have e2 :=vE (λj hj=>H j (eo _ (uD (by
     rw[U];simp only[Op.operands,Call.operands,jl]
     rw[q];simp) hy hj)))
    grind
   .cases l
  .cases l
 .simp_all
 simp_all
def Xv {o:Oper} {s s':St} {c:Call} {d id:Nat} {x y:Operand} {t K:TypeId} (O:o.op= .call c) (hc:c.callee= .builtin .append) (w:c.args.toList=[x,y]) (I:c.argTypes.toList=[t,K]) (hd:o.dst=some d) (hx:bz P t s x=some (.aq id .full)) (l:step0 P h cI o s=some s'):
  ∃ob:Ob,s'=(s.new id ob).set (some d) (.row id)/\
   ∀x:St,(∀t∈slotsOf o,x.env t=s.env t)->(∀j∈id::BG s o,x.ob j=s.ob j)->step0 P h cI o x=some ((x.new id ob).set (some d) (.row id)):=by
 have hf:∀x:St,ew P h cI o x=none:=λx=>by simp_all[ew,xb]
 have he:∀D:St,step0 P h cI o D=(match isSlice P t,bz P t D x,bz P K D y with
  |some (e,s),some (.row id),some y=>match D.ob id,elems D y,P.info? e with
   |some (.row H q xs),some (F,B),some i=>
    if t=K/\e=H/\s=q/\q=F/\0<q/\(xs.length+B.length) *i.bytes<=140737488355328/\xs.length+B.length<=4611686018427387904/\i.zero.map (λz=>z.cells.size)=some q/\iI id=true then
     some ((D.new id (.row e q (xs++B))).set (some d) (.row id)) else none
   |some (.rn H q k U s2 xs zs),some (F,B),some i=>
    if t=K/\e=H/\s=q/\q=F/\0<q/\(xs.length+B.length) *i.bytes<=140737488355328/\xs.length+B.length<=4611686018427387904/\i.zero.map (λz=>z.cells.size)=some q/\iI id=true/\B.all (qe k)=true then
     some ((D.new id (.rn e q k U s2 (xs++B.map λc=>c.set k .hole) (zs++B.map λ_=>some []))).set (some d) (.row id)) else none
   |_,_,_=>none
  |some (e,s),some (.aq id .full),some y=>match D.ob id,elems D y,P.info? e with
   |some (.row H q xs),some (F,B),some i=>
    if t=K/\e=H/\s=q/\q=F/\0<q/\(xs.length+B.length) *i.bytes<=140737488355328/\xs.length+B.length<=4611686018427387904/\i.zero.map (λz=>z.cells.size)=some q/\iI id=true/\B.isEmpty=false then
     some ((D.new id (.row e q (xs++B))).set (some d) (.row id)) else none
   |_,_,_=>none
  |_,_,_=>none):=λD=>by
  simp only[step0,hf,mD,O,hc,hd,w,I];rfl
 rw[he] at l;split at l
 .simp_all
 .rename_i e sz0 id2 sy hs G hy;rw[hx] at G;simp at G;subst G;split at l
  .split at l
   .injection l with l;refine⟨_,l.symm,λD S R=> ?_⟩
    have V:∀z∈[x,y],∀ty,bz P ty _ z=bz P _ s z:=λz hz ty=>kG (λu e=>S u (by
     subst e;refine fo.2 ⟨.tmp u,?_,rfl⟩;rw[O];simp only[Op.operands,Call.operands,jl,bw];right
     rw[w];exact hz)) _
    have U :=vE (λj hj=>R j (eo _ (uD (by
     rw[O];simp only[Op.operands,Call.operands,jl]
     rw[w];simp) hy hj)))
    grind
   .cases l
  .cases l
 simp_all
def kp_E0 {q:Array Oper} {o:Oper} {s:St} (w:¬∃t x,o.op= .load t x) (z:¬∃t a x id B i l j,o.op= .store t a x/\bz P 0 s a=some (.rp id B i l)/\bz P t s x=some (.row j)) (j:Nat):(kO P h q o s).kp j=false:=by
 unfold kO DE A4 MK;split
 .split
  .grind
  .rfl
  .split<;>rfl
 .cases h.rows.contains _<;>rfl
 .cases h.rows.contains _<;>rfl
 .split
  .split
   .split<;>rfl
   .rfl
  .cases(o.dst.any _&& !(o.dst.any _)) with
   |true=>rfl
   |false=>rename_i c _ _ f _;cases(!(o.dst.any _)&&(!(o.dst.any _)&&wide s c f)) with
    |false=>rfl
    |true=>simp[uS];split<;>rfl
  .rfl
 .simp_all
 .rfl
def take_fx {D:Array Oper} {o:Oper} {s s':St} {t:TypeId} {a:Operand} (ho:o.op= .load t a) (l:step0 P h cI o s=some s') (q:(kO P h D o s).all=false):
  ∃ev ov m,kA (step0 P h cI o) s (kO P h D o s) ev ov m:=by
 obtain⟨F,w⟩:∃F,kO P h D o s=F:=⟨_,rfl⟩
 rw[w] at q⊢;unfold kO at w;rw[ho] at w;cases H:o.dst with
 |none=>rw[H] at w;subst w;cases q
 |some d=>rw[H] at w;simp only at w;cases I:h.take.contains d with
  |false=>rw[I] at w;subst w;cases q
  |true=>
   rw[I] at w;simp[ai,Qv] at w;split at w
   .rename_i id sz i B V;split at w
    .rename_i e R k e' s2 xs ys z;subst w;have he:∀x:St,bz P 0 x a=some (.rp id sz i B)->x.ob id=some (.rn e R k e' s2 xs ys)->step0 P h cI o x=vX P x t a d:=λx h1 h2=>by
      simp_all[ew,step0,mD]
     rw[he s V z] at l;unfold vX at l;rw[V] at l;split at l
     .rename_i id2 sz2 i2 off2 e1 G;obtain⟨rfl,rfl,rfl,rfl⟩:=e1;rw[z] at l;simp at l;split at l
      .rename_i zs hy;cases hb:(Nat.beq sz R&&Nat.beq B k&& !(Nat.beq id d)&&Nat.blt id 10000) with
       |false=>simp_all
       |true=>
       rw[hb] at l;simp at l;have U:id≠d:=λe=>by simp_all
       refine⟨s'.env,s'.ob,[(d,none)],by simp,λj hj hk=> ?_,λx h1 h2 _=> ?_⟩<;>subst l
       rotate_left
       .have O:bz P 0 x a=some (.rp id sz i B):=by
         rw[<-V]
         exact kG (λu e=>h1 u (by
          subst e
          exact dV _ (fo.2 ⟨.tmp u,by rw[ho];simp[Op.operands],rfl⟩))) 0
        have K :=(h2 _ ah).trans z;rw[he x O K];unfold vX;rw[O,G];simp only[K,hy,hb];refine aK _ (St.same (λu=> ?_) (λu=> ?_))
        .simp[fJ,bX];by_cases e:u=d
         .simp_all[St.set,cu]
         .rw[au e];simp[St.set,bu _ _ (λh=>e h.symm)];rfl
        .simp[fJ,aG,eL,eS];by_cases e:u=d
         .simp_all[St.set,St.new,cu]
         .by_cases e2:u=id
          .subst e2;simp[true_or,fS,St.set,St.new,St.dG,bu _ _ (λh=>e h.symm),cu]
          .rw[au af];simp[St.set,St.new,St.dG,bu _ _ (λh=>e h.symm),bu _ _ (λh=>e2 h.symm)];rfl
       .have S :=by
         simp only[aJ] at hk;exact beq_iff.1 hk.1
        subst S;rw[z];simp[St.set,St.new,St.dG,bu _ _ (λh=>U h.symm),cu,cR,Ob.dG,Ob.tv]
      simp_all
     simp_all
    .subst w;cases q
   .subst w;cases q
def GN {R:Type} {b:Bool} {x:Option R} {r:R} (l:(bif b then x else none)=some r):b=true/\x=some r:=by grind
def qf:∀(l:List Nat) (q:St) (t:Nat),(kH l q).env t=(q.env t).map (kE (l.map λi=>(i,none)))
 |[],q,t=>by exact(jy λ_=>rfl).symm
 |id::l,q,t=>by simp[kH];rw[qf l _ t];simp[St.dG,Option.map_map];rfl
def vg:∀(l:List Nat) (q:St) (j:Nat),j∉l->(kH l q).ob j=(q.ob j).map (Ob.Aa (kE (l.map λi=>(i,none))))
 |[],q,j,_=>by simp_all[kH,jy,DO]
 |id::l,q,j,w=>by simp at w;simp[kH];rw[vg l _ j w.2];simp only[St.dG,bu _ _ (λh=>w.1 h.symm)];cases q.ob j with
  |none=>rfl
  |some o=>cases o<;>simp only[cR,Ob.dG,Ob.Aa,eV]<;>rfl
theorem su:∀(l:List Nat) (w q:St) (j:Nat),w.ob j=q.ob j->(kH l w).ob j=(kH l q).ob j
 |[],w,q,j,h=>h
 |id::l,w,q,j,h=>by
  refine su l _ _ j ?_;by_cases e:id=j
  .simp_all[St.dG,cu]
  simp_all[St.dG,bu]
theorem back_mem {names:List Nat} {D:Nat->Nat}:∀{m:List (Nat×Nat)} {q back:List (Nat×Ob)},nR names D m q=some back->∀{j:Nat} {o:Ob},find back j=some o->j∈m.map (·.1)
 |[],[],back,h,j,o,l=>by simp[nR,aN] at h;subst h;cases l
 |[],_::_,back,h,_,_,_=>by simp[nR] at h
 |_::_,[],back,h,_,_,_=>by simp[nR] at h
 |(id,F)::m,(B,G)::q,back,h,j,o,l=>by obtain⟨_,h⟩:=GN h;simp at h;obtain⟨r,z,rfl⟩:=h;simp[find] at l;cases w:Nat.beq id j with
  |true=>simp_all
  |false=>rw[w] at l;exact eo _ (back_mem z l)
def many_fx {B:Array Oper} {o:Oper} {s s':St} {c:Call} {f:Operand} (ho:o.op= .call c) (hc:c.callee= .value f) (how:o.dst.any h.owns.contains=false) (U:o.dst.any h.stay.contains=false) (hw:wide s c f=true)
  (w:step0 P h cI o s=some s') (F:(uS P h B o s c f).all=false):∃ev ov m,kA (step0 P h cI o) s (uS P h B o s c f) ev ov m:=by
 have hox:∀x:St,(∀t∈gG B o,x.env t=s.env t)->∀y∈o.op.operands.toList,∀ty,bz P ty x y=bz P ty s y:=λx h1 y hy' ty=>kG (λu e=>h1 u (by
  subst e
  exact dV _ (fo.2 ⟨.tmp u,hy',rfl⟩))) ty
 have G:∀x∈c.args.toList,x∈o.op.operands.toList:=λx hx=>by simp_all[Op.operands,Call.operands,jl,bw]
 have hfo:f∈o.op.operands.toList:=by rw[ho];simp[Op.operands,Call.operands,hc]
 have hwide:∀x:St,(∀t∈gG B o,x.env t=s.env t)->wide x c f=wide s c f:=λx h1=>by
  have henv:∀y∈o.op.operands.toList,∀u,y= .tmp u->x.env u=s.env u:=λy hy u e=>h1 u (by
   subst e
   exact dV _ (fo.2 ⟨.tmp u,hy,rfl⟩))
  have e1:TT x f=TT s f:=by cases f with
   |tmp u=>simp only[TT,henv _ hfo u rfl]
   |_=>rfl
  have e2:∀l:List Operand,(∀y∈l,y∈o.op.operands.toList)->l.any (DJ x)=l.any (DJ s):=by intro l;induction l with
   |nil=>simp
   |cons y l ih=>intro hl;simp only[qy];rw[ih λz hz=>hl z (by simp[hz])];cases y with
    |tmp u=>simp only[DJ,henv _ (hl (.tmp u) ah) u rfl]
    |_=>rfl
  unfold wide;rw[e1,e2 _ G]
 have he:∀x:St,(∀t∈gG B o,x.env t=s.env t)->step0 P h cI o x=jC P h cI x c f o.dst:=λx h1=>by
  have hwx:=(hwide x h1).trans hw;have hfn:ew P h cI o x=none:=by simp only[ew,ho,hc,how,U,hwx,aA,qO,Bool.true_or,ai]
  unfold step0;rw[hfn];cases O:o.dst with
  |none=>simp only[mD,ho,hc,O,hwx,Option.any_none,aA,qO,ai]
  |some d=>rw[O] at how U;simp only[mD,ho,hc,O,how,U,hwx,aA,qO,ai]
 rw[he s λ_ _=>rfl] at w;have TR:∃g args,tK P h s c f=some (g,args):=by
  unfold uS at F;split at F
  .simp_all
  .cases F
 obtain⟨g,args,hra⟩:=TR;have hF:uS P h B o s c f={ rs:=gG B o,ws:=o.dst.toList,ro:=kM s args,wo:=kM s args,mv:=(kM s args).filter (lF false s (pS args)) }:=by unfold uS;rw[hra]
 rw[hF];have D:=hra;unfold tK at D;split at D
 .rename_i g0 pre q V hfn hvs;simp only[aN,bB] at D;obtain⟨rfl,rfl⟩:=D;unfold jC at w;rw[hfn,hvs] at w;simp only[U] at w;obtain⟨K,w⟩:=GN w;split at w
  .rename_i cF S;split at w
   .rename_i r z7 I;split at w
    .rename_i back H;obtain⟨VU,w⟩:=GN w;injection w with w;generalize R:kB s 200 ((pre++(V++q)).flatMap SV.ids) []=ids at K S I H w;have hro:kM s (pre++(V++q))=ids:=R;rw[hro];have hfst:(jK (lF false s (pS (pre++(V++q)))) 0 ids).map (·.1)=ids:=tf _ _ _;refine⟨s'.env,s'.ob,(ids.filter (lF false s (pS (pre++(V++q))))).map λi=>(i,none),λp hp=> ?_,λj _ hk=>(by cases hk),λx h1 h2 _=> ?_⟩
     .obtain⟨i,hi,rfl⟩:=aD.1 hp;exact hi
     .have k1:bz P 0 x f=bz P 0 s f:=hox x h1 f hfo 0;have k2:tD P h x c.args.toList c.argTypes.toList=tD P h s c.args.toList c.argTypes.toList:=yg λy hy ty=>hox x h1 y (G y hy) ty
      have k3:kB x 200 ((pre++(V++q)).flatMap SV.ids) []=ids:=by rw[<-R];exact(rj 200 _ _ λid hid=>(h2 id (by rw[R] at hid;exact hid)).symm).symm
      have k4:∀id∈ids,lF false x (pS (pre++(V++q))) id=lF false s (pS (pre++(V++q))) id:=λid hid=>by simp only[lF,V2,h2 id hid]
      have k5:∀(l:List Nat) (n:Nat),(∀id∈l,id∈ids)->jK (lF false x (pS (pre++(V++q)))) n l=jK (lF false s (pS (pre++(V++q)))) n l:=by intro l;induction l with
       |nil=>intro n _;rfl
       |cons i l ih=>simp_all[jK]
      have k6:=k5 ids 0 λ_ h=>h
      have k7:lE x ids (qI (jK (lF false s (pS (pre++(V++q)))) 0 ids)) (jK (lF false s (pS (pre++(V++q)))) 0 ids)=some cF:=by
       rw[<-S];exact wv λp hp=>h2 p.1 (by grind)
      have k8 :=qP λi hi=>k4 i hi
      rw[he x h1];unfold jC;rw[k1,k2,hfn,hvs];simp only[U,k3,k6,K,k7,I,H,VU];refine aK _ (St.same (λt=> ?_) (λj=> ?_))
      .simp[fJ];cases O:o.dst with
       |none=>simp_all[St.set,qf]
       |some d=>
        by_cases e:d=t
        .subst e;rw[<-w,O];simp[St.set,cu]
        .rw[au (by grind)];simp_all[St.set,bu,qf]
      .have aaA:∀(y) (v),(St.set y o.dst v).ob=y.ob:=λy v=>by cases o.dst<;>rfl
       simp[fJ,aaA];by_cases e:j∈ids
       .grind[su]
       .have hb:find back j=none:=by
         cases hf:find _ j with
         |none=>rfl
         |some o'=>grind[back_mem]
        simp_all[vg]
    simp_all
   simp_all
  simp_all
 simp_all
def put_fx {G:Array Oper} {o:Oper} {s s':St} {t:TypeId} {a y:Operand} {id R i w j:Nat} (ho:o.op= .store t a y) (V:bz P 0 s a=some (.rp id R i w)) (hy:bz P t s y=some (.row j)) (l:step0 P h cI o s=some s') (D:(kO P h G o s).all=false):
  ∃ev ov m,kA (step0 P h cI o) s (kO P h G o s) ev ov m:=by
 obtain⟨F,B⟩:∃F,kO P h G o s=F:=⟨_,rfl⟩
 rw[B] at D⊢;unfold kO at B;rw[ho] at B;cases I:o.dst with
 |some d=>rw[I] at B;subst B;cases D
 |none=>
  rw[I] at B;simp[DE,V,hy] at B;subst B;have he:∀x:St,bz P 0 x a=some (.rp id R i w)->bz P t x y=some (.row j)->step0 P h cI o x=Gd P x t id R i w j:=λx h1 U=>by simp_all[ew,eY,step0,mD]
  rw[he s V hy] at l;unfold Gd at l;split at l
  .rename_i e sz' k e' s2 xs ys S s3 zs H hsz sg K;cases hb:(Nat.beq R sz'&&Nat.beq w k&&Nat.blt id 10000&&Nat.blt j 10000&&Nat.beq e' S&&Nat.beq s2 s3&&Nat.blt i ys.length&& !(Nat.beq id j)) with
   |false=>simp_all
   |true=>
   rw[hb] at l;simp at l;refine⟨s'.env,s'.ob,[(j,none),(id+40000,none)],by simp,λq hq hk=> ?_,λx h1 U _=> ?_⟩<;>subst l
   .simp_all[cu,Ob.tv]
   .have O:∀z∈o.op.operands.toList,∀ty,bz P ty x z=bz P _ s z:=λz hz ty=>kG (λu e=>h1 u (by
     subst e
     exact dV _ (fo.2 ⟨_,hz,rfl⟩))) _
    have k1:=O a (by rw[ho];simp[Op.operands]) 0;have k2:=O y (by rw[ho];simp[Op.operands]) t;have x1 :=(U _ ah).trans sg;have x2 :=(U j ah).trans K;rw[he x (k1.trans V) (k2.trans hy)];unfold Gd;simp only[H,hsz,x1,x2,hb];refine aK _ (St.same (λu=> ?_) (λu=> ?_))
    .exact qf [j,id+40000] x u
    .simp[fJ];by_cases e:u=id
     .simp_all[cu]
     .simp[bu _ _ (λh=>e h.symm)];by_cases S:u=j
      .rw[az (.inr (.inl S))];exact su [j,id+40000] x s u (by simp_all)
      .by_cases e3:u=id+40000
       .simp_all[St.dG,cu]
       .rw[au af];exact vg [j,id+40000] x u (by simp_all)
  simp_all
def Tx {H:Array Oper} {o:Oper} {s s':St} (w:step0 P h cI o s=some s') (B:(kO P h H o s).all=false):
  ∃ev ov m,kA (step0 P h cI o) s (kO P h H o s) ev ov m:=by
 by_cases hld:∃t x,o.op= .load t x
 .obtain⟨t,a,ho⟩:=hld;exact take_fx ho w B
 by_cases hpt:∃t a x id sz i off j,o.op= .store t a x/\bz P 0 s a=some (.rp id sz i off)/\bz P t s x=some (.row j)
 .obtain⟨t,a,x,id,sz,i,off,j,ho,ha,hx⟩:=hpt;exact put_fx ho ha hx w B
 by_cases hct:∃t a x id off j sz lo hi,o.op= .store t a x/\bz P 0 s a=some (.ptr id off)/\bz P t s x=some (.sub j sz lo hi)
 .obtain⟨t,a,x,id,off,j,sz,lo,hi,ho,ha,hx⟩:=hct;unfold kO at B;rw[ho] at B;cases G:o.dst with
  |some d=>rw[G] at B;cases B
  |none=>rw[G] at B;simp only[DE,ha,hx] at B;cases B
 have go:∀{l:List (Nat×Option AV)},(∀p∈l,p.1∈(kO P h H o s).mv)->(∀t∈gG H o,t∈(kO P h H o s).rs)->(∀x:St,(∀t∈(kO P h H o s).rs,x.env t=s.env t)->(∀j∈(kO P h H o s).ro,x.ob j=s.ob j)->step0 P h cI o x=some (fJ (kO P h H o s) s'.env s'.ob l x))->
   ∃ev ov m,kA (step0 P h cI o) s (kO P h H o s) ev ov m:=λhk _ O=>⟨_,_,_,hk,λj _ hj=>(by rw[kp_E0 hld hpt] at hj;cases hj),λx K S _=>O x K S⟩
 obtain⟨F,D⟩:∃F,kO P h H o s=F:=⟨_,rfl⟩
 rw[D] at B go⊢;unfold kO at D;split at D
 ·
  rename_i t ax ay q hdn;replace D:A4 P H o s ax=F:=by
   rw[<-D];unfold DE;split
   .rename_i K S;exact absurd ⟨_,_,_,_,_,_,_,_,q,K,S⟩ hpt
   .rename_i K S;exact absurd ⟨_,_,_,_,_,_,_,_,_,q,K,S⟩ hct
   .rfl
  unfold A4 at D;split at D
  .rename_i id hx;subst D;obtain⟨sa,hsa,htg⟩:=dM.1 hx;have U:∀x,ew P h cI o x=none:=λx=>by simp[ew,q,eY]
   have R:=w;unfold step0 at R;rw[U] at R;simp only[mD,hdn,q,hsa] at R;split at R
   .rename_i K S;injection K with K;subst K;exact absurd ⟨_,_,_,_,_,_,_,_,q,hsa,S⟩ hpt
   .rename_i K S;injection K with K;subst K;exact absurd ⟨_,_,_,_,_,_,_,_,_,q,hsa,S⟩ hct
   .rename_i sa' sv _ hnr e1 hy;injection e1 with e1;subst e1;obtain⟨l1,l2,l3⟩:=KX R htg;refine go (l:=[]) ah (λt ht=>ht) λx K S=> ?_
    have hox:∀y∈o.op.operands.toList,∀ty,bz P ty x y=bz P ty s y:=λy hy' ty=>kG (λu e=>K u (by
     subst e
     exact dV _ (fo.2 ⟨.tmp u,hy',rfl⟩))) ty
    have k1:=hox ax (by rw[q];simp[Op.operands]) 0;have k2:=hox ay (by rw[q];simp[Op.operands]) t;unfold step0;rw[U];have hsel:mD P h cI o x=storeAt P t x sa sv:=by simp only[mD,hdn,q,k1,k2,hsa,hy]
    simp only;rw[hsel,l3 x (S id ah) λj hj=>S j (eo _ (uD (P:=P) (x:=ay) (ty:=t) (by rw[q];simp[Op.operands]) hy hj))];congr 1;refine St.same (λu=> ?_) (λu=> ?_)
    .simp only[fJ,eL,eC];exact(jy λ_=>rfl).symm
    .simp only[fJ,bX];by_cases e:u=id
     .subst e;simp[cu]
     .rw[au e,bu _ _ (λh=>e h.symm)];exact(jy DO).symm
   .cases R
  .subst D;cases B
 ·
  rename_i t d q G;cases V:h.rows.contains d with
  |true=>rw[V] at D;subst D;cases B
  |false=>
   rw[V] at D;simp only[aA] at D;subst D;have he:∀x,step0 P h cI o x=match L3 P h (some d) t with
    |some z=>some ((x.new d (.box t (z.map .pv))).set (some d) (.ptr d 0))
    |none=>none:=λx=>by
    have U:ew P h cI o x=none:=by simp[ew,q,eY]
    unfold step0;rw[U];simp only[mD,G,q,V,aA];rfl
   rw[he] at w;split at w
   .rename_i z hz;injection w with w;subst w;refine go (l:=[(d,none)]) ah (λt ht=>ht) λx K S=> ?_
    rw[he,hz];simp only;rw[IZ (f:={ rs:=gG H o,ws:=[d],wo:=[d],mv:=[d] }) (s:=s) rfl rfl]
   .cases w
 ·
  rename_i t len I d q G;cases V:h.rows.contains d with
  |false=>rw[V] at D;subst D;cases B
  |true=>
   rw[V] at D;simp only[ai] at D;subst D;have he:∀x,step0 P h cI o x=match kD P t len I.toList x with
    |some (e,s,xs)=>match find h.nest d with
     |none=>some ((x.new d (.row e s xs)).set (some d) (.row d))
     |some (k,e',s')=>bif Nat.blt k s&&xs.all (qe k) then some ((x.new d (.rn e s k e' s' (xs.map λc=>c.set k .hole) (xs.map λ_=>some []))).set (some d) (.row d)) else none
    |none=>none:=λx=>by
    have U:ew P h cI o x=none:=by simp only[ew,q,G,xI,V,ai]
    unfold step0;rw[U];simp only[mD,G,q];rfl
   have hl:∀x:St,(∀t∈gG H o,x.env t=s.env t)->kD P t len I.toList x=kD P t len I.toList s:=λx K=>by
    unfold kD
    have hp:∀ty,partsOf P ty x I.toList=partsOf P ty s I.toList:=λty=>sL (λy hy t=>kG (λu e=>K u (by
     subst e
     exact dV _ (fo.2 ⟨.tmp u,by rw[q];simpa[Op.operands] using hy,rfl⟩))) t)
    simp only[hp]
   rw[he] at w;obtain⟨ob,hs',O⟩:∃ob:Ob,s'=(s.new d ob).set (some d) (.row d)/\∀x:St,kD P t len I.toList x=kD P t len I.toList s->step0 P h cI o x=some ((x.new d ob).set (some d) (.row d)):=by
    split at w
    .rename_i e sz xs hlit;split at w
     .rename_i hn;injection w with w;exact⟨_,w.symm,λx hx=>by rw[he,hx,hlit];simp only[hn]⟩
     .rename_i k e' s2 hn;obtain⟨hb,w⟩:=GN w;injection w with w;exact⟨_,w.symm,λx hx=>by rw[he,hx,hlit];simp only[hn,hb,ai]⟩
    .cases w
   subst hs';refine go (l:=[(d,none)]) ah (λt ht=>ht) λx K S=> ?_
   rw[O x (hl x K),IZ (f:={ rs:=gG H o,ws:=[d],wo:=[d],mv:=[d] }) (s:=s) rfl rfl]
 .rename_i c q;split at D
  ·
   rename_i hc;unfold MK at D;split at D
   .rename_i x y t t' d hargs Bl G;split at D
    .rename_i id hx;subst D;obtain⟨ob,hs',O⟩:=Zr q hc hargs Bl G hx w;subst hs';refine go (l:=[(id,none)]) ah (λt ht=>ht) λx K S=> ?_
     rw[O x (λt ht=>K t (by simp[gG,ht])) S,IZ (f:={ rs:=gG H o,ws:=[d],ro:=id::BG s o,wo:=[id],mv:=[id] }) (s:=s) rfl rfl]
    .rename_i id hx;subst D;obtain⟨ob,hs',O⟩:=Xv q hc hargs Bl G hx w;subst hs';refine go (l:=[(id,none)]) ah (λt ht=>ht) λx K S=> ?_
     rw[O x (λt ht=>K t (by simp[gG,ht])) S,IZ (f:={ rs:=gG H o,ws:=[d],ro:=id::BG s o,wo:=[id],mv:=[id] }) (s:=s) rfl rfl]
    .subst D;cases B
   .subst D;cases B
  ·
   rename_i f hc;cases how2:(o.dst.any h.owns.contains&& !(o.dst.any (λd=>(w5 h d).isSome))) with
   |false=>rw[how2] at D;simp only[aA] at D;cases hmn:(!(o.dst.any h.owns.contains)&&(!(o.dst.any h.stay.contains)&&wide s c f)) with
    |false=>rw[hmn] at D;subst D;cases B
    |true=>rw[hmn] at D;simp only[ai] at D;rw[<-D] at B⊢;simp only[aJ,iA] at hmn;exact many_fx q hc hmn.1 hmn.2.1 hmn.2.2 w B
   |true=>
    rw[how2] at D;simp only[ai] at D;subst D;obtain⟨how,MS⟩:=xH.1 how2;have he:∀x,step0 P h cI o x=kL P h cI x c f o.dst:=λx=>by
     have U:ew P h cI o x=none:=by simp only[ew,q,hc,how,ai]
     unfold step0;rw[U];cases G:o.dst with
     |none=>rw[G] at how;cases how
     |some d=>rw[G] at how;simp only[mD,q,hc,G,how,ai]
    have hox:∀x:St,(∀t∈gG H o,x.env t=s.env t)->∀y∈o.op.operands.toList,∀ty,bz P ty x y=bz P ty s y:=λx K y hy' ty=>kG (λu e=>K u (by
     subst e
     exact dV _ (fo.2 ⟨.tmp u,hy',rfl⟩))) ty
    rw[he] at w;unfold kL at w;split at w
    .rename_i d G;have hn:(w5 h d).isSome=false:=by simpa[G] using MS
     rw[hn] at w;split at w
     .rename_i g caps vs hf hvs;split at w
      rotate_left
      .rename_i cs' hr
       have:w5 h d=none:=by simpa using hn
       rw[this] at w;cases w
      .cases w
      rename_i e sz xs hr;injection w with w;subst w;refine go (l:=[(d,none)]) (by simp[G]) (λt ht=>ht) λx K S=> ?_
      have k1:=hox x K f (by rw[q];simp[Op.operands,Call.operands,hc]) 0;have k2:=An (P:=P) (b:=false) (st:=x) (st':=s) (xs:=c.args.toList) (ts:=c.argTypes.toList) (λy hy=>hox x K y (by rw[q];simp only[Op.operands,Call.operands,jl,bw];exact .inr hy));rw[he];unfold kL;rw[G];simp only[hn,k1,k2,hf,hvs,hr,aA];exact aK some (IZ (f:={ rs:=gG H o,ws:=(some d).toList,wo:=(some d).toList,mv:=(some d).toList }) (s:=s) rfl rfl)
     .cases w
    .cases w
  .subst D;cases B
 .rename_i hq _;exact absurd ⟨_,_,hq⟩ hld
 .subst D;cases B
def Qu {ops:Array Oper} {o:Oper}:∀{l:List Nat} {s s':St},(nD l s).bind (step0 P h cI o)=some s'->(Ll P h ops o l s).all=false->∃ev ov m,kA (λx=>(nD l x).bind (step0 P h cI o)) s (Ll P h ops o l s) ev ov m
 |[],s,s',q,w=>by simp only[nD,fK] at q⊢;simp only[Ll] at w⊢;cases z:isF h s o with
  |false=>simp_all[aA,Tx]
  |true=>rw[z] at w;simp only[ai] at w⊢;cases O:(isW o.op||isWc s o.op) with
   |false=>rw[O] at w;cases w
   |true=>simp only[ai];cases D:ew P h cI o s with
    |some v=>exact⟨_,_,_,Sq D⟩
    |none=>exfalso;unfold step0 at q;rw[D] at q;simp only at q;cases B:o.op with
     |buildSlice t len K=>
      simp only[isF,B] at z;have z:o.dst.any h.rows.contains=false:=by simpa using z
      simp only[ew,B,z,aA,Option.map_eq_none_iff] at D;grind[mD]
     |build t K=>
      simp only[isF,B] at z;have z:o.dst.any h.rows.contains=false:=by simpa using z
      cases R:o.dst with
      |none=>simp[mD,B,R] at q
      |some d=>simp_all[mD,aA]
     |load t x=>
      simp only[isF,B] at z;have z:o.dst.any h.take.contains=false:=by simpa using z
      cases R:o.dst with
      |none=>simp[mD,B,R] at q
      |some d=>simp_all[mD,aA]
     |call c=>simp only[isW,B,iL,isWc] at O;cases hc:c.callee with
      |value f=>
       rw[hc] at O;simp only[iA] at O;have S:∀x∈c.args.toList,kK s x=false:=λx hx=>by grind
       have hag:c.args.toList.any (vZ s)=false:=by rw[qL];intro x hx ha;have F:=S x hx;cases x with
        |tmp i=>simp only[vZ] at ha;simp only[kK] at F;grind
        |_=>cases ha
       have V:∀l:List Operand,(∀x∈l,kK s x=false)->mD.gZ s l=some s:=by intro l;induction l with
        |nil=>intro _;rfl
        |cons x l ih=>
         intro hl;have F:=hl x ah;have h2:=ih λy hy=>hl y (by simp[hy])
         cases x with
         |tmp i=>simp only[mD.gZ];simp only[kK] at F;grind
         |_=>exact h2
       have hpa:mD.jj s c.args.toList=some s:=by unfold mD.jj;rw[hag];exact V _ S
       simp only[isF,B,hc,aJ,iA,fq] at z;obtain⟨how,z⟩:=z
       have he:mD P h cI o s=(bif o.dst.any h.owns.contains then kL P h cI s c f o.dst else bif o.dst.any h.stay.contains&&wide s c f then none else bif wide s c f then jC P h cI s c f o.dst else bif c.args.toList.any (λx=>(ou h s x).isSome) then oU P h cI s c f o.dst else
        match mD.jj s c.args.toList with
        |some G=>match bz P 0 G f,jx P G c.args.toList c.argTypes.toList with
         |some (.pv (.fn g H)),some vs=>match cI g ((vs++H).map .pv) [] with
          |some (r,[])=>bif c.args.toList.any (kK G)|| !r.kF then none else some (G.set o.dst (.pv r))
          |_=>none
         |_,_=>none
        |none=>none):=by
        cases R:o.dst<;>simp only[mD,B,hc,R]<;>rfl
       rw[he,how] at q;simp only[aA] at q;rcases z with z|z
       .simp_all
       .obtain⟨Yc,hrf⟩:=(mF).1 z;rw[Yc,hrf,hpa] at q;simp only at q;simp only[ew,B,hc] at D;rw[how,Yc,hrf] at D;split at q
        .rename_i g H vs F h2;rw[F,h2] at D;simp only at D;split at q
         .rename_i r hr;rw[hr] at D;simp[O] at D q;cases U:r.kF with
          |true=>rw[U] at D;cases D
          |false=>rw[U] at q;cases q
         simp_all
        simp_all
      |_=>simp_all
     |_=>simp[isW,isWc,B] at O
 |t::l,s,s',q,w=>by simp[nD] at q;cases F:vf s t with
  |none=>simp_all
  |some s1=>
   rw[F] at q;simp[Ll,F] at w⊢;have I :=by simp[gi.then,mF] at w;exact w.2
   obtain⟨ev,ov,m,r1⟩:=Yw F;obtain⟨ev',ov',m',r2⟩:=Qu q I;have e1:=r1.at F;rw[e1] at r2;obtain⟨ev2,ov2,r3⟩:=Xj r1 r2;rw[<-e1] at r3;refine⟨ev2,_,_,r3.1,r3.2.1,λx k1 k2 k3=> ?_⟩;rw[<-r3.2.2 x k1 k2 k3];grind[nD]
theorem XR {l:Array Oper} {k:Nat} {o:Oper} {s F:St} (U:l[k]? =some o) (V:pG l o s=some true) (B:step P h cI o s=some F) (w:((tN P h l o s).fill s F).all=false):
  ∃G O m,Hz (qo P h cI l k) s ((tN P h l o s).fill s F) G O m/\PB s ((tN P h l o s).fill s F):=by
 have z :=by simp[tN,gi.then,xJ] at w;exact w
 obtain⟨G,O,m,r⟩:=Qu B z;have D:kA (step P h _ o) s (tN P h l o s) _ _ m:=r.imp (λt q=>by simp[tN,gi.then,q]) (λt q=>by simp[tN,gi.then,q]) (λt q=>by simp[tN,gi.then,q]) (λt=>by rfl) (λt=>by rfl) (λt q=>by simp[tN,gi.then,q]) (λt q K=>by simp_all[tN,gi.then]);have e:=D.at B;refine MD D.1 (λx H R S=> ?_) λj I K=> ?_
 rotate_left
 .rw[e,skO I];exact D.2.1 j I K
 simp[qo,U];rw[yX λt q=>H t (by simp[tN,gi.then,q]),V];simp only;rw[D.2.2 x H R S,e];congr 1;refine St.same (λt=> ?_) (λj=> ?_)
 .simp[fJ];simp_all
 .simp[fJ];simp_all
def run_of {w:Array Oper}:∀(l:List Oper) (i:Nat) (z:List (Nat×gi)) (B s:St),(∀k o,l[k]? =some o->w[i+k]? =some o)->jL P h cI w i l z B=some s->
  ∃F:List (Nat×gi),F.length=l.length/\(∀j,j∈F.map (·.1)↔i<=j/\j<i+l.length)/\F.Pairwise (λp q=>p.1<q.1)/\Ma (qo P h cI w) F B s/\
   (∀p∈z,∀q∈F,p.2.conflict q.2=true->reach w 12 q.1 p.1=true)/\F.Pairwise (λp q=>p.2.conflict q.2=true->reach w 12 q.1 p.1=true):=by
 intro l;induction l with
 |nil=>intro i z B s _ D;simp only[jL,aN] at D;exact⟨[],rfl,by simp, .nil,D,by simp, .nil⟩
 |cons o l ih=>
  intro i z B s R D;have V:w[i]? =some o:=by simpa using R 0 o ah
  have H:∀(f:gi) (G:St),qo P h cI w i B=some G->(f.all=false->∃ev ov m,Hz (qo P h cI w i) B f ev ov m/\PB B f)->wq w z i f=true->jL P h cI w (i+1) l ((i,f)::z) G=some s->
    ∃F:List (Nat×gi),F.length=(o::l).length/\(∀j,j∈F.map (·.1)↔i<=j/\j<i+(o::l).length)/\F.Pairwise (λp q=>p.1<q.1)/\Ma (qo P h cI w) F B s/\
     (∀p∈z,∀q∈F,p.2.conflict q.2=true->reach w 12 q.1 p.1=true)/\F.Pairwise (λp q=>p.2.conflict q.2=true->reach w 12 q.1 p.1=true):=λf G h1 h2 h3 h4=>by
   obtain⟨F,k0,k1,k2,k3,k4,k5⟩:=ih (i+1) ((i,f)::z) G s (λk o' hk=>by
    have:=R (k+1) o' (by assumption)
    grind) h4
   refine⟨(i,f)::F,by simp[k0],λj=> ?_, .cons (λq O=> ?_) k2,⟨G,h1,h2,k3⟩,λp hp q O K=> ?_, .cons (λq O=>k4 (i,f) ah q O) k5⟩
   .simp only[aS,aG,k1,bg];omega
   .have:=(k1 q.1).1 (aD.2 ⟨q,O,rfl⟩);omega
   .rcases aG.1 O with rfl|O
    .have:=cz.1 h3 p hp;simpa[K] using this
    grind
  simp only[jL] at D;split at D
  .cases D
  .rename_i b hw;cases b with
   |false=>simp only[aA] at D;cases I:wq w z i ((s8 w o).fill B (B.set o.dst .undef)) with
    |false=>simp[I] at D
    |true=>simp only[I,ai] at D;exact H _ _ (by simp only[qo,V,hw]) (λ_=>skip_ok V hw) I D
   |true=>cases hF:(isF h B o&&(DY h o).isEmpty) with
    |true=>
     have S :=by simp only[aJ] at hF;exact tR.1 hF.2
     simp[hF] at D;cases U:ew P h cI o B with
     |none=>simp[U] at D
     |some v=>simp[U] at D;cases K:wq w z i ((uT P h w o B).fill B (B.set o.dst v)) with
      |false=>simp[K] at D
      |true=>simp[K] at D;exact H _ _ (by simp[qo,V,hw,step,S,nD,fK,step0,U]) (λ_=>adv V hw S U) K D
    |false=>cases hs:step P h cI o B with
     |none=>simp_all
     |some G=>cases K:wq w z i ((tN P h w o B).fill B G) with
      |false=>simp_all
      |true=>grind[qo,XR]
def XK:∀{l:List Oper} {i:Nat},sd i l=true->∀(p:Nat) (o:Oper),l[p]? =some o->∀e∈o.after.toList,Region.binds .any e=true->e.on<i+p:=by intro l;induction l with
 |nil=>simp
 |cons x l D=>intro i w p o q e z B;simp only[sd,aJ] at w;cases p with
  |zero=>simp at q;subst q;have:=cz.1 w.1 e z;simp_all
  |succ p=>grind
def NQ {l:Array Oper} {D:Nat->Prop} (w:∀j o,D j->l[j]? =some o->∀e∈o.after.toList,Region.binds .any e=true->D e.on):
  ∀(n i j:Nat),(∀o,l[i]? =some o->∀e∈o.after.toList,Region.binds .any e=true->D e.on)->reach l n i j=true->D j:=by
 intro n;induction n with
 |zero=>simp_all[reach]
 |succ n B=>intro i j q h;simp[reach] at h;cases z:l[i]? with
  |none=>grind
  |some o=>
   simp[z,fq] at h;rcases h with h|h
   .simp[ZY] at h;grind[beq_iff]
   grind
def Rel.dG {N:Nat} {w0:World} {μ0:Mu} {L:rV} {μ:Mu} {F:Nat->Value} {z:St} {a:Act} {w:World} (H:Rel N w0 μ0 L μ F z a w) (id:Nat):Rel N w0 μ0 L μ F (z.dG id) a w:=by
 have l:∀j o,(z.dG id).ob j=some o->∃G,z.ob j=some G/\o=G.dG id:=λj o q=>by
  simp[St.dG] at q;by_cases e:id=j
  .subst e;simp[cu] at q
  .simp[bu _ _ e] at q;cases B:z.ob j with
   |none=>simp_all
   |some G=>simp_all
 refine { H with env:=λi sv K=> ?_,obs:=λj o q=> ?_,apart:=λi j oi oj hi hj=> ?_ }
 .simp[St.dG] at K;cases B:z.env i with
  |none=>simp_all
  |some s=>simp[B] at K;subst K;obtain⟨v,hv,hs⟩:=H.env i s B;simp_all[jG]
 .obtain⟨G,D,rfl⟩:=l j o q;have:=H.obs j _ D;cases G with
  |row e sz xs=>exact this
  |mp k e ks I=>exact this
  |mr k e s ks I=>exact this
  |rn e s k e' s' xs ys=>exact this
  |it s n=>exact this
  |lp s=>exact this
  |box t cells=>obtain⟨b,I,B,h2,S,h4,U,V⟩:=this;refine⟨b,I,B,h2,S,h4,?_,V⟩;clear S V D q;induction cells generalizing I with
   |nil=>exact U
   |cons c cs ih=>obtain⟨u,us,rfl,k1,k2⟩:=U;exact⟨u,us,rfl,jG k1,ih _ k2⟩
 .obtain⟨oi',O,_⟩:=l i _ hi;obtain⟨oj',R,_⟩:=l j _ hj;exact H.apart i j _ _ O R
def Rel.rG {N:Nat} {w0:World} {μ0:Mu} {L:rV} {D:Mu} {q:Nat->Value} {a:Act} {w:World}:∀(l:List Nat) (B:St),Rel N w0 μ0 L D q B a w->Rel N w0 μ0 L D q (AM.rG l B) a w
 |[],_,z=>z
 |p::l,B,z=>Rel.rG l _ (z.dG p)
end
section
variable {P:Program} {N:Nat} {w0:World} {μ0:Mu} {L:rV} {h:Hint} {cI:dX} {Q:Exit->Act->World->Prop}
def Ts (y6:fQ L.q μ0 P cI) {z:Array Oper} {st stF:St} (hedges:sd 0 z.toList=true)
  (hrun:jL P h cI z 0 z.toList [] (rG (wI z.toList) st)=some stF) (hd:∀o∈z.toList,∀i,o.dst=some i->i<N)
  (hQ:∀a' w' μ' O,Rel N w0 μ0 L μ' O stF a' w'->Q .normal a' w') {μ:Mu} {loc:Nat->Value} {a:Act} {w:World} (hR:Rel N w0 μ0 L μ loc st a w) {F:Fence} (hF:Wd F):
  wpAnyIn F 0 P .any z Q z.size (Array.replicate z.size false) a w:=by
 obtain⟨fs0,hl0,hm0,hs0,TR,_,hp0⟩:=run_of z.toList 0 [] _ _ (λk o hk=>by simp_all) hrun;let D:Array Bool->Nat->Prop:=λl j=>l.getD j false=true
 have main:∀(B:Nat) (l:Array Bool) (a:Act) (w:World) (μ:Mu) (loc:Nat->Value) (fs:List (Nat×gi)) (x:St),l.size=z.size->fs.length<=B->
   (∀j o,D l j->z[j]? =some o->∀e∈o.after.toList,Region.binds .any e=true->D l e.on)->
   (∀j,j∈fs.map (·.1)↔j<z.size/\¬D l j)->fs.Pairwise (λp q=>p.1<q.1)->Ma (qo P h cI z) fs x stF->fs.Pairwise (λp q=>p.2.conflict q.2=true->reach z 12 q.1 p.1=true)->Rel N w0 μ0 L μ loc x a w->
   wpAnyIn F 0 P .any z Q B l a w:=by
  intro B;induction B with
  |zero=>intro l a w μ loc fs x hsz hle vp G _ I _ R;have MS:fs=[]:=kY af;subst MS;have hx:x=stF:=I;subst hx;refine⟨?_,hQ _ _ _ _ R⟩;unfold Region.ready;apply xG.2;grind
  |succ B ih=>
   intro l a w μ loc fs x hsz hle vp G K I hpair R;have hready:∀i,i∈Region.ready .any z l->∃o,z[i]? =some o/\i<z.size/\¬D l i/\∀e∈o.after.toList,Region.binds .any e=true->D l e.on:=by
    intro i hi;unfold Region.ready at hi;simp only[cH,eM,aJ,iA] at hi;obtain⟨U,hnl,H⟩:=hi;have ho:z[i]? =some (z[i]'U):=vv U;refine⟨_,ho,U,?_,?_⟩
    .have hl':i<l.size:=by omega
     have:l[i]=false:=by simpa[Array.getD,hl'] using hnl
     simp[D,Array.getD,hl',this]
    .intro e he hb;simp only[ho,cR,qN] at H;have:=CN.1 H e (by simpa using he);simpa[hb,D] using this
   have aaA:∀i,i<z.size->∀j,D (l.setIfInBounds i true) j↔(D l j\/j=i):=by
    intro i hi j;have hl':i<l.size:=by omega
    by_cases S:j<l.size
    .by_cases e:i=j
     .subst e;simp[D,Array.getD,S]
     .have e':j≠i:=λh=>e h.symm
      simp[D,Array.getD,S,e,e',Array.getElem_setIfInBounds]
    .have e':j≠i:=λh=>by subst h;exact S hl'
     have h1:(l.setIfInBounds i true).getD j false=false:=by simp[Array.getD,S]
     have h2:l.getD j false=false:=by simp[Array.getD,S]
     simp only[D,h1,h2,e',eS]
   refine⟨λMS=> ?_,λi hi=> ?_⟩
   ·
    cases fs with
    |nil=>have hx:x=stF:=I;subst hx;exact hQ _ _ _ _ R
    |cons p fs=>
     exfalso;have hp:=(G p.1).1 ah;have hlow:∀k,k<p.1->D l k:=λk hk=>dz λhn=>by
      have:=(G k).2 ⟨af,hn⟩;simp only[aS,aG] at this;rcases this with e|hk'
      .omega
      .obtain⟨q,hq,rfl⟩:=aD.1 hk';have:=(dA.1 K).1 q hq;omega
     have ho:z[p.1]? =some (z[p.1]'hp.1):=vv hp.1;have hs2:=XK hedges p.1 (z[p.1]'hp.1) ah;have hl':p.1<l.size:=by omega
     have hmem':p.1∈Region.ready .any z l:=by
      unfold Region.ready;simp only[cH,eM,aJ,iA];refine⟨hp.1,?_,?_⟩
      .grind
      .simp only[ho,cR,qN];apply CN.2;intro e he;cases hb:Region.binds .any e with
       |false=>rfl
       |true=>have:=hlow e.on (by simpa using hs2 e (by simpa using he) hb);simpa[D] using this
     rw[MS] at hmem';cases hmem'
   .obtain⟨o,ho,U,hnD,H⟩:=hready i hi;obtain⟨p,hpm,hpe⟩:=aD.1 ((G i).2 ⟨U,hnD⟩);obtain⟨pre,post,rfl⟩:=CO hpm;subst hpe;have hpre:∀q∈pre,q.2.conflict p.2=false:=λq hq=>by
     cases hc:q.2.conflict p.2 with
     |false=>rfl
     |true=>have hr:=(oD.1 hpair).2.2 q hq p ah hc;have:=NQ vp 12 p.1 q.1 (λo' ho'=>by rw[ho] at ho';injection ho' with ho';subst ho';exact H) hr;exact absurd this ((G q.1).1 (by simp only[bM,bw];exact .inl (aD.2 ⟨q,hq,rfl⟩))).2
    obtain⟨s1,V,hruns',_⟩:=Ma.front (i:=p.1) (f:=p.2) pre x I hpre;have hnext:∀a' w' μ' O,Rel N w0 μ0 L μ' O s1 a' w'->wpAnyIn F 0 P .any z Q B (l.setIfInBounds p.1 true) a' w':=λa' w' μ' O hR'=>by
     have hnp:∀q∈pre++post,q.1≠p.1:=λq hq e=>by
      rcases bw.1 hq with h1|h1
      .have:=(oD.1 K).2.2 q h1 p (by simp);omega
      .have:=(dA.1 (oD.1 K).2.1).1 q h1;omega
     refine ih _ a' w' μ' O (pre++post) s1 (by simp[hsz]) (by simp at hle⊢;omega) (λj oj S hoj e he hb=> ?_) (λj=> ?_) (K.sublist ah) hruns' (hpair.sublist ah) hR'
     .grind
     .rw[aaA _ U];have:=G j;simp only[bM,aS,bw,aG] at this⊢;constructor
      .intro S;obtain⟨k1,k2⟩:=this.1 (S.elim .inl λh=> .inr (.inr h));refine⟨k1,λh=>h.elim k2 λe=> ?_⟩;subst e;rcases S with S|S<;>obtain⟨q,hq,e⟩:=aD.1 S<;>exact hnp q (by simp[hq]) e
      .rintro⟨k1,k2⟩;rcases this.2 ⟨k1,λh=>k2 (.inl h)⟩ with h1|h1|h1
       .exact .inl h1
       .exact absurd (.inr h1) k2
       .exact .inr h1
    have hdo :=hd o (by grind);unfold wpOpIn;simp[ho];simp[qo,ho] at V;split at V
    .rename_i hw;rw[yY R hw];exact JJ R y6 hdo V hnext F hF
    .rename_i hw;injection V with V;subst V;rw[yY R hw];exact⟨λf _=>hF.fn f,hnext _ _ _ _ (R.set hdo (rfl))⟩
    simp_all
 have hnone:∀j,¬D (Array.replicate z.size false) j:=λj=>by by_cases S:j<z.size<;>simp[D,Array.getD]
 refine main _ _ a w _ _ _ _ ah (by simp[hl0]) (λj o S=>absurd S (hnone j)) (λj=> ?_) hs0 TR hp0 (Rel.rG _ _ hR);simp_all
end
