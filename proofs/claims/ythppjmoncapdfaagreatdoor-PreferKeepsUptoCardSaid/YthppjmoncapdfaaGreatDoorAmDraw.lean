/- THE ABSTRACT MACHINE. -/
import Derived.Test.YthppjmoncapdfaaGreatDoorAmRun
set_option linter.all false
namespace Go.AM
open Go.RowKit
section
variable {P:Program} {h:Hint} {cH:dW}
def kD {q l:St} {x:Operand} (w:∀t,x= .tmp t->q.env t=l.env t) (ty:TypeId):bw P ty q x=bw P ty l x:=by cases x with
 |tmp t=>exact w t rfl
 |_=>rfl
def L2 (P:Program) (q l:St) (x:Operand):Prop:=∀ty w,bw P ty q x=some w->∀id∈w.ids,q.ob id=l.ob id
def vA {q l:St} {v:SV} (z:∀id∈v.ids,q.ob id=l.ob id):elems q v=elems l v:=by cases v with
 |sub id s B w=>grind[elems,SV.ids]
 |row id=>grind[elems,SV.ids]
 |pv x=>cases x<;>rfl
 |_=>rfl
def QV {q l:St} {v:SV} (w:∀id∈v.ids,q.ob id=l.ob id):lenOf q v=lenOf l v:=by cases v with
 |row id=>grind[lenOf,SV.ids]
 |pv x=>cases x<;>rfl
 |_=>rfl
def II {q l:St} {v:SV} (w:∀id∈v.ids,q.ob id=l.ob id):maps q v=maps l v:=by cases v with
 |row id=>grind[maps,SV.ids]
 |pv x=>cases x<;>rfl
 |_=>rfl
def Uh {z l:St} {v:SV} (B:∀id∈v.ids,z.ob id=l.ob id):me z v=me l v:=by cases v with
 |row id=>grind[me,SV.ids]
 |ag w=>
  have key:∀w:List _,(∀id∈(SV.ag w).ids,z.ob id=l.ob id)->jQ z w=jQ l w:=by intro w;induction w with
   |nil=>intro _;rfl
   |cons c w D=>grind[SV.ids,jQ]
  simp[me,key _ B]
 | «at» id q=>cases q with
  |full=>rfl
  |nr i=>grind[me,SV.ids]
 |_=>rfl
def KE {st st':St} {xs:List Operand} {ts:List TypeId} (l:∀x∈xs,L2 P st st' x) (w:∀x∈xs,∀ty,bw P ty st x=bw P ty st' x):jt P st xs ts=jt P st' xs ts:=by induction xs generalizing ts with
 |nil=>rfl
 |cons x xs B=>
  have z:(bw P (ts.headD 0) st x).bind (me st)=(bw P (ts.headD 0) st' x).bind (me st'):=by rw[<-w x ah];cases q:bw P _ _ x with
   |none=>rfl
   |some D=>exact Uh (l x ah _ _ q)
  simp_all[jt]
def z7 {st st':St} {b:Bool}:∀{xs:List Operand} {ts:List TypeId},(∀x∈xs,∀ty,bw P ty st x=bw P ty st' x)->rA P b st xs ts=rA P b st' xs ts
 |[],_,_=>rfl
 |x::xs,ts,l=>by simp[rA,NA];rw[l x ah,z7 (λy q=>l y (by simp[q]))]
theorem sG {w q:St} {ty:Nat->TypeId} {l:List (Nat×Operand)} (z:∀x∈l.map (·.2),∀t,bw P t w x=bw P t q x):partsOf P ty w l=partsOf P ty q l:=by induction l with
 |nil=>rfl
 |cons p l B=>simp_all[partsOf]
theorem yQ {z w:St} {b:Bool} {q:AV} {l:List Operand} (B:∀x∈l,∀t,bw P t z x=bw P t w x):mh P z b q l=mh P w b q l:=by induction l generalizing q with
 |nil=>rfl
 |cons x l D=>simp_all[mh]
def Rt {B l:St} {c:Call} (q:∀x∈c.args.toList,L2 P B l x) (G:∀x∈c.args.toList,∀ty,bw P ty B x=bw P ty l x):wX P c B=wX P c l:=by
 obtain⟨H,⟨args⟩,tys⟩:=c;unfold wX;simp at G q⊢;split
 .rename_i x;have z:=G x ah;have w:=q x ah;split
  .rename_i t _;rw[<-z t];cases F:bw P t _ x with
   |none=>simp
   |some I=>have:=QV (w t _ F);have D:=II (w t _ F);grind
  .rfl
 .grind[yQ]
 .grind[yQ]
 .rfl
def Bv {st st':St} {x:Option Operand} (l:∀y,x=some y->∀ty,bw P ty st y=bw P ty st' y):ng P st x=ng P st' x:=by cases x with
 |none=>rfl
 |some y=>simp[ng,l y _]
def UI {B w:St} {o:Oper} (D:Rj o.op=false->∀x∈o.op.operands.toList,L2 P B w x) (q:∀x∈o.op.operands.toList,∀ty,bw P ty B x=bw P ty w x):eU P o B=eU P o w:=by obtain⟨dst,op,type,pos,after,guard⟩:=o;simp only at q;cases op with
 |move x=>simp_all[Op.operands,eU]
 |assign x=>simp_all[Op.operands,eU]
 |pick c a b=>simp_all[Op.operands,eU]
 |binOp op t x y t'=>simp_all[Op.operands,eU]
 |unOp op t x=>simp_all[Op.operands,eU]
 |convert s d x=>
  have z:=q x (by simp[Op.operands]);have G:=D rfl x (by simp[Op.operands]) s;have he:(bw P s B x).bind (elems B)=(bw P s w x).bind (elems w):=by rw[<-z s];cases F:bw P s B x with
   |none=>rfl
   |some I=>exact vA (G _ F)
  simp only[eU,z 0,he]
 |nilCheck x=>simp_all[Op.operands,eU]
 |fieldAddr t x f=>simp_all[Op.operands,eU]
 |field t x f=>simp_all[Op.operands,eU]
 |indexAddr t x i=>
  have z:=q x (by simp[Op.operands]);have S:=q i (by simp[Op.operands]);have G:=D rfl x (by simp[Op.operands]) t;have Pj:wN P B t x i=wN P w t x i:=by unfold wN;rw[<-z t,<-S 0];cases F:bw P t B x with
   |none=>simp
   |some I=>have H:=G _ F;grind[isSlice,id,bw,SV.ids]
  simp_all[B1,eU]
 |index t x i=>simp_all[Op.operands,eU]
 |load t x=>have z:=q x (by simp[Op.operands]);have G:=D rfl x (by simp[Op.operands]) 0;simp only[eU];rw[<-z 0];cases F:bw P 0 B x with
  |none=>rfl
  |some I=>have H:=G _ F;grind[id,SV.ids]
 |lookup t x k ok=>
  have z:=q x (by simp[Op.operands]);have hk:=q k (by simp[Op.operands]);have G:=D rfl x (by simp[Op.operands]) t;have R:(bw P t B x).bind (maps B)=(bw P t w x).bind (maps w):=by rw[<-z t];cases F:bw P t B x with
   |none=>rfl
   |some I=>exact II (G _ F)
  have O:(bw P t B x).bind (FI B)=(bw P t w x).bind (FI w):=by rw[<-z t];cases F:bw P t B x with
   |none=>rfl
   |some I=>have:=G _ F;cases I with
    |row id=>grind[FI,id,SV.ids]
    |_=>rfl
  simp only[eU,R,hk,O]
 |extract x i=>simp_all[Op.operands,eU]
 |slice t x lo V mx=>cases mx with
  |some m=>simp only[eU,VD];cases lo with
   |some l=>rfl
   |none=>cases V with
    |none=>rfl
    |some y=>have z:=q x (by simp[Op.operands]);have S:=q y (by simp[Op.operands]);have R:=q m (by simp[Op.operands]);have G:=D rfl x (by simp[Op.operands]) t;simp only;rw[<-S 0,<-R 0,<-z t];cases F:bw P t B x with
     |none=>rfl
     |some I=>have H:=G _ F;grind[id,SV.ids]
  |none=>have z:=q x (by simp[Op.operands]);have hl:=Bv (P:=P) (st:=B) (st':=w) (x:=lo) (λy e=>by simp_all[Op.operands]);have hh:=Bv (P:=P) (st:=B) (st':=w) (x:=V) (λy e=>by simp_all[Op.operands]);have G:=D rfl x (by simp[Op.operands]) t;simp[eU];rw[<-z t];cases F:bw P t _ x with
   |none=>simp
   |some I=>have H:=G _ F;grind[SV.ids]
 |build t U=>grind[sG,Op.operands,eU,ya]
 |call c=>
  have K:∀x∈c.args.toList,x∈(Op.call c).operands.toList:=λx z=>by simp_all[Op.operands,Call.operands]
  have:=Rt (λx z=>D rfl x (K x z)) (λx z=>q x (K x z));assumption
 |_=>simp[eU]
def uy {D:St}:∀{l:List Operand} {x:Operand} {ty:TypeId} {B:SV} {id:Nat},x∈l->bw P ty D x=some B->id∈B.ids->id∈Lg D l:=by intro l;induction l with
 |nil=>simp
 |cons y l F=>
  intro x ty B id z w q;rcases aF.1 z with rfl|z
  .cases x with
   |tmp t=>simp_all[bw,Lg]
   |const v=>simp[bw] at w;cases G:ofConst P ty v with
    |none=>simp_all
    |some y=>grind[SV.ids]
   |func f=>grind[bw,SV.ids]
   |global g=>simp[bw] at w
  .have:=F z w q;cases y with
   |tmp t=>simp_all[Lg]
   |_=>assumption
def vZ (q:St):∀(n:Nat) (l done:List Nat),∀id∈done,id∈ku q n l done
 |0,l,done,id,h=>by assumption
 |n+1,[],done,id,h=>by assumption
 |n+1,x::l,done,id,h=>by simp only[ku];cases done.contains x with
  |true=>exact vZ _ n _ _ _ h
  |false=>exact vZ _ n _ _ _ (by simp[h])
def q8 {w q:St}:∀(n:Nat) (l done:List Nat),(∀id∈ku w n l done,w.ob id=q.ob id)->ku w n l done=ku q n l done
 |0,l,done,h=>by rfl
 |n+1,[],done,h=>by rfl
 |n+1,x::l,done,h=>by simp only[ku] at h⊢;cases z:done.contains x with
  |true=>rw[z] at h;exact q8 n _ _ h
  |false=>
   rw[z] at h;have D :=h x (vZ _ n _ _ x ah);have B:GJ w x=GJ q x:=by simp[GJ,D]
   rw[<-B];exact q8 n _ _ h
def wk {z w:St} {ids:List Nat} {B:Nat->Nat}:∀{l:List (Nat×Nat)},(∀p∈l,z.ob p.1=w.ob p.1)->lD z ids B l=lD w ids B l
 |[],_=>rfl
 |p::l,h=>by obtain⟨id,F⟩:=p;simp[lD];rw[h (id,F) ah,wk (λq D=>h q (by simp[D]))]
def x7 {z l:St}:∀{xs:List Operand} {q:List TypeId},(∀x∈xs,∀ty,bw P ty z x=bw P ty l x)->tn P h z xs q=tn P h l xs q
 |[],q,_=>rfl
 |x::xs,q,w=>by simp[tn,Zc];rw[w x ah,x7 (λy B=>w y (by simp[B]))]
def Mb {st st':St} {c:Call} {f:Operand} (D:bw P 0 st f=bw P 0 st' f) (B:∀x∈c.args.toList,∀ty,bw P ty st x=bw P ty st' x)
  (l:∀g args,tD P h st c f=some (g,args)->∀id∈kK st args,st.ob id=st'.ob id):rY P h cH st c f=rY P h cH st' c f:=by
 have e1:tD P h st c f=tD P h st' c f:=by unfold tD;rw[D,x7 B]
 unfold rY;rw[<-e1];cases G:tD P h _ c f with
 |none=>rfl
 |some p=>
  obtain⟨g,args⟩:=p;simp only;have q:=l g _ G;have w:kK _ _=kK _ _:=q8 _ _ _ q;rw[<-w];have z:lD _ (kK st args) (qG (jw (kK st args))) (jw (kK st args))=lD _ _ _ _:=
   wk (λp F=>q _ (by
    have:p.1∈(jw _).map _:=aC.2 ⟨p,F,rfl⟩
    simp_all[jw,sZ]))
  rw[z]
def Tx {D q:St} {o:Oper} (H:Rj o.op=false->∀id∈Bu D o,D.ob id=q.ob id) (R:∀id∈Jn P h o D,D.ob id=q.ob id) (G:∀t∈slotsOf o,D.env t=q.env t):eo P h cH o D=eo P h cH o q:=by
 have K:Rj o.op=false->∀x∈o.op.operands.toList,L2 P D q x:=λhn x F ty sv ho id U=>H hn id (uy F ho U)
 have z:∀x∈o.op.operands.toList,∀ty,bw P ty D x=bw P ty q x:=λx F ty=>kD (λt e=>G t (by
  subst e
  exact fm.2 ⟨.tmp t,F,rfl⟩)) ty
 have I:=UI (P:=P) (o:=o) K z;obtain⟨S,op,type,pos,after,guard⟩:=o;simp only at z;cases op with
 |buildSlice t len O=>
  have hp:∀ty,partsOf P ty D O.toList=partsOf P ty q O.toList:=λty=>sG (λx F=>z x (by simpa[Op.operands] using F))
  simp[eo,kA,hp]
 |call c=>obtain⟨cal,⟨args⟩,⟨tys⟩⟩:=c;cases cal with
  |value f=>
   have w:∀x∈args,x∈(Op.call { callee:=Callee.value f,args:=⟨args⟩,argTypes:=⟨tys⟩ }).operands.toList:=λx F=>by simp_all[Op.operands,Call.operands,ji,bu]
   have hf:=z f (by simp[Op.operands,Call.operands]);have ha:=KE (P:=P) (st:=D) (st':=q) (xs:=args) (ts:=tys) (λx F=>K rfl x (w x F)) (λx F=>z x (w x F));have hr:args.any (kI D)=args.any (kI q):=by
    have key:∀x∈args,kI D x=kI q x:=λx F=>by cases x with
     |tmp t=>have:=z (.tmp t) (w _ F) 0;simp_all[bw,kI]
     |_=>rfl
    clear ha w z I G K H R;induction args with
    |nil=>rfl
    |cons x xs ih=>simp_all
   have V:args.any (λx=>(oq h D x).isSome)=args.any (λx=>(oq h q x).isSome):=by
    have key:∀x∈args,oq h D x=oq h q x:=λx F=>by cases x with
     |tmp t=>have:=z (.tmp t) (w _ F) 0;simp_all[bw,oq]
     |_=>rfl
    clear ha w z I G hr K H R;induction args with
    |nil=>rfl
    |cons x xs ih=>simp_all
   have hwide:wide D { callee:=Callee.value f,args:=⟨args⟩,argTypes:=⟨tys⟩ } f=wide q { callee:=Callee.value f,args:=⟨args⟩,argTypes:=⟨tys⟩ } f:=by
    have kf:TE D f=TE q f:=by cases f with
     |tmp t=>simp_all[bw,TE]
     |_=>rfl
    have key:∀x∈args,Dx D x=Dx q x:=λx F=>by cases x with
     |tmp t=>have:=z (.tmp t) (w _ F) 0;simp_all[bw,Dx]
     |_=>rfl
    have kk:args.any (Dx D)=args.any (Dx q):=by clear ha w z I G hr K H V R;induction args with
     |nil=>rfl
     |cons x xs ih=>simp_all
    simp only[wide,kf,kk]
   cases how:S.any h.owns.contains with
   |true=>simp[eo,how]
   |false=>
   cases hst:S.any h.stay.contains with
   |false=>simp_all[eo]
   |true=>
    have hc:=Mb (P:=P) (h:=h) (cH:=cH) (st:=D) (st':=q) (c:={ callee:=Callee.value f,args:=⟨args⟩,argTypes:=⟨tys⟩ }) (f:=f) (hf 0) (λx F=>z x (w x F)) (λg as hg id U=>R id (by simp_all[Jn,ai]));simp_all[eo]
  |_=>assumption
 |makeFunc f first B=>cases f with
  |func g=>
   have hc:tq D B.toList=tq q B.toList:=by
    have key:∀x∈B.toList,∀ty,bw P ty D x=bw P ty q x:=λx F=>z x (by simp_all[Op.operands,ji,bu])
    clear z I G K H;generalize B.toList=l at key;induction l with
    |nil=>rfl
    |cons x xs ih=>cases x with
     |tmp t=>simp_all[bw,tq]
     |_=>rfl
   have Sk:qg D B.toList=qg q B.toList:=by
    have key:∀x∈B.toList,∀ty,bw P _ _ x=bw P _ _ x:=λx F=>z x (by simp_all[Op.operands])
    generalize B.toList=l at key;induction l with
    |nil=>rfl
    |cons x xs ih=>cases x with
     |tmp t=>simp_all[bw,qg]
     |_=>rfl
   have hc3:qg D first.toList=qg q first.toList:=by
    have key:∀x∈first.toList,∀ty,bw P _ _ x=bw P _ _ x:=λx F=>z x (by simp_all[Op.operands])
    generalize first.toList=l at key
    induction l with
    |nil=>rfl
    |cons x xs ih=>cases x with
     |tmp t=>simp_all[bw,qg]
     |_=>rfl
   simp[eo,hc,Sk,hc3]
  |_=>rfl
 |assign x=>simp[eo,I]
 |lookup t x k ok=>simp[eo,I]
 |build t ps=>grind[sG,Op.operands,eo,ya]
 |load t x=>simp[eo,I]
 |_=>assumption
def yK {z q:St} {l:Array Oper} {o:Oper} (w:∀t∈gF l o,z.env t=q.env t):pz l o z=pz l o q:=by grind[pz,gF]
theorem X8 {a b:List Nat} {x:Nat} (l:x∈a) (q:x∈b):meets a b=true:=by simp[meets];grind[Nat.beq_refl]
def KO {t:TypeId} {s D:St} {F w:SV} {id:Nat} (l:storeAt P t s F w=some D) (z:targetId F=some id):
  D.env=s.env/\(∀j,j≠id->D.ob j=s.ob j)/\∀x:St,x.ob id=s.ob id->(∀j∈w.ids,x.ob j=s.ob j)->storeAt P t x F w=some { x with ob:=put x.ob id (D.ob id) }:=by
 have H:∀x:St,(∀j∈w.ids,x.ob j=s.ob j)->rj x w=rj s w:=λx B=>by cases w with
  |row j=>simp_all[rj,SV.ids]
  |pv v=>cases v<;>rfl
  |_=>rfl
 cases F with
 |ptr i G=>
  simp[targetId,aM] at z;subst z;simp[storeAt] at l;split at l
  .split at l
   .split at l
    .injection l with l;subst l;refine⟨rfl,λj q=>br _ _ (λe=>q e.symm),λx B _=> ?_⟩;simp_all[storeAt,cr]
    simp_all
   .split at l
    .injection l with l;subst l;refine⟨rfl,λj q=>br _ _ (λe=>q e.symm),λx B _=> ?_⟩;simp_all[storeAt,cr]
    simp_all
   .split at l
    .injection l with l;subst l;refine⟨rfl,λj q=>br _ _ (λe=>q e.symm),λx B I=> ?_⟩;simp[storeAt,cr];simp_all
    simp_all
  simp_all
 |rp i K k G=>
  simp[targetId,aM] at z;subst z;simp[storeAt] at l;split at l
  .split at l
   .split at l
    .injection l with l;subst l;refine⟨rfl,λj q=>br _ _ (λe=>q e.symm),λx B _=> ?_⟩;simp_all[storeAt,cr]
    simp_all
   simp_all
  simp_all
 |_=>simp[targetId] at z
theorem yo {id:Nat} {v:SV} (h:v.mentions id=true):id∈v.ids:=by
 have l:∀w:List _,w.any (pV.mentions id)=true->id∈w.filterMap (fun
  | .p j| .r j=>some j
  | .v _=>none):=λw F=>by
  grind[pV.mentions,beq_iff]
 induction v with
 |two s b B=>exact B h
 |ptr j z=>simp[SV.ids,bW];exact(beq_iff.1 h).symm
 |row j=>simp[SV.ids,bW];exact(beq_iff.1 h).symm
 |rp j D i z=>simp[SV.ids,bW];exact(beq_iff.1 h).symm
 |sub j D H G=>simp[SV.ids,bW];exact(beq_iff.1 h).symm
 |cl f w=>exact l _ h
 |ag w=>exact l _ h
 | «at» j q=>simp[SV.mentions] at h;simp[SV.ids];grind[beq_iff]
 |_=>simp[SV.mentions] at h
def St.same {x y:St} (l:∀t,x.env t=y.env t) (q:∀t,x.ob t=y.ob t):x=y:=by obtain⟨z,B⟩:=x;have e1 :=funext l;have w :=funext q;simp_all
def Ya (p:Nat×Option AV) (v:SV):SV:=match p.2 with
 |none=>v.dF p.1
 |some a=>SV.dK p.1 a v
def kB (l:List (Nat×Option AV)) (v:SV):SV:=l.foldl (λv p=>Ya p v) v
def Ob.zR (g:SV->SV):Ob->Ob
 | .box t cells=> .box t (cells.map g)
 |o=>o
def fG (f:fZ) (q:Nat->Option SV) (w:Nat->Option Ob) (l:List (Nat×Option AV)) (x:St):St:=
 {env:=λt=>if t∈f.ws then q t else(x.env t).map (kB l),ob:=λj=>if j∈f.wo then w j else(x.ob j).map (Ob.zR (kB l)) }
def Nc (p:Nat×Option AV) (v:SV):∃c:SV,(∀id,c.mentions id=false)/\Ya p v=(bif v.mentions p.1 then c else v)/\((∀j,v≠ .row j)->c= .any):=by obtain⟨id,x⟩:=p;cases x with
 |none=>exact⟨_,λ_=>rfl,rfl,λ_=>rfl⟩
 |some a=>cases v with
  |row j=>exact⟨_,λ_=>rfl,rfl,λh=>absurd rfl (h j)⟩
  |_=>exact⟨_,λ_=>rfl,rfl,λ_=>rfl⟩
def Nd {p:Nat×Option AV} {v:SV} (h:v.mentions p.1=false):Ya p v=v:=by obtain⟨c,_,e,_⟩:=Nc p v;simp_all
def mv1_sub {p:Nat×Option AV} {v:SV} {j:Nat} (h:(Ya p v).mentions j=true):v.mentions j=true:=by obtain⟨c,l,e,_⟩:=Nc p v;grind
theorem acn {p q:Nat×Option AV} (w:p.1≠q.1) (v:SV):Ya p (Ya q v)=Ya q (Ya p v):=by obtain⟨c,F,e,k⟩:=Nc p v;obtain⟨c',l,D,k'⟩:=Nc q v;cases B:v.mentions p.1 with
 |false=>cases z:v.mentions q.1 with
  |false=>simp_all
  |true=>simp_all[Nd]
 |true=>rw[e,B,ai,Nd (F _)];cases z:v.mentions q.1 with
  |false=>simp_all
  |true=>
   rw[D,z,ai,Nd (l _)];have H:∀j,v≠ .row j:=λj G=>by subst G;exact w ((beq_iff.1 B).symm.trans (beq_iff.1 z))
   simp_all
def wT:∀{l:List (Nat×Option AV)} {v:SV},(∀p∈l,v.mentions p.1=false)->kB l v=v
 |[],v,_=>rfl
 |p::l,v,h=>by show kB l (Ya p v)=v;rw[Nd (h p ah)];exact wT λq w=>h q (by simp[w])
theorem EL:∀{l:List (Nat×Option AV)} {v:SV} {j:Nat},(kB l v).mentions j=true->v.mentions j=true
 |[],v,j,h=>h
 |p::l,v,j,h=>mv1_sub (EL h)
def X9 {l:List (Nat×Option AV)} {p:Nat×Option AV}:∀{v:SV},(∀q∈l,p.1≠q.1)->kB l (Ya p v)=Ya p (kB l v):=by induction l with
 |nil=>intro v _;rfl
 |cons q l w=>intro v h;show kB l _=Ya p (kB l _);grind[acn]
theorem B7:∀{l m:List (Nat×Option AV)} (v:SV),(∀p∈l,∀q∈m,p.1≠q.1)->kB l (kB m v)=kB m (kB l v)
 |[],m,v,_=>rfl
 |p::l,m,v,h=>by show kB l (Ya p _)=kB m (kB l _);rw[<-X9 (h p ah),B7 _ λr w=>h r (by simp[w])]
def mapS_id {g:SV->SV} {o:Ob} (h:∀v,(∀id,v.mentions id=true->o.mentions id=true)->g v=v):o.zR g=o:=by cases o with
 |box t cells=>simp[Ob.zR];congr 1;refine(gR λc l=>h c λid q=> ?_).trans (jT _);grind[Ob.mentions]
 |_=>rfl
def uV {l:List (Nat×Option AV)} {o:Ob} (h:∀p∈l,o.mentions p.1=false):o.zR (kB l)=o:=
 mapS_id λv w=>wT λp q=>by grind
def ab7 {l:List (Nat×Option AV)} {o:Ob} {j:Nat} (h:(o.zR (kB l)).mentions j=true):o.mentions j=true:=by cases o with
 |box t cells=>grind[Ob.zR,Ob.mentions,EL]
 |_=>exact h
theorem X7 {l m:List (Nat×Option AV)} (o:Ob) (h:∀p∈l,∀q∈m,p.1≠q.1):(o.zR (kB m)).zR (kB l)=(o.zR (kB l)).zR (kB m):=by cases o with
 |box t cells=>simp[Ob.zR,eS];grind[List.map_congr_left,B7]
 |_=>rfl
def DC (o:Ob):o.zR (kB [])=o:=uV λp l=>by cases l
structure Hp (sf:St->Option St) (s:St) (f:fZ) (ev:Nat->Option SV) (ov:Nat->Option Ob) (l:List (Nat×Option AV)):Prop where
 keys:∀p∈l,p.1∈f.mv
 run:∀x:St,(∀t∈f.rs,x.env t=s.env t)->(∀j∈f.ro,x.ob j=s.ob j)->(∀j∈f.rl,(x.ob j).map Ob.s9=(s.ob j).map Ob.s9)->sf x=some (fG f ev ov l x)
 len:∀j∈f.wo,f.kp j=true->(ov j).map Ob.s9=(s.ob j).map Ob.s9
 acp:∀t∈f.ws,∀v id,ev t=some v->v.mentions id=true->id∈f.men
 acq:∀j∈f.wo,∀o id,ov j=some o->o.mentions id=true->id∈f.men
 mvm:∀id∈f.mv,id∈f.men
structure Pt (s:St) (f:fZ):Prop where
 inE:∀t∈f.rs,∀v id,s.env t=some v->v.mentions id=true->id∈f.men
 inO:∀j∈f.ro,∀o id,s.ob j=some o->o.mentions id=true->id∈f.men
 we:∀t v id,s.env t=some v->id∈f.mv->v.mentions id=true->f.we t=true
 oe:∀j o id,s.ob j=some o->id∈f.mv->o.mentions id=true->f.oe j=true
def iV {a b:List Nat} {x y:Nat} (h:meets a b=false) (l:x∈a) (q:y∈b):x≠y:=λe=>by grind[X8]
def LJ (g:SV->SV) (o:Ob):(o.zR g).s9=o.s9:=by cases o<;>rfl
def skN {f:fZ} {q:Nat->Option SV} {w:Nat->Option Ob} {l:List (Nat×Option AV)} {x:St} {j:Nat} (h:¬j∈f.wo):((fG f q w l x).ob j).map Ob.s9=(x.ob j).map Ob.s9:=by simp[fG,aq h];cases x.ob j with
 |none=>rfl
 |some o=>simp[LJ]
def skO {f:fZ} {w:Nat->Option SV} {q:Nat->Option Ob} {l:List (Nat×Option AV)} {x:St} {j:Nat} (h:j∈f.wo):(fG f w q l x).ob j=q j:=by simp[fG,au h]
def rl_kp {r w:List Nat} {k:Nat->Bool} {j:Nat} (h:(r.any λj=>w.contains j&& !(k j))=false) (l:j∈r) (q:j∈w):k j=true:=by simp_all
def swapFx {sp si:St->Option St} {s:St} {B G:fZ} {U R:Nat->Option SV} {op S:Nat->Option Ob} {lp li:List (Nat×Option AV)} (K:Hp sp s B U op lp) (H:Pt s B) (I:Hp si (fG B U op lp s) G R S li) (hc:B.conflict G=false):
  Hp si s G R S li/\Hp sp (fG G R S li s) B U op lp/\Pt (fG G R S li s) B/\fG B U op lp (fG G R S li s)=fG G R S li (fG B U op lp s):=by
 unfold fZ.conflict at hc;simp only[mE] at hc;obtain⟨⟨⟨⟨⟨⟨⟨⟨⟨⟨⟨⟨⟨_,_⟩,d1⟩,d2⟩,d3⟩,d4⟩,d5⟩,d6⟩,d7⟩,d8⟩,d9⟩,d10⟩,d11⟩,d12⟩:=hc;have w9:∀t∈G.rs,B.we t=false:=λt l=>by simp_all
 have w10:∀t∈G.ro,B.oe t=false:=λt l=>by simp_all
 have aE:∀t∈G.rs,(fG B U op lp s).env t=s.env t:=λt l=>by simp only[fG];rw[aq λh=>iV d1 h l rfl];cases e:s.env t with
  |none=>rfl
  |some v=>simp only[cQ];rw[wT λp F=> ?_];cases w:v.mentions p.1 with
   |false=>rfl
   |true=>have:=H.we t v p.1 e (K.keys p F) w;simp_all
 have aO:∀t∈G.ro,(fG B U op lp s).ob t=s.ob t:=λt l=>by simp only[fG];rw[aq λh=>iV d4 h l rfl];cases e:s.ob t with
  |none=>rfl
  |some v=>simp only[cQ];rw[uV λp F=> ?_];cases w:v.mentions p.1 with
   |false=>rfl
   |true=>have:=H.oe t v p.1 e (K.keys p F) w;simp_all
 have bE:∀t∈B.rs,(fG G R S li s).env t=s.env t:=λt l=>by simp only[fG];rw[aq λh=>iV d2 l h rfl];cases e:s.env t with
  |none=>rfl
  |some v=>simp only[cQ];rw[wT λp F=> ?_];cases w:v.mentions p.1 with
   |false=>rfl
   |true=>exact absurd rfl (iV d8 (I.keys p F) (H.inE t l v p.1 e w))
 have bO:∀t∈B.ro,(fG G R S li s).ob t=s.ob t:=λt l=>by simp only[fG];rw[aq λh=>iV d5 l h rfl];cases e:s.ob t with
  |none=>rfl
  |some v=>simp only[cQ];rw[uV λp F=> ?_];cases w:v.mentions p.1 with
   |false=>rfl
   |true=>exact absurd rfl (iV d8 (I.keys p F) (H.inO t l v p.1 e w))
 have nO:∀t∈B.wo,¬t∈G.wo:=λt D z=>iV d6 D z rfl
 have aL:∀t∈G.rl,((fG _ U op lp s).ob t).map _=(s.ob t).map _:=λt l=>by
  by_cases h:t∈B.wo
  .rw[skO h];exact K.len t h (rl_kp d11 l h)
  .exact skN h
 have bK :=λt l hk=>(I.len t l hk).trans (skN λh=>nO t h l)
 have bL:∀t∈B.rl,((fG _ R S li s).ob t).map Ob.s9=(s.ob t).map Ob.s9:=λt l=>by
  by_cases h:t∈G.wo
  .rw[skO h];simp_all
  .exact skN h
 have hk :=λp F q V=>iV d7 (K.keys p F) (I.mvm _ (I.keys q V))
 refine⟨⟨I.keys,λx D z h3=>I.run x (λt l=>(D t l).trans (aE t l).symm) (λt l=>(z t l).trans (aO t l).symm) (λt l=>(h3 t l).trans (aL t l).symm),bK,I.acp,I.acq,I.mvm⟩,
  ⟨K.keys,λx D z h3=>K.run x (λt l=>(D t l).trans (bE t l)) (λt l=>(z t l).trans (bO t l)) (λt l=>(h3 t l).trans (bL t l)),λt l hk=>(K.len t l hk).trans (skN (nO t l)).symm,K.acp,K.acq,K.mvm⟩,
  ⟨λt l v id e w=>H.inE t l v _ ((bE t l).symm.trans e) w,λt l v id e w=>H.inO t l v _ ((bO t l).symm.trans e) w,λt v id e O w=> ?_,λt v id e O w=> ?_⟩,?_⟩
 .simp[fG] at e;split at e
  .rename_i l;exact absurd rfl (iV d7 O (I.acp t l v _ e w))
  .cases e0:s.env t with
   |none=>simp_all
   |some v0=>rw[e0] at e;simp at e;subst e;exact H.we t _ _ e0 O (EL w)
 .simp[fG] at e;split at e
  .rename_i l;exact absurd rfl (iV d7 O (I.acq t l v _ e w))
  .cases e0:s.ob t with
   |none=>simp_all
   |some v0=>rw[e0] at e;simp at e;subst e;exact H.oe t _ _ e0 O (ab7 w)
 .simp[fG,St.mk.injEq];constructor
  .funext t;by_cases D:t∈B.ws
   .rw[au D,aq λz=>iV d3 D z rfl];rw[au D];cases e:U t with
    |none=>rfl
    |some v=>simp;rw[wT λq V=> ?_];cases w:v.mentions _ with
     |false=>rfl
     |true=>exact absurd rfl (iV d8 (I.keys q V) (K.acp t D v _ e w))
   .rw[aq D];by_cases z:t∈G.ws
    .rw[au z,au z];cases e:R t with
     |none=>rfl
     |some v=>simp;rw[wT λq V=> ?_];cases w:v.mentions _ with
      |false=>rfl
      |true=>exact absurd rfl (iV d7 (K.keys q V) (I.acp t z v _ e w))
    .rw[aq z,aq z,aq D];cases s.env t with
     |none=>rfl
     |some v=>grind[B7]
  .funext t;by_cases D:t∈B.wo
   .rw[au D,aq λz=>iV d6 D z rfl];rw[au D];cases e:op t with
    |none=>rfl
    |some v=>simp;rw[uV λq V=> ?_];cases w:v.mentions _ with
     |false=>rfl
     |true=>exact absurd rfl (iV d8 (I.keys q V) (K.acq t D v _ e w))
   .rw[aq D];by_cases z:t∈G.wo
    .rw[au z,au z];cases e:S t with
     |none=>rfl
     |some v=>simp;rw[uV λq V=> ?_];cases w:v.mentions _ with
      |false=>rfl
      |true=>exact absurd rfl (iV d7 (K.keys q V) (I.acq t z v _ e w))
    .rw[aq z,aq z,aq D];cases s.ob t with
     |none=>rfl
     |some v=>grind[X7]
def L1 (w:Nat->St->Option St):List (Nat×fZ)->St->St->Prop
 |[],s,q=>s=q
 |p::l,s,q=>∃z,w p.1 s=some z/\(p.2.all=false->∃B D m,Hp (w p.1) s p.2 B D m/\Pt s p.2)/\L1 w l z q
def ZA {a b:fZ} (h:a.conflict b=false):a.all=false/\b.all=false:=by simp_all[fZ.conflict]
def L1.front {w:Nat->St->Option St} {i:Nat} {f:fZ} {post:List (Nat×fZ)} {U:St}:∀(pre:List (Nat×fZ)) (s:St),L1 w (pre++(i,f)::post) s U->(∀p∈pre,p.2.conflict f=false)->
  ∃s1,w i s=some s1/\L1 w (pre++post) s1 U/\(f.all=false->∃ev ov m,Hp (w i) s f ev ov m)
 |[],s,⟨S,z,F,B⟩,_=>⟨S,z,B,λG=>by simp_all⟩
 |p::pre,s,⟨S,z,F,B⟩,H=>by
  have l:=H p ah;obtain⟨G,hb⟩:=ZA l;obtain⟨ep,op,lp,K,D⟩:=F G;obtain⟨s1,k1,k2,k3⟩:=L1.front _ _ B λq hq=>H q (by simp[hq])
  obtain⟨ei,oi,li,I⟩:=k3 hb;have e1 :=by have:=K.run s (λ_ _=>rfl) (λ_ _=>rfl) (λ_ _=>rfl);rw[z] at this;injection this
  subst e1;obtain⟨O,R,r3,r4⟩:=swapFx K D I l;have V :=by have:=I.run _ (λ_ _=>rfl) (λ_ _=>rfl) (λ_ _=>rfl);rw[k1] at this;injection this
  refine⟨_,O.run s (λ_ _=>rfl) (λ_ _=>rfl) (λ_ _=>rfl),⟨s1,?_,λ_=>⟨ep,op,lp,R,r3⟩,k2⟩,λ_=>⟨ei,oi,li,O⟩⟩;rw[R.run _ (λ_ _=>rfl) (λ_ _=>rfl) (λ_ _=>rfl),r4,V]
def ql (P:Program) (h:Hint) (cH:dW) (l:Array Oper) (k:Nat) (q:St):Option St:=
 match l[k]? with
 |some o=>match pz l o q with
  |some true=>step P h cH o q
  |some false=>some (q.set o.dst .undef)
  |none=>none
 |none=>none
def any_ids {id:Nat} {cells:List SV} (h:cells.any (SV.mentions id)=true):id∈cells.flatMap SV.ids:=by grind[yo]
theorem acC {id:Nat} {o:Ob} (h:o.mentions id=true):id∈o.ids:=by cases o with
 |box t cells=>exact any_ids h
 |_=>cases h
def Mt {G:St->Option St} {s D:St} {f:fZ} {l:List (Nat×Option AV)} (K:∀p∈l,p.1∈f.mv) (B:∀x:St,(∀t∈f.rs,x.env t=s.env t)->(∀j∈f.ro,x.ob j=s.ob j)->(∀j∈f.rl,(x.ob j).map Ob.s9=(s.ob j).map Ob.s9)->G x=some (fG f D.env D.ob l x))
  (w:∀j∈f.wo,f.kp j=true->(D.ob j).map Ob.s9=(s.ob j).map Ob.s9):
  ∃H O m,Hp G s (f.fill s D) H O m/\Pt s (f.fill s D):=by
 have mem:∀{id:Nat} {g:Nat->List _} {l:List _} {t:Nat},t∈l->id∈g t->id∈l.flatMap g:=λF h=>List.mem_flatMap.2 ⟨_,F,h⟩
 refine⟨_,_,l,⟨K,B,w,λt F v id e z=> ?_,λj I o id e z=> ?_,λid q=> ?_⟩,⟨λt F v id e z=> ?_,λj I o id e z=> ?_,λt v id e q z=> ?_,λj o id e q z=> ?_⟩⟩
 .grind[fZ.fill,Mo,yo]
 .grind[fZ.fill,Wx,acC]
 .simp_all[fZ.fill]
 .grind[fZ.fill,Mo,yo]
 .grind[fZ.fill,Wx,acC]
 .grind[fZ.fill]
 grind[fZ.fill]
def jv {l:Type} {x:Option l} {g:l->l} (h:∀v,g v=v):x.map g=x:=by cases x<;>simp[h]
def acU {f:fZ} {s x:St} {d:Option Nat} {v:SV} (l:f.ws=d.toList) (q:f.wo=[]):x.set d v=fG f (s.set d v).env (s.set d v).ob [] x:=by
 refine St.same (λt=> ?_) (λj=> ?_)
 .simp only[fG,l];cases d with
  |none=>exact(jv λ_=>rfl).symm
  |some d=>
   by_cases e:d=t
   .simp_all[St.set,cr]
   .have:¬t∈(some d).toList:=by simp;exact λh=>e h.symm
    rw[aq this];simp[St.set,br _ _ e];exact(jv λ_=>rfl).symm
 .simp[fG,q];rw[jv DC];cases d<;>rfl
def IQ {f:fZ} {s x:St} {d id:Nat} {o:Ob} {v:SV} (l:f.ws=[d]) (q:f.wo=[id]):(x.new id o).set (some d) v=fG f ((s.new id o).set (some d) v).env ((s.new id o).set (some d) v).ob [(id,none)] x:=by
 refine St.same (λt=> ?_) (λj=> ?_)
 .simp[fG,l,bW];by_cases e:t=d
  .simp_all[St.set,cr]
  .rw[aq e];simp[St.set,br _ _ (λh=>e h.symm)];rfl
 .simp[fG,q,bW];by_cases e:j=id
  .simp_all[St.set,St.new,cr]
  .rw[aq e];simp[St.set,St.new,St.dF,br _ _ (λh=>e h.symm)];rfl
def skip_ok {l:Array Oper} {k:Nat} {o:Oper} {s:St} (B:l[k]? =some o) (D:pz l o s=some false):
  ∃q F m,Hp (ql P h cH l k) s ((sX l o).fill s (s.set o.dst .undef)) q F m/\Pt s ((sX l o).fill s (s.set o.dst .undef)):=
 Mt (l:=[]) ah (λx w _ _=>by
  simp[ql,B];rw[yK w,D]
  rw[acU (f:=sX _ o) rfl rfl]) λj z _=>by cases z
def kq (z:St->Option St) (s:St) (f:fZ) (w:Nat->Option SV) (q:Nat->Option Ob) (l:List (Nat×Option AV)):Prop:=
 (∀p∈l,p.1∈f.mv)/\(∀j∈f.wo,f.kp j=true->(q j).map Ob.s9=(s.ob j).map Ob.s9)/\
  ∀x:St,(∀t∈f.rs,x.env t=s.env t)->(∀j∈f.ro,x.ob j=s.ob j)->(∀j∈f.rl,(x.ob j).map Ob.s9=(s.ob j).map Ob.s9)->z x=some (fG f w q l x)
def kq.imp {H:St->Option St} {s:St} {f q:fZ} {D:Nat->Option SV} {G:Nat->Option Ob} {l:List (Nat×Option AV)} (B:kq H s f D G l) (I:∀t∈f.rs,t∈q.rs) (K:∀t∈f.ro,t∈q.ro) (O:∀t∈f.mv,t∈q.mv) (R:∀t,t∈f.ws↔t∈q.ws) (z:∀t,t∈f.wo↔t∈q.wo) (S:∀t∈f.rl,t∈q.rl) (U:∀t∈f.wo,q.kp t=true->f.kp t=true):kq H s q D G l:=
 ⟨λp hp=>O _ (B.1 p hp),λj F V=>B.2.1 j ((z j).2 F) (U j ((z j).2 F) V),λx k1 k2 k3=>by
  rw[B.2.2 x (λt w=>k1 t (I t w)) (λt w=>k2 t (K t w)) (λt w=>k3 t (S t w))]
  simp[fG,R,z]⟩
def kq.at {B:St->Option St} {s z:St} {f:fZ} {q:Nat->Option SV} {w:Nat->Option Ob} {l:List (Nat×Option AV)} (D:kq B s f q w l) (h:B s=some z):z=fG f q w l s:=by have:=D.2.2 s (λ_ _=>rfl) (λ_ _=>rfl) (λ_ _=>rfl);simp_all
def W6 {s1 s2:St->Option St} {s:St} {f1 f2:fZ} {q F:Nat->Option SV} {l G:Nat->Option Ob} {z B:List (Nat×Option AV)} (I:kq s1 s f1 q l z) (K:kq s2 (fG f1 q l z s) f2 F G B):
  ∃S ov,kq (λx=>(s1 x).bind s2) s (f1.then f2) S ov (z++B):=by
 refine⟨λt=>if t∈f2.ws then F t else(q t).map (kB B),λj=>if j∈f2.wo then G j else(l j).map (Ob.zR (kB B)),λp U=> ?_,λj O H=> ?_,λx V k2 k3=> ?_⟩
 .simp[fZ.then,bu];exact(bu.1 U).imp (I.1 p) (K.1 p)
 .simp[fZ.then,aI,fo,iy,List.contains_eq_mem,bM] at H;simp[fZ.then,bu] at O;have D:((fG f1 q l z s).ob j).map Ob.s9=(s.ob j).map Ob.s9:=by
   by_cases a:j∈f1.wo
   .rw[skO a];exact I.2.1 j a (H.1.resolve_right λh=>h a)
   .exact skN a
  by_cases a:j∈f2.wo
  .simp[au a];exact(K.2.1 j a (H.2.resolve_right λh=>h a)).trans D
  .simp[aq a];have b :=O.resolve_left a;rw[<-I.2.1 j b (H.1.resolve_right λh=>h b)];cases l j with
   |none=>rfl
   |some o=>simp[LJ]
 .have e1:=I.2.2 x (λt w=>V t (by simp[fZ.then,w])) (λt w=>k2 t (by simp[fZ.then,w])) (λt w=>k3 t (by simp[fZ.then,w]))
  have R:=K.2.2 (fG f1 q l z x) (λt w=>by simp_all[fG,fZ.then]) (λt w=>by simp_all[fG,fZ.then]) (λt w=>by
   by_cases a:t∈f1.wo
   .rw[skO a,skO a]
   simp_all[skN,fZ.then])
  simp[e1,fH,R,aM];have mm:∀v,kB B (kB z v)=kB (z++B) v:=λv=>by simp[kB]
  refine St.same (λt=> ?_) (λj=> ?_)
  .simp[fG,fZ.then];by_cases a:t∈f2.ws
   .simp_all
   .by_cases b:t∈f1.ws
    .simp_all
    .simp[a,b];cases x.env t with
     |none=>rfl
     |some v=>simp_all
  .simp[fG,fZ.then];by_cases a:j∈f2.wo
   .simp_all
   .by_cases b:j∈f1.wo
    .simp_all
    .simp[a,b];cases x.ob j with
     |none=>rfl
     |some o=>cases o with
      |box t cells=>simp_all[Ob.zR]
      |_=>rfl
def kq.nil (s:St) (f:fZ) (l:f.ws=[]) (q:f.wo=[]):kq some s f (λ_=>none) (λ_=>none) []:=
 ⟨ah,λj w=>(by simp_all),λx _ _ _=>by
  congr 1;refine St.same (λt=> ?_) (λj=> ?_)
  .simp[fG,l];exact(jv λ_=>rfl).symm
  simp_all[fG,jv,DC]⟩
def Jc {s H:St} {id:Nat} (q:s.dK id=some H):∃w G l,kq (λx=>x.dK id) s { ro:=[id],wo:=[id],mv:=[id] } w G l:=by
 unfold St.dK at q;split at q
 .rename_i v D F;refine⟨λ_=>none,λ_=>none,[(id,some v)],by simp,λj _ B=>(by cases B),λx _ z _=> ?_⟩;have e:x.ob id=s.ob _:=z _ ah;unfold St.dK;simp[e,D,F,aM];refine St.same (λt=> ?_) (λj=> ?_)
  .rfl
  .simp[fG,bW];by_cases a:j=id
   .subst a;simp[cr]
   .rw[aq a,br _ _ (λh=>a h.symm)];rfl
 simp_all
def z6:∀{cells:List SV} {s H:St},om cells s=some H->∃q z l,kq (om cells) s { ro:=vi cells,wo:=vi cells,mv:=vi cells } q z l
 |[],s,H,_=>⟨_,_,_,kq.nil s _ rfl rfl⟩
 |c::cells,s,H,G=>by
  have other:(∀id,c≠ .row id)->(∀x,om (c::cells) x=om cells x)/\vi (c::cells)=vi _:=λD=>by cases c<;>first|exact absurd rfl (D _)|exact⟨λ_=>rfl,rfl⟩
  by_cases I:∃id,c= .row id
  .obtain⟨id,rfl⟩:=I;obtain⟨s1,w,B⟩:=dL.1 G;obtain⟨q,z,l,K⟩:=Jc w;obtain⟨S,ov',l',O⟩:=z6 B;rw[K.at w] at O;obtain⟨U,ov2,r3⟩:=W6 K O;exact⟨_,_,_,r3.imp (λt F=>by assumption) (λt F=>by assumption) (λt F=>by assumption) (λt=>by rfl) (λt=>by simp[fZ.then,vi,or_comm]) (λt F=>by assumption) (λt _ hk=>by cases hk)⟩
  .obtain⟨e1,R⟩:=other λid h=>I ⟨id,h⟩
   rw[e1] at G;obtain⟨q,z,l,r⟩:=z6 G;refine⟨q,z,l,?_⟩;rw[R];exact⟨r.1,r.2.1,λx w B V=>by rw[e1];exact r.2.2 x w B V⟩
def Yj {s S:St} {t:Nat} (B:u7 s t=some S):∃z D l,kq (λx=>u7 x t) s (Nv s t) z D l:=by
 unfold u7 at B;unfold Nv;split at B
 .rename_i id G;obtain⟨z,D,l,r⟩:=Jc B;refine⟨z,D,l,r.1,r.2.1,λx q w F=> ?_⟩;have e :=q t ah;simp[u7,e,G];exact r.2.2 x ah w ah
 .rename_i id R G;split at B
  .rename_i U cells I;obtain⟨z,D,l,r⟩:=z6 B;refine⟨z,D,l,r.1,r.2.1,λx q w F=> ?_⟩;have e :=q t ah;have K:x.ob id=s.ob _:=w _ ah;simp[u7,e,G,K,I];exact r.2.2 x ah (λj H=>w j (by simp[H])) ah
  simp_all
 .refine⟨λ_=>none,λ_=>none,[],?_⟩;have O:∀x:St,x.env t=s.env t->u7 x t=some x:=λx e=>by
   simp_all[u7]
  refine⟨ah,λj H=>(by simp at H),λx q w F=> ?_⟩;simp only;rw[O x (q t ah)];exact(kq.nil s _ rfl rfl).2.2 x q w F
theorem QA {w l:St} {t:TypeId} {x z:Operand} (U:∀ty,bw P ty w x=bw P ty l x) (R:∀ty,bw P ty w z=bw P ty l z) (B:∀ty H,bw P ty w x=some H->∀id∈H.ids,(w.ob id).map Ob.s9=(l.ob id).map Ob.s9):wN P w t x z=wN P l t x z:=by
 unfold wN;rw[<-U,<-R];split<;>try rfl
 .rename_i e s id q i hs S hq;have k:=B t _ S id (by simp[SV.ids]);cases e1:w.ob _ with
  |none=>grind
  |some V=>rw[e1] at k;cases I:l.ob _ with
   |none=>simp_all
   |some F=>rw[I] at k;simp at k;cases V with
    |row K sz xs=>cases F with
     |row O G ys=>
      simp[Ob.s9,Ob.row.injEq] at k;obtain⟨_,rfl,D⟩:=k;have :=by simpa using aJ List.length D
      simp_all
     |_=>cases k
    |rn K sz q1 q2 q3 xs zs=>cases F with
     |rn O G q4 q5 q6 ys zs2=>
      simp only[Ob.s9,Ob.rn.injEq] at k;obtain⟨_,rfl,_,_,_,D,_⟩:=k;have :=by simpa using aJ List.length D
      simp_all
     |_=>cases k
    |_=>cases F<;>first|rfl|cases k
theorem ML {w l:St} {n:Nat} {e:TypeId} {x q:Operand} (B:∀ty,bw P ty w x=bw P ty l x) (z:∀ty,bw P ty w q=bw P ty l q):B1 P w n e x q=B1 P l n e x q:=by unfold B1;simp_all
def Sc {z:Array Oper} {o:Oper} {s:St} {v:SV} (S:eo P h cH o s=some v):kq (step0 P h cH o) s (uO P h z o s) (s.set o.dst v).env (s.set o.dst v).ob []:=
 ⟨ah,λj K=>(by cases K),λx G H I=>by
  have fin:eo P h _ o s=eo P h cH o x->step0 P h cH o x=some (fG (uO P h z o s) (s.set _ v).env _ _ x):=λthis=>by rw[S] at this;simp[step0,<-this];rw[acU (f:=uO P h _ o s) rfl rfl]
  cases B:aas o.op with
  |true=>cases q:o.op with
   |indexAddr t a V=>
    have w:∀y∈o.op.operands.toList,∀ty,bw P ty s y=bw P _ x y:=λy U ty=>kD (λu e=>(G u (by
     subst e
     exact dU _ (fm.2 ⟨_,U,rfl⟩))).symm) _
    have ha:=w a (by rw[q];simp[Op.operands]);have hi:=w V (by rw[q];simp[Op.operands])
    have hl:∀ty F,bw P ty s a=some F->∀id∈F.ids,(s.ob _).map _=(x.ob _).map _:=λty F e id l=>(I _ (by
     simp[uO,B]
     exact uy (by rw[q];simp[Op.operands]) e l)).symm
    refine fin ?_;simp[eo,q,eU];grind[QA,ML]
   |_=>rw[q] at B;cases B
  |false=>
   have D:∀id∈Jn P h o s,s.ob id=x.ob id:=λid l=>by grind[Rj,uO,Jn]
   exact fin (Tx (λO id l=>(H _ (by simp[uO,O,B,l])).symm) D (λt R=>(G t (by simp[uO,gF,R])).symm))⟩
def ada {l:Array Oper} {k:Nat} {o:Oper} {s:St} {v:SV} (G:l[k]? =some o) (I:pz l o s=some true) (q:DN h o=[]) (H:eo P h cH o s=some v):
  ∃z K m,Hp (ql P h cH l k) s ((uO P h l o s).fill s (s.set o.dst v)) z K m/\Pt s ((uO P h l o s).fill s (s.set o.dst v)):=
 Mt (l:=[]) ah (λx w B D=>by
  simp[ql,G];rw[yK w,I];simp[step,q]
  exact(Sc H).2.2 x w B D) λj F _=>by cases F
def Zb {o:Oper} {s s':St} {c:Call} {d id:Nat} {x y:Operand} {t R:TypeId} (U:o.op= .call c) (hc:c.callee= .builtin .append) (q:c.args.toList=[x,y]) (V:c.argTypes.toList=[t,R]) (hd:o.dst=some d) (hx:bw P t s x=some (.row id)) (l:step0 P h cH o s=some s'):
  ∃ob:Ob,s'=(s.new id ob).set (some d) (.row id)/\
   ∀x:St,(∀t∈slotsOf o,x.env t=s.env t)->(∀j∈id::Bu s o,x.ob j=s.ob j)->step0 P h cH o x=some ((x.new id ob).set (some d) (.row id)):=by
 have hf:∀x:St,eo P h cH o x=none:=λx=>by simp_all[eo,wX]
 have he:∀F:St,step0 P h cH o F=(match isSlice P t,bw P t F x,bw P R F y with
  |some (e,s),some (.row id),some y=>match F.ob id,elems F y,P.info? e with
   |some (.row I w xs),some (G,B),some i=>
    if t=R/\e=I/\s=w/\w=G/\0<w/\(xs.length+B.length) *i.bytes<=140737488355328/\xs.length+B.length<=4611686018427387904/\i.zero.map (λz=>z.cells.size)=some w/\iG id=true then
     some ((F.new id (.row e w (xs++B))).set (some d) (.row id)) else none
   |some (.rn I w k e2 s2 xs zs),some (G,B),some i=>
    if t=R/\e=I/\s=w/\w=G/\0<w/\(xs.length+B.length) *i.bytes<=140737488355328/\xs.length+B.length<=4611686018427387904/\i.zero.map (λz=>z.cells.size)=some w/\iG id=true/\B.all (qc k)=true then
     some ((F.new id (.rn e w k e2 s2 (xs++B.map λc=>c.set k .hole) (zs++B.map λ_=>some []))).set (some d) (.row id)) else none
   |_,_,_=>none
  |some (e,s),some (.at id .full),some y=>match F.ob id,elems F y,P.info? e with
   |some (.row I w xs),some (G,B),some i=>
    if t=R/\e=I/\s=w/\w=G/\0<w/\(xs.length+B.length) *i.bytes<=140737488355328/\xs.length+B.length<=4611686018427387904/\i.zero.map (λz=>z.cells.size)=some w/\iG id=true/\B.isEmpty=false then
     some ((F.new id (.row e w (xs++B))).set (some d) (.row id)) else none
   |_,_,_=>none
  |_,_,_=>none):=λF=>by
  simp only[step0,hf,mC,U,hc,hd,q,V];rfl
 rw[he] at l;split at l
 .rename_i e sz0 id2 sy hs O hy;rw[hx] at O;simp only[aM,SV.row.injEq] at O;subst O;split at l
  .rename_i I w xs G B i r6 hel hi;split at l
   .rename_i S;injection l with l;refine⟨.row e w (xs++B),l.symm,λF K H=> ?_⟩
    have D:∀z∈[x,y],∀ty,bw P ty F z=bw P ty s z:=λz hz ty=>kD (λu e=>K u (by
     subst e;refine fm.2 ⟨.tmp u,?_,rfl⟩;rw[U];simp only[Op.operands,Call.operands,hc,ji,bu];right
     rw[q];exact hz)) ty
    rw[he,D x ah t,D y ah R,hx,hy,hs];have e1:F.ob id=s.ob id:=H id ah
    have e2:elems F sy=elems s sy:=vA (λj hj=>H j (er _ (uy (P:=P) (x:=y) (ty:=R) (by
     rw[U];simp only[Op.operands,Call.operands,hc,ji,bu];right
     rw[q];simp) hy hj)))
    grind
   .cases l
  .rename_i I w k e3 s3 xs zs G B i r6 hel hi;split at l
   .rename_i S;injection l with l;refine⟨.rn e w k e3 s3 (xs++B.map λc=>c.set k .hole) (zs++B.map λ_=>some []),l.symm,λF K H=> ?_⟩
    have D:∀z∈[x,y],∀ty,bw P ty _ z=bw P _ s z:=λz hz ty=>kD (λu e=>K u (by
     subst e;refine fm.2 ⟨.tmp u,?_,rfl⟩;rw[U];simp only[Op.operands,Call.operands,ji,bu];right
     rw[q];exact hz)) _
    rw[he,D x ah t,D y ah _,hx,hy,hs];have e1:F.ob id=s.ob _:=H _ ah
    have e2 :=vA (λj hj=>H j (er _ (uy (by
     rw[U];simp only[Op.operands,Call.operands,ji]
     rw[q];simp) hy hj)))
    grind
   .cases l
  .cases l
 .simp_all
 simp_all
def Xi {o:Oper} {s s':St} {c:Call} {d id:Nat} {x y:Operand} {t K:TypeId} (O:o.op= .call c) (hc:c.callee= .builtin .append) (w:c.args.toList=[x,y]) (I:c.argTypes.toList=[t,K]) (hd:o.dst=some d) (hx:bw P t s x=some (.at id .full)) (l:step0 P h cH o s=some s'):
  ∃ob:Ob,s'=(s.new id ob).set (some d) (.row id)/\
   ∀x:St,(∀t∈slotsOf o,x.env t=s.env t)->(∀j∈id::Bu s o,x.ob j=s.ob j)->step0 P h cH o x=some ((x.new id ob).set (some d) (.row id)):=by
 have hf:∀x:St,eo P h cH o x=none:=λx=>by simp_all[eo,wX]
 have he:∀D:St,step0 P h cH o D=(match isSlice P t,bw P t D x,bw P K D y with
  |some (e,s),some (.row id),some y=>match D.ob id,elems D y,P.info? e with
   |some (.row H q xs),some (F,B),some i=>
    if t=K/\e=H/\s=q/\q=F/\0<q/\(xs.length+B.length) *i.bytes<=140737488355328/\xs.length+B.length<=4611686018427387904/\i.zero.map (λz=>z.cells.size)=some q/\iG id=true then
     some ((D.new id (.row e q (xs++B))).set (some d) (.row id)) else none
   |some (.rn H q k U s2 xs zs),some (F,B),some i=>
    if t=K/\e=H/\s=q/\q=F/\0<q/\(xs.length+B.length) *i.bytes<=140737488355328/\xs.length+B.length<=4611686018427387904/\i.zero.map (λz=>z.cells.size)=some q/\iG id=true/\B.all (qc k)=true then
     some ((D.new id (.rn e q k U s2 (xs++B.map λc=>c.set k .hole) (zs++B.map λ_=>some []))).set (some d) (.row id)) else none
   |_,_,_=>none
  |some (e,s),some (.at id .full),some y=>match D.ob id,elems D y,P.info? e with
   |some (.row H q xs),some (F,B),some i=>
    if t=K/\e=H/\s=q/\q=F/\0<q/\(xs.length+B.length) *i.bytes<=140737488355328/\xs.length+B.length<=4611686018427387904/\i.zero.map (λz=>z.cells.size)=some q/\iG id=true/\B.isEmpty=false then
     some ((D.new id (.row e q (xs++B))).set (some d) (.row id)) else none
   |_,_,_=>none
  |_,_,_=>none):=λD=>by
  simp only[step0,hf,mC,O,hc,hd,w,I];rfl
 rw[he] at l;split at l
 .simp_all
 .rename_i e sz0 id2 sy hs G hy;rw[hx] at G;simp at G;subst G;split at l
  .split at l
   .injection l with l;refine⟨_,l.symm,λD S R=> ?_⟩
    have V:∀z∈[x,y],∀ty,bw P ty _ z=bw P _ s z:=λz hz ty=>kD (λu e=>S u (by
     subst e;refine fm.2 ⟨.tmp u,?_,rfl⟩;rw[O];simp only[Op.operands,Call.operands,ji,bu];right
     rw[w];exact hz)) _
    have U :=vA (λj hj=>R j (er _ (uy (by
     rw[O];simp only[Op.operands,Call.operands,ji]
     rw[w];simp) hy hj)))
    grind
   .cases l
  .cases l
 simp_all
def kp_E0 {q:Array Oper} {o:Oper} {s:St} (w:¬∃t x,o.op= .load t x) (z:¬∃t a x id B i l j,o.op= .store t a x/\bw P 0 s a=some (.rp id B i l)/\bw P t s x=some (.row j)) (j:Nat):(kM P h q o s).kp j=false:=by
 unfold kM Dt AN Mz;split
 .split
  .grind
  .rfl
  .split<;>rfl
 .cases h.rows.contains _<;>rfl
 .cases h.rows.contains _<;>rfl
 .split
  .split
   .split<;>rfl
   .rfl
  .cases(o.dst.any _&& !(o.dst.any _)) with
   |true=>rfl
   |false=>rename_i c _ _ f _;cases(!(o.dst.any _)&&(!(o.dst.any _)&&wide s c f)) with
    |false=>rfl
    |true=>simp[uN];split<;>rfl
  .rfl
 .simp_all
 .rfl
def take_fx {D:Array Oper} {o:Oper} {s s':St} {t:TypeId} {a:Operand} (ho:o.op= .load t a) (l:step0 P h cH o s=some s') (q:(kM P h D o s).all=false):
  ∃ev ov m,kq (step0 P h cH o) s (kM P h D o s) ev ov m:=by
 obtain⟨F,w⟩:∃F,kM P h D o s=F:=⟨_,rfl⟩
 rw[w] at q⊢;unfold kM at w;rw[ho] at w;cases H:o.dst with
 |none=>rw[H] at w;subst w;cases q
 |some d=>rw[H] at w;simp only at w;cases I:h.take.contains d with
  |false=>rw[I] at w;subst w;cases q
  |true=>
   rw[I] at w;simp[ai,Ql] at w;split at w
   .rename_i id sz i B V;split at w
    .rename_i e R k e' s2 xs ys z;subst w;have he:∀x:St,bw P 0 x a=some (.rp id sz i B)->x.ob id=some (.rn e R k e' s2 xs ys)->step0 P h cH o x=vT P x t a d:=λx h1 h2=>by
      simp_all[eo,step0,mC]
     rw[he s V z] at l;unfold vT at l;rw[V] at l;split at l
     .rename_i id2 sz2 i2 off2 e1 G;obtain⟨rfl,rfl,rfl,rfl⟩:=e1;rw[z] at l;simp at l;split at l
      .rename_i zs hy;cases hb:(Nat.beq sz R&&Nat.beq B k&& !(Nat.beq id d)&&Nat.blt id 10000) with
       |false=>simp_all
       |true=>
       rw[hb] at l;simp at l;have U:id≠d:=λe=>by simp_all
       refine⟨s'.env,s'.ob,[(d,none)],by simp,λj hj hk=> ?_,λx h1 h2 _=> ?_⟩<;>subst l
       rotate_left
       .have O:bw P 0 x a=some (.rp id sz i B):=by
         rw[<-V]
         exact kD (λu e=>h1 u (by
          subst e
          exact dU _ (fm.2 ⟨.tmp u,by rw[ho];simp[Op.operands],rfl⟩))) 0
        have K :=(h2 _ ah).trans z;rw[he x O K];unfold vT;rw[O,G];simp only[K,hy,hb];refine aJ _ (St.same (λu=> ?_) (λu=> ?_))
        .simp[fG,bW];by_cases e:u=d
         .simp_all[St.set,cr]
         .rw[aq e];simp[St.set,br _ _ (λh=>e h.symm)];rfl
        .simp[fG,aF,eN,eV];by_cases e:u=d
         .simp_all[St.set,St.new,cr]
         .by_cases e2:u=id
          .subst e2;simp[true_or,fQ,St.set,St.new,St.dF,br _ _ (λh=>e h.symm),cr]
          .rw[aq af];simp[St.set,St.new,St.dF,br _ _ (λh=>e h.symm),br _ _ (λh=>e2 h.symm)];rfl
       .have S :=by
         simp only[aI] at hk;exact beq_iff.1 hk.1
        subst S;rw[z];simp[St.set,St.new,St.dF,br _ _ (λh=>U h.symm),cr,cQ,Ob.dF,Ob.s9]
      simp_all
     simp_all
    .subst w;cases q
   .subst w;cases q
def GB {R:Type} {b:Bool} {x:Option R} {r:R} (l:(bif b then x else none)=some r):b=true/\x=some r:=by grind
def qd:∀(l:List Nat) (q:St) (t:Nat),(kF l q).env t=(q.env t).map (kB (l.map λi=>(i,none)))
 |[],q,t=>by exact(jv λ_=>rfl).symm
 |id::l,q,t=>by simp[kF];rw[qd l _ t];simp[St.dF,Option.map_map];rfl
def u9:∀(l:List Nat) (q:St) (j:Nat),j∉l->(kF l q).ob j=(q.ob j).map (Ob.zR (kB (l.map λi=>(i,none))))
 |[],q,j,_=>by simp_all[kF,jv,DC]
 |id::l,q,j,w=>by simp at w;simp[kF];rw[u9 l _ j w.2];simp only[St.dF,br _ _ (λh=>w.1 h.symm)];cases q.ob j with
  |none=>rfl
  |some o=>cases o<;>simp only[cQ,Ob.dF,Ob.zR,eS]<;>rfl
theorem sd:∀(l:List Nat) (w q:St) (j:Nat),w.ob j=q.ob j->(kF l w).ob j=(kF l q).ob j
 |[],w,q,j,h=>h
 |id::l,w,q,j,h=>by
  refine sd l _ _ j ?_;by_cases e:id=j
  .simp_all[St.dF,cr]
  simp_all[St.dF,br]
theorem back_mem {names:List Nat} {D:Nat->Nat}:∀{m:List (Nat×Nat)} {q back:List (Nat×Ob)},nP names D m q=some back->∀{j:Nat} {o:Ob},find back j=some o->j∈m.map (·.1)
 |[],[],back,h,j,o,l=>by simp[nP,aM] at h;subst h;cases l
 |[],_::_,back,h,_,_,_=>by simp[nP] at h
 |_::_,[],back,h,_,_,_=>by simp[nP] at h
 |(id,F)::m,(B,G)::q,back,h,j,o,l=>by obtain⟨_,h⟩:=GB h;simp at h;obtain⟨r,z,rfl⟩:=h;simp[find] at l;cases w:Nat.beq id j with
  |true=>simp_all
  |false=>rw[w] at l;exact er _ (back_mem z l)
def many_fx {B:Array Oper} {o:Oper} {s s':St} {c:Call} {f:Operand} (ho:o.op= .call c) (hc:c.callee= .value f) (how:o.dst.any h.owns.contains=false) (U:o.dst.any h.stay.contains=false) (hw:wide s c f=true)
  (w:step0 P h cH o s=some s') (F:(uN P h B o s c f).all=false):∃ev ov m,kq (step0 P h cH o) s (uN P h B o s c f) ev ov m:=by
 have hox:∀x:St,(∀t∈gF B o,x.env t=s.env t)->∀y∈o.op.operands.toList,∀ty,bw P ty x y=bw P ty s y:=λx h1 y hy' ty=>kD (λu e=>h1 u (by
  subst e
  exact dU _ (fm.2 ⟨.tmp u,hy',rfl⟩))) ty
 have G:∀x∈c.args.toList,x∈o.op.operands.toList:=λx hx=>by simp_all[Op.operands,Call.operands,ji,bu]
 have hfo:f∈o.op.operands.toList:=by rw[ho];simp[Op.operands,Call.operands,hc]
 have hwide:∀x:St,(∀t∈gF B o,x.env t=s.env t)->wide x c f=wide s c f:=λx h1=>by
  have henv:∀y∈o.op.operands.toList,∀u,y= .tmp u->x.env u=s.env u:=λy hy u e=>h1 u (by
   subst e
   exact dU _ (fm.2 ⟨.tmp u,hy,rfl⟩))
  have e1:TE x f=TE s f:=by cases f with
   |tmp u=>simp only[TE,henv _ hfo u rfl]
   |_=>rfl
  have e2:∀l:List Operand,(∀y∈l,y∈o.op.operands.toList)->l.any (Dx x)=l.any (Dx s):=by intro l;induction l with
   |nil=>simp
   |cons y l ih=>intro hl;simp only[qw];rw[ih λz hz=>hl z (by simp[hz])];cases y with
    |tmp u=>simp only[Dx,henv _ (hl (.tmp u) ah) u rfl]
    |_=>rfl
  unfold wide;rw[e1,e2 _ G]
 have he:∀x:St,(∀t∈gF B o,x.env t=s.env t)->step0 P h cH o x=jy P h cH x c f o.dst:=λx h1=>by
  have hwx:=(hwide x h1).trans hw;have hfn:eo P h cH o x=none:=by simp only[eo,ho,hc,how,U,hwx,az,qM,Bool.true_or,ai]
  unfold step0;rw[hfn];cases O:o.dst with
  |none=>simp only[mC,ho,hc,O,hwx,Option.any_none,az,qM,ai]
  |some d=>rw[O] at how U;simp only[mC,ho,hc,O,how,U,hwx,az,qM,ai]
 rw[he s λ_ _=>rfl] at w;have XW:∃g args,tD P h s c f=some (g,args):=by
  unfold uN at F;split at F
  .simp_all
  .cases F
 obtain⟨g,args,hra⟩:=XW;have hF:uN P h B o s c f={ rs:=gF B o,ws:=o.dst.toList,ro:=kK s args,wo:=kK s args,mv:=(kK s args).filter (lE false s (pQ args)) }:=by unfold uN;rw[hra]
 rw[hF];have D:=hra;unfold tD at D;split at D
 .rename_i g0 pre q V hfn hvs;simp only[aM,bz] at D;obtain⟨rfl,rfl⟩:=D;unfold jy at w;rw[hfn,hvs] at w;simp only[U] at w;obtain⟨K,w⟩:=GB w;split at w
  .rename_i cE S;split at w
   .rename_i r zP I;split at w
    .rename_i back H;obtain⟨VJ,w⟩:=GB w;injection w with w;generalize R:ku s 200 ((pre++(V++q)).flatMap SV.ids) []=ids at K S I H w;have hro:kK s (pre++(V++q))=ids:=R;rw[hro];have hfst:(jH (lE false s (pQ (pre++(V++q)))) 0 ids).map (·.1)=ids:=sZ _ _ _;refine⟨s'.env,s'.ob,(ids.filter (lE false s (pQ (pre++(V++q))))).map λi=>(i,none),λp hp=> ?_,λj _ hk=>(by cases hk),λx h1 h2 _=> ?_⟩
     .obtain⟨i,hi,rfl⟩:=aC.1 hp;exact hi
     .have k1:bw P 0 x f=bw P 0 s f:=hox x h1 f hfo 0;have k2:tn P h x c.args.toList c.argTypes.toList=tn P h s c.args.toList c.argTypes.toList:=x7 λy hy ty=>hox x h1 y (G y hy) ty
      have k3:ku x 200 ((pre++(V++q)).flatMap SV.ids) []=ids:=by rw[<-R];exact(q8 200 _ _ λid hid=>(h2 id (by rw[R] at hid;exact hid)).symm).symm
      have k4:∀id∈ids,lE false x (pQ (pre++(V++q))) id=lE false s (pQ (pre++(V++q))) id:=λid hid=>by simp only[lE,VR,h2 id hid]
      have k5:∀(l:List Nat) (n:Nat),(∀id∈l,id∈ids)->jH (lE false x (pQ (pre++(V++q)))) n l=jH (lE false s (pQ (pre++(V++q)))) n l:=by intro l;induction l with
       |nil=>intro n _;rfl
       |cons i l ih=>simp_all[jH]
      have k6:=k5 ids 0 λ_ h=>h
      have k7:lD x ids (qG (jH (lE false s (pQ (pre++(V++q)))) 0 ids)) (jH (lE false s (pQ (pre++(V++q)))) 0 ids)=some cE:=by
       rw[<-S];exact wk λp hp=>h2 p.1 (by grind)
      have k8 :=qN λi hi=>k4 i hi
      rw[he x h1];unfold jy;rw[k1,k2,hfn,hvs];simp only[U,k3,k6,K,k7,I,H,VJ];refine aJ _ (St.same (λt=> ?_) (λj=> ?_))
      .simp[fG];cases O:o.dst with
       |none=>simp_all[St.set,qd]
       |some d=>
        by_cases e:d=t
        .subst e;rw[<-w,O];simp[St.set,cr]
        .rw[aq (by grind)];simp_all[St.set,br,qd]
      .have aaj:∀(y) (v),(St.set y o.dst v).ob=y.ob:=λy v=>by cases o.dst<;>rfl
       simp[fG,aaj];by_cases e:j∈ids
       .grind[sd]
       .have hb:find back j=none:=by
         cases hf:find _ j with
         |none=>rfl
         |some o'=>grind[back_mem]
        simp_all[u9]
    simp_all
   simp_all
  simp_all
 simp_all
def put_fx {G:Array Oper} {o:Oper} {s s':St} {t:TypeId} {a y:Operand} {id R i w j:Nat} (ho:o.op= .store t a y) (V:bw P 0 s a=some (.rp id R i w)) (hy:bw P t s y=some (.row j)) (l:step0 P h cH o s=some s') (D:(kM P h G o s).all=false):
  ∃ev ov m,kq (step0 P h cH o) s (kM P h G o s) ev ov m:=by
 obtain⟨F,B⟩:∃F,kM P h G o s=F:=⟨_,rfl⟩
 rw[B] at D⊢;unfold kM at B;rw[ho] at B;cases I:o.dst with
 |some d=>rw[I] at B;subst B;cases D
 |none=>
  rw[I] at B;simp[Dt,V,hy] at B;subst B;have he:∀x:St,bw P 0 x a=some (.rp id R i w)->bw P t x y=some (.row j)->step0 P h cH o x=FZ P x t id R i w j:=λx h1 U=>by simp_all[eo,eU,step0,mC]
  rw[he s V hy] at l;unfold FZ at l;split at l
  .rename_i e sz' k e' s2 xs ys S s3 zs H hsz r6 K;cases hb:(Nat.beq R sz'&&Nat.beq w k&&Nat.blt id 10000&&Nat.blt j 10000&&Nat.beq e' S&&Nat.beq s2 s3&&Nat.blt i ys.length&& !(Nat.beq id j)) with
   |false=>simp_all
   |true=>
   rw[hb] at l;simp at l;refine⟨s'.env,s'.ob,[(j,none),(id+40000,none)],by simp,λq hq hk=> ?_,λx h1 U _=> ?_⟩<;>subst l
   .simp_all[cr,Ob.s9]
   .have O:∀z∈o.op.operands.toList,∀ty,bw P ty x z=bw P _ s z:=λz hz ty=>kD (λu e=>h1 u (by
     subst e
     exact dU _ (fm.2 ⟨_,hz,rfl⟩))) _
    have k1:=O a (by rw[ho];simp[Op.operands]) 0;have k2:=O y (by rw[ho];simp[Op.operands]) t;have x1 :=(U _ ah).trans r6;have x2 :=(U j ah).trans K;rw[he x (k1.trans V) (k2.trans hy)];unfold FZ;simp only[H,hsz,x1,x2,hb];refine aJ _ (St.same (λu=> ?_) (λu=> ?_))
    .exact qd [j,id+40000] x u
    .simp[fG];by_cases e:u=id
     .simp_all[cr]
     .simp[br _ _ (λh=>e h.symm)];by_cases S:u=j
      .rw[au (.inr (.inl S))];exact sd [j,id+40000] x s u (by simp_all)
      .by_cases e3:u=id+40000
       .simp_all[St.dF,cr]
       .rw[aq af];exact u9 [j,id+40000] x u (by simp_all)
  simp_all
def Tn {H:Array Oper} {o:Oper} {s s':St} (w:step0 P h cH o s=some s') (B:(kM P h H o s).all=false):
  ∃ev ov m,kq (step0 P h cH o) s (kM P h H o s) ev ov m:=by
 by_cases hld:∃t x,o.op= .load t x
 .obtain⟨t,a,ho⟩:=hld;exact take_fx ho w B
 by_cases hpt:∃t a x id sz i off j,o.op= .store t a x/\bw P 0 s a=some (.rp id sz i off)/\bw P t s x=some (.row j)
 .obtain⟨t,a,x,id,sz,i,off,j,ho,ha,hx⟩:=hpt;exact put_fx ho ha hx w B
 by_cases hct:∃t a x id off j sz lo hi,o.op= .store t a x/\bw P 0 s a=some (.ptr id off)/\bw P t s x=some (.sub j sz lo hi)
 .obtain⟨t,a,x,id,off,j,sz,lo,hi,ho,ha,hx⟩:=hct;unfold kM at B;rw[ho] at B;cases G:o.dst with
  |some d=>rw[G] at B;cases B
  |none=>rw[G] at B;simp only[Dt,ha,hx] at B;cases B
 have go:∀{l:List (Nat×Option AV)},(∀p∈l,p.1∈(kM P h H o s).mv)->(∀t∈gF H o,t∈(kM P h H o s).rs)->(∀x:St,(∀t∈(kM P h H o s).rs,x.env t=s.env t)->(∀j∈(kM P h H o s).ro,x.ob j=s.ob j)->step0 P h cH o x=some (fG (kM P h H o s) s'.env s'.ob l x))->
   ∃ev ov m,kq (step0 P h cH o) s (kM P h H o s) ev ov m:=λhk _ O=>⟨_,_,_,hk,λj _ hj=>(by rw[kp_E0 hld hpt] at hj;cases hj),λx K S _=>O x K S⟩
 obtain⟨F,D⟩:∃F,kM P h H o s=F:=⟨_,rfl⟩
 rw[D] at B go⊢;unfold kM at D;split at D
 ·
  rename_i t ax ay q hdn;replace D:AN P H o s ax=F:=by
   rw[<-D];unfold Dt;split
   .rename_i K S;exact absurd ⟨_,_,_,_,_,_,_,_,q,K,S⟩ hpt
   .rename_i K S;exact absurd ⟨_,_,_,_,_,_,_,_,_,q,K,S⟩ hct
   .rfl
  unfold AN at D;split at D
  .rename_i id hx;subst D;obtain⟨sa,hsa,htg⟩:=dL.1 hx;have U:∀x,eo P h cH o x=none:=λx=>by simp[eo,q,eU]
   have R:=w;unfold step0 at R;rw[U] at R;simp only[mC,hdn,q,hsa] at R;split at R
   .rename_i K S;injection K with K;subst K;exact absurd ⟨_,_,_,_,_,_,_,_,q,hsa,S⟩ hpt
   .rename_i K S;injection K with K;subst K;exact absurd ⟨_,_,_,_,_,_,_,_,_,q,hsa,S⟩ hct
   .rename_i sa' sv _ hnr e1 hy;injection e1 with e1;subst e1;obtain⟨l1,l2,l3⟩:=KO R htg;refine go (l:=[]) ah (λt ht=>ht) λx K S=> ?_
    have hox:∀y∈o.op.operands.toList,∀ty,bw P ty x y=bw P ty s y:=λy hy' ty=>kD (λu e=>K u (by
     subst e
     exact dU _ (fm.2 ⟨.tmp u,hy',rfl⟩))) ty
    have k1:=hox ax (by rw[q];simp[Op.operands]) 0;have k2:=hox ay (by rw[q];simp[Op.operands]) t;unfold step0;rw[U];have hsel:mC P h cH o x=storeAt P t x sa sv:=by simp only[mC,hdn,q,k1,k2,hsa,hy]
    simp only;rw[hsel,l3 x (S id ah) λj hj=>S j (er _ (uy (P:=P) (x:=ay) (ty:=t) (by rw[q];simp[Op.operands]) hy hj))];congr 1;refine St.same (λu=> ?_) (λu=> ?_)
    .simp only[fG,eN,ez];exact(jv λ_=>rfl).symm
    .simp only[fG,bW];by_cases e:u=id
     .subst e;simp[cr]
     .rw[aq e,br _ _ (λh=>e h.symm)];exact(jv DC).symm
   .cases R
  .subst D;cases B
 ·
  rename_i t d q G;cases V:h.rows.contains d with
  |true=>rw[V] at D;subst D;cases B
  |false=>
   rw[V] at D;simp only[az] at D;subst D;have he:∀x,step0 P h cH o x=match LU P h (some d) t with
    |some z=>some ((x.new d (.box t (z.map .pv))).set (some d) (.ptr d 0))
    |none=>none:=λx=>by
    have U:eo P h cH o x=none:=by simp[eo,q,eU]
    unfold step0;rw[U];simp only[mC,G,q,V,az];rfl
   rw[he] at w;split at w
   .rename_i z hz;injection w with w;subst w;refine go (l:=[(d,none)]) ah (λt ht=>ht) λx K S=> ?_
    rw[he,hz];simp only;rw[IQ (f:={ rs:=gF H o,ws:=[d],wo:=[d],mv:=[d] }) (s:=s) rfl rfl]
   .cases w
 ·
  rename_i t len I d q G;cases V:h.rows.contains d with
  |false=>rw[V] at D;subst D;cases B
  |true=>
   rw[V] at D;simp only[ai] at D;subst D;have he:∀x,step0 P h cH o x=match kA P t len I.toList x with
    |some (e,s,xs)=>match find h.nest d with
     |none=>some ((x.new d (.row e s xs)).set (some d) (.row d))
     |some (k,e',s')=>bif Nat.blt k s&&xs.all (qc k) then some ((x.new d (.rn e s k e' s' (xs.map λc=>c.set k .hole) (xs.map λ_=>some []))).set (some d) (.row d)) else none
    |none=>none:=λx=>by
    have U:eo P h cH o x=none:=by simp only[eo,q,G,xA,V,ai]
    unfold step0;rw[U];simp only[mC,G,q];rfl
   have hl:∀x:St,(∀t∈gF H o,x.env t=s.env t)->kA P t len I.toList x=kA P t len I.toList s:=λx K=>by
    unfold kA
    have hp:∀ty,partsOf P ty x I.toList=partsOf P ty s I.toList:=λty=>sG (λy hy t=>kD (λu e=>K u (by
     subst e
     exact dU _ (fm.2 ⟨.tmp u,by rw[q];simpa[Op.operands] using hy,rfl⟩))) t)
    simp only[hp]
   rw[he] at w;obtain⟨ob,hs',O⟩:∃ob:Ob,s'=(s.new d ob).set (some d) (.row d)/\∀x:St,kA P t len I.toList x=kA P t len I.toList s->step0 P h cH o x=some ((x.new d ob).set (some d) (.row d)):=by
    split at w
    .rename_i e sz xs hlit;split at w
     .rename_i hn;injection w with w;exact⟨_,w.symm,λx hx=>by rw[he,hx,hlit];simp only[hn]⟩
     .rename_i k e' s2 hn;obtain⟨hb,w⟩:=GB w;injection w with w;exact⟨_,w.symm,λx hx=>by rw[he,hx,hlit];simp only[hn,hb,ai]⟩
    .cases w
   subst hs';refine go (l:=[(d,none)]) ah (λt ht=>ht) λx K S=> ?_
   rw[O x (hl x K),IQ (f:={ rs:=gF H o,ws:=[d],wo:=[d],mv:=[d] }) (s:=s) rfl rfl]
 .rename_i c q;split at D
  ·
   rename_i hc;unfold Mz at D;split at D
   .rename_i x y t t' d hargs Ba G;split at D
    .rename_i id hx;subst D;obtain⟨ob,hs',O⟩:=Zb q hc hargs Ba G hx w;subst hs';refine go (l:=[(id,none)]) ah (λt ht=>ht) λx K S=> ?_
     rw[O x (λt ht=>K t (by simp[gF,ht])) S,IQ (f:={ rs:=gF H o,ws:=[d],ro:=id::Bu s o,wo:=[id],mv:=[id] }) (s:=s) rfl rfl]
    .rename_i id hx;subst D;obtain⟨ob,hs',O⟩:=Xi q hc hargs Ba G hx w;subst hs';refine go (l:=[(id,none)]) ah (λt ht=>ht) λx K S=> ?_
     rw[O x (λt ht=>K t (by simp[gF,ht])) S,IQ (f:={ rs:=gF H o,ws:=[d],ro:=id::Bu s o,wo:=[id],mv:=[id] }) (s:=s) rfl rfl]
    .subst D;cases B
   .subst D;cases B
  ·
   rename_i f hc;cases how2:(o.dst.any h.owns.contains&& !(o.dst.any (λd=>(wU h d).isSome))) with
   |false=>rw[how2] at D;simp only[az] at D;cases hmn:(!(o.dst.any h.owns.contains)&&(!(o.dst.any h.stay.contains)&&wide s c f)) with
    |false=>rw[hmn] at D;subst D;cases B
    |true=>rw[hmn] at D;simp only[ai] at D;rw[<-D] at B⊢;simp only[aI,iy] at hmn;exact many_fx q hc hmn.1 hmn.2.1 hmn.2.2 w B
   |true=>
    rw[how2] at D;simp only[ai] at D;subst D;obtain⟨how,MH⟩:=xz.1 how2;have he:∀x,step0 P h cH o x=kJ P h cH x c f o.dst:=λx=>by
     have U:eo P h cH o x=none:=by simp only[eo,q,hc,how,ai]
     unfold step0;rw[U];cases G:o.dst with
     |none=>rw[G] at how;cases how
     |some d=>rw[G] at how;simp only[mC,q,hc,G,how,ai]
    have hox:∀x:St,(∀t∈gF H o,x.env t=s.env t)->∀y∈o.op.operands.toList,∀ty,bw P ty x y=bw P ty s y:=λx K y hy' ty=>kD (λu e=>K u (by
     subst e
     exact dU _ (fm.2 ⟨.tmp u,hy',rfl⟩))) ty
    rw[he] at w;unfold kJ at w;split at w
    .rename_i d G;have hn:(wU h d).isSome=false:=by simpa[G] using MH
     rw[hn] at w;split at w
     .rename_i g caps vs hf hvs;split at w
      rotate_left
      .rename_i cs' hr
       have:wU h d=none:=by simpa using hn
       rw[this] at w;cases w
      .cases w
      rename_i e sz xs hr;injection w with w;subst w;refine go (l:=[(d,none)]) (by simp[G]) (λt ht=>ht) λx K S=> ?_
      have k1:=hox x K f (by rw[q];simp[Op.operands,Call.operands,hc]) 0;have k2:=z7 (P:=P) (b:=false) (st:=x) (st':=s) (xs:=c.args.toList) (ts:=c.argTypes.toList) (λy hy=>hox x K y (by rw[q];simp only[Op.operands,Call.operands,ji,bu];exact .inr hy));rw[he];unfold kJ;rw[G];simp only[hn,k1,k2,hf,hvs,hr,az];exact aJ some (IQ (f:={ rs:=gF H o,ws:=(some d).toList,wo:=(some d).toList,mv:=(some d).toList }) (s:=s) rfl rfl)
     .cases w
    .cases w
  .subst D;cases B
 .rename_i hq _;exact absurd ⟨_,_,hq⟩ hld
 .subst D;cases B
def Qk {ops:Array Oper} {o:Oper}:∀{l:List Nat} {s s':St},(ny l s).bind (step0 P h cH o)=some s'->(K9 P h ops o l s).all=false->∃ev ov m,kq (λx=>(ny l x).bind (step0 P h cH o)) s (K9 P h ops o l s) ev ov m
 |[],s,s',q,w=>by simp only[ny,fH] at q⊢;simp only[K9] at w⊢;cases z:isF h s o with
  |false=>simp_all[az,Tn]
  |true=>rw[z] at w;simp only[ai] at w⊢;cases O:(isW o.op||isWc s o.op) with
   |false=>rw[O] at w;cases w
   |true=>simp only[ai];cases D:eo P h cH o s with
    |some v=>exact⟨_,_,_,Sc D⟩
    |none=>exfalso;unfold step0 at q;rw[D] at q;simp only at q;cases B:o.op with
     |buildSlice t len K=>
      simp only[isF,B] at z;have z:o.dst.any h.rows.contains=false:=by simpa using z
      simp only[eo,B,z,az,Option.map_eq_none_iff] at D;grind[mC]
     |build t K=>
      simp only[isF,B] at z;have z:o.dst.any h.rows.contains=false:=by simpa using z
      cases R:o.dst with
      |none=>simp[mC,B,R] at q
      |some d=>simp_all[mC,az]
     |load t x=>
      simp only[isF,B] at z;have z:o.dst.any h.take.contains=false:=by simpa using z
      cases R:o.dst with
      |none=>simp[mC,B,R] at q
      |some d=>simp_all[mC,az]
     |call c=>simp only[isW,B,iJ,isWc] at O;cases hc:c.callee with
      |value f=>
       rw[hc] at O;simp only[iy] at O;have S:∀x∈c.args.toList,kI s x=false:=λx hx=>by grind
       have hag:c.args.toList.any (vV s)=false:=by rw[qJ];intro x hx ha;have F:=S x hx;cases x with
        |tmp i=>simp only[vV] at ha;simp only[kI] at F;grind
        |_=>cases ha
       have V:∀l:List Operand,(∀x∈l,kI s x=false)->mC.gY s l=some s:=by intro l;induction l with
        |nil=>intro _;rfl
        |cons x l ih=>
         intro hl;have F:=hl x ah;have h2:=ih λy hy=>hl y (by simp[hy])
         cases x with
         |tmp i=>simp only[mC.gY];simp only[kI] at F;grind
         |_=>exact h2
       have hpa:mC.jf s c.args.toList=some s:=by unfold mC.jf;rw[hag];exact V _ S
       simp only[isF,B,hc,aI,iy,fo] at z;obtain⟨how,z⟩:=z
       have he:mC P h cH o s=(bif o.dst.any h.owns.contains then kJ P h cH s c f o.dst else bif o.dst.any h.stay.contains&&wide s c f then none else bif wide s c f then jy P h cH s c f o.dst else bif c.args.toList.any (λx=>(oq h s x).isSome) then oS P h cH s c f o.dst else
        match mC.jf s c.args.toList with
        |some G=>match bw P 0 G f,jt P G c.args.toList c.argTypes.toList with
         |some (.pv (.fn g H)),some vs=>match cH g ((vs++H).map .pv) [] with
          |some (r,[])=>bif c.args.toList.any (kI G)|| !r.kC then none else some (G.set o.dst (.pv r))
          |_=>none
         |_,_=>none
        |none=>none):=by
        cases R:o.dst<;>simp only[mC,B,hc,R]<;>rfl
       rw[he,how] at q;simp only[az] at q;rcases z with z|z
       .simp_all
       .obtain⟨XZ,hrf⟩:=(mE).1 z;rw[XZ,hrf,hpa] at q;simp only at q;simp only[eo,B,hc] at D;rw[how,XZ,hrf] at D;split at q
        .rename_i g H vs F h2;rw[F,h2] at D;simp only at D;split at q
         .rename_i r hr;rw[hr] at D;simp[O] at D q;cases U:r.kC with
          |true=>rw[U] at D;cases D
          |false=>rw[U] at q;cases q
         simp_all
        simp_all
      |_=>simp_all
     |_=>simp[isW,isWc,B] at O
 |t::l,s,s',q,w=>by simp[ny] at q;cases F:u7 s t with
  |none=>simp_all
  |some s1=>
   rw[F] at q;simp[K9,F] at w⊢;have I :=by simp[fZ.then,mE] at w;exact w.2
   obtain⟨ev,ov,m,r1⟩:=Yj F;obtain⟨ev',ov',m',r2⟩:=Qk q I;have e1:=r1.at F;rw[e1] at r2;obtain⟨ev2,ov2,r3⟩:=W6 r1 r2;rw[<-e1] at r3;refine⟨ev2,_,_,r3.1,r3.2.1,λx k1 k2 k3=> ?_⟩;rw[<-r3.2.2 x k1 k2 k3];grind[ny]
theorem XF {l:Array Oper} {k:Nat} {o:Oper} {s F:St} (U:l[k]? =some o) (V:pz l o s=some true) (B:step P h cH o s=some F) (w:((tG P h l o s).fill s F).all=false):
  ∃G O m,Hp (ql P h cH l k) s ((tG P h l o s).fill s F) G O m/\Pt s ((tG P h l o s).fill s F):=by
 have z :=by simp[tG,fZ.then,xB] at w;exact w
 obtain⟨G,O,m,r⟩:=Qk B z;have D:kq (step P h _ o) s (tG P h l o s) _ _ m:=r.imp (λt q=>by simp[tG,fZ.then,q]) (λt q=>by simp[tG,fZ.then,q]) (λt q=>by simp[tG,fZ.then,q]) (λt=>by rfl) (λt=>by rfl) (λt q=>by simp[tG,fZ.then,q]) (λt q K=>by simp_all[tG,fZ.then]);have e:=D.at B;refine Mt D.1 (λx H R S=> ?_) λj I K=> ?_
 rotate_left
 .rw[e,skO I];exact D.2.1 j I K
 simp[ql,U];rw[yK λt q=>H t (by simp[tG,fZ.then,q]),V];simp only;rw[D.2.2 x H R S,e];congr 1;refine St.same (λt=> ?_) (λj=> ?_)
 .simp[fG];simp_all
 .simp[fG];simp_all
def run_of {w:Array Oper}:∀(l:List Oper) (i:Nat) (z:List (Nat×fZ)) (B s:St),(∀k o,l[k]? =some o->w[i+k]? =some o)->jI P h cH w i l z B=some s->
  ∃F:List (Nat×fZ),F.length=l.length/\(∀j,j∈F.map (·.1)↔i<=j/\j<i+l.length)/\F.Pairwise (λp q=>p.1<q.1)/\L1 (ql P h cH w) F B s/\
   (∀p∈z,∀q∈F,p.2.conflict q.2=true->reach w 12 q.1 p.1=true)/\F.Pairwise (λp q=>p.2.conflict q.2=true->reach w 12 q.1 p.1=true):=by
 intro l;induction l with
 |nil=>intro i z B s _ D;simp only[jI,aM] at D;exact⟨[],rfl,by simp, .nil,D,by simp, .nil⟩
 |cons o l ih=>
  intro i z B s R D;have V:w[i]? =some o:=by simpa using R 0 o ah
  have H:∀(f:fZ) (G:St),ql P h cH w i B=some G->(f.all=false->∃ev ov m,Hp (ql P h cH w i) B f ev ov m/\Pt B f)->wh w z i f=true->jI P h cH w (i+1) l ((i,f)::z) G=some s->
    ∃F:List (Nat×fZ),F.length=(o::l).length/\(∀j,j∈F.map (·.1)↔i<=j/\j<i+(o::l).length)/\F.Pairwise (λp q=>p.1<q.1)/\L1 (ql P h cH w) F B s/\
     (∀p∈z,∀q∈F,p.2.conflict q.2=true->reach w 12 q.1 p.1=true)/\F.Pairwise (λp q=>p.2.conflict q.2=true->reach w 12 q.1 p.1=true):=λf G h1 h2 h3 h4=>by
   obtain⟨F,k0,k1,k2,k3,k4,k5⟩:=ih (i+1) ((i,f)::z) G s (λk o' hk=>by
    have:=R (k+1) o' (by assumption)
    grind) h4
   refine⟨(i,f)::F,by simp[k0],λj=> ?_, .cons (λq O=> ?_) k2,⟨G,h1,h2,k3⟩,λp hp q O K=> ?_, .cons (λq O=>k4 (i,f) ah q O) k5⟩
   .simp only[aR,aF,k1,bg];omega
   .have:=(k1 q.1).1 (aC.2 ⟨q,O,rfl⟩);omega
   .rcases aF.1 O with rfl|O
    .have:=cv.1 h3 p hp;simpa[K] using this
    grind
  simp only[jI] at D;split at D
  .cases D
  .rename_i b hw;cases b with
   |false=>simp only[az] at D;cases I:wh w z i ((sX w o).fill B (B.set o.dst .undef)) with
    |false=>simp[I] at D
    |true=>simp only[I,ai] at D;exact H _ _ (by simp only[ql,V,hw]) (λ_=>skip_ok V hw) I D
   |true=>cases hF:(isF h B o&&(DN h o).isEmpty) with
    |true=>
     have S :=by simp only[aI] at hF;exact tK.1 hF.2
     simp[hF] at D;cases U:eo P h cH o B with
     |none=>simp[U] at D
     |some v=>simp[U] at D;cases K:wh w z i ((uO P h w o B).fill B (B.set o.dst v)) with
      |false=>simp[K] at D
      |true=>simp[K] at D;exact H _ _ (by simp[ql,V,hw,step,S,ny,fH,step0,U]) (λ_=>ada V hw S U) K D
    |false=>cases hs:step P h cH o B with
     |none=>simp_all
     |some G=>cases K:wh w z i ((tG P h w o B).fill B G) with
      |false=>simp_all
      |true=>grind[ql,XF]
def Xy:∀{l:List Oper} {i:Nat},r5 i l=true->∀(p:Nat) (o:Oper),l[p]? =some o->∀e∈o.after.toList,Region.binds .any e=true->e.on<i+p:=by intro l;induction l with
 |nil=>simp
 |cons x l D=>intro i w p o q e z B;simp only[r5,aI] at w;cases p with
  |zero=>simp at q;subst q;have:=cv.1 w.1 e z;simp_all
  |succ p=>grind
def NF {l:Array Oper} {D:Nat->Prop} (w:∀j o,D j->l[j]? =some o->∀e∈o.after.toList,Region.binds .any e=true->D e.on):
  ∀(n i j:Nat),(∀o,l[i]? =some o->∀e∈o.after.toList,Region.binds .any e=true->D e.on)->reach l n i j=true->D j:=by
 intro n;induction n with
 |zero=>simp_all[reach]
 |succ n B=>intro i j q h;simp[reach] at h;cases z:l[i]? with
  |none=>grind
  |some o=>
   simp[z,fo] at h;rcases h with h|h
   .simp[ZG] at h;grind[beq_iff]
   grind
def Rel.dF {N:Nat} {w0:World} {μ0:Mu} {L:rV} {μ:Mu} {F:Nat->Value} {z:St} {a:Act} {w:World} (H:Rel N w0 μ0 L μ F z a w) (id:Nat):Rel N w0 μ0 L μ F (z.dF id) a w:=by
 have l:∀j o,(z.dF id).ob j=some o->∃G,z.ob j=some G/\o=G.dF id:=λj o q=>by
  simp[St.dF] at q;by_cases e:id=j
  .subst e;simp[cr] at q
  .simp[br _ _ e] at q;cases B:z.ob j with
   |none=>simp_all
   |some G=>simp_all
 refine { H with env:=λi sv K=> ?_,obs:=λj o q=> ?_,apart:=λi j oi oj hi hj=> ?_ }
 .simp[St.dF] at K;cases B:z.env i with
  |none=>simp_all
  |some s=>simp[B] at K;subst K;obtain⟨v,hv,hs⟩:=H.env i s B;simp_all[jD]
 .obtain⟨G,D,rfl⟩:=l j o q;have:=H.obs j _ D;cases G with
  |row e sz xs=>exact this
  |mp k e ks I=>exact this
  |mr k e s ks I=>exact this
  |rn e s k e' s' xs ys=>exact this
  |it s n=>exact this
  |lp s=>exact this
  |box t cells=>obtain⟨b,I,B,h2,S,h4,U,V⟩:=this;refine⟨b,I,B,h2,S,h4,?_,V⟩;clear S V D q;induction cells generalizing I with
   |nil=>exact U
   |cons c cs ih=>obtain⟨u,us,rfl,k1,k2⟩:=U;exact⟨u,us,rfl,jD k1,ih _ k2⟩
 .obtain⟨oi',O,_⟩:=l i _ hi;obtain⟨oj',R,_⟩:=l j _ hj;exact H.apart i j _ _ O R
def Rel.rB {N:Nat} {w0:World} {μ0:Mu} {L:rV} {D:Mu} {q:Nat->Value} {a:Act} {w:World}:∀(l:List Nat) (B:St),Rel N w0 μ0 L D q B a w->Rel N w0 μ0 L D q (AM.rB l B) a w
 |[],_,z=>z
 |p::l,B,z=>Rel.rB l _ (z.dF p)
end
section
variable {P:Program} {N:Nat} {w0:World} {μ0:Mu} {L:rV} {h:Hint} {cH:dW} {Q:Exit->Act->World->Prop}
def Ti (yN:fO L.q μ0 P cH) {z:Array Oper} {st stF:St} (hedges:r5 0 z.toList=true)
  (hrun:jI P h cH z 0 z.toList [] (rB (wE z.toList) st)=some stF) (hd:∀o∈z.toList,∀i,o.dst=some i->i<N)
  (hQ:∀a' w' μ' O,Rel N w0 μ0 L μ' O stF a' w'->Q .normal a' w') {μ:Mu} {loc:Nat->Value} {a:Act} {w:World} (hR:Rel N w0 μ0 L μ loc st a w) {F:Fence} (hF:Wd F):
  wpAnyIn F 0 P .any z Q z.size (Array.replicate z.size false) a w:=by
 obtain⟨fs0,hl0,hm0,hs0,XW,_,hp0⟩:=run_of z.toList 0 [] _ _ (λk o hk=>by simp_all) hrun;let D:Array Bool->Nat->Prop:=λl j=>l.getD j false=true
 have main:∀(B:Nat) (l:Array Bool) (a:Act) (w:World) (μ:Mu) (loc:Nat->Value) (fs:List (Nat×fZ)) (x:St),l.size=z.size->fs.length<=B->
   (∀j o,D l j->z[j]? =some o->∀e∈o.after.toList,Region.binds .any e=true->D l e.on)->
   (∀j,j∈fs.map (·.1)↔j<z.size/\¬D l j)->fs.Pairwise (λp q=>p.1<q.1)->L1 (ql P h cH z) fs x stF->fs.Pairwise (λp q=>p.2.conflict q.2=true->reach z 12 q.1 p.1=true)->Rel N w0 μ0 L μ loc x a w->
   wpAnyIn F 0 P .any z Q B l a w:=by
  intro B;induction B with
  |zero=>intro l a w μ loc fs x hsz hle vk G _ I _ R;have MH:fs=[]:=kX af;subst MH;have hx:x=stF:=I;subst hx;refine⟨?_,hQ _ _ _ _ R⟩;unfold Region.ready;apply xy.2;grind
  |succ B ih=>
   intro l a w μ loc fs x hsz hle vk G K I hpair R;have hready:∀i,i∈Region.ready .any z l->∃o,z[i]? =some o/\i<z.size/\¬D l i/\∀e∈o.after.toList,Region.binds .any e=true->D l e.on:=by
    intro i hi;unfold Region.ready at hi;simp only[cG,eH,aI,iy] at hi;obtain⟨U,hnl,H⟩:=hi;have ho:z[i]? =some (z[i]'U):=vp U;refine⟨_,ho,U,?_,?_⟩
    .have hl':i<l.size:=by omega
     have:l[i]=false:=by simpa[Array.getD,hl'] using hnl
     simp[D,Array.getD,hl',this]
    .intro e he hb;simp only[ho,cQ,qL] at H;have:=CI.1 H e (by simpa using he);simpa[hb,D] using this
   have aaj:∀i,i<z.size->∀j,D (l.setIfInBounds i true) j↔(D l j\/j=i):=by
    intro i hi j;have hl':i<l.size:=by omega
    by_cases S:j<l.size
    .by_cases e:i=j
     .subst e;simp[D,Array.getD,S]
     .have e':j≠i:=λh=>e h.symm
      simp[D,Array.getD,S,e,e',Array.getElem_setIfInBounds]
    .have e':j≠i:=λh=>by subst h;exact S hl'
     have h1:(l.setIfInBounds i true).getD j false=false:=by simp[Array.getD,S]
     have h2:l.getD j false=false:=by simp[Array.getD,S]
     simp only[D,h1,h2,e',eV]
   refine⟨λMH=> ?_,λi hi=> ?_⟩
   ·
    cases fs with
    |nil=>have hx:x=stF:=I;subst hx;exact hQ _ _ _ _ R
    |cons p fs=>
     exfalso;have hp:=(G p.1).1 ah;have hlow:∀k,k<p.1->D l k:=λk hk=>dm λhn=>by
      have:=(G k).2 ⟨af,hn⟩;simp only[aR,aF] at this;rcases this with e|hk'
      .omega
      .obtain⟨q,hq,rfl⟩:=aC.1 hk';have:=(dr.1 K).1 q hq;omega
     have ho:z[p.1]? =some (z[p.1]'hp.1):=vp hp.1;have hs2:=Xy hedges p.1 (z[p.1]'hp.1) ah;have hl':p.1<l.size:=by omega
     have hmem':p.1∈Region.ready .any z l:=by
      unfold Region.ready;simp only[cG,eH,aI,iy];refine⟨hp.1,?_,?_⟩
      .grind
      .simp only[ho,cQ,qL];apply CI.2;intro e he;cases hb:Region.binds .any e with
       |false=>rfl
       |true=>have:=hlow e.on (by simpa using hs2 e (by simpa using he) hb);simpa[D] using this
     rw[MH] at hmem';cases hmem'
   .obtain⟨o,ho,U,hnD,H⟩:=hready i hi;obtain⟨p,hpm,hpe⟩:=aC.1 ((G i).2 ⟨U,hnD⟩);obtain⟨pre,post,rfl⟩:=CJ hpm;subst hpe;have hpre:∀q∈pre,q.2.conflict p.2=false:=λq hq=>by
     cases hc:q.2.conflict p.2 with
     |false=>rfl
     |true=>have hr:=(oB.1 hpair).2.2 q hq p ah hc;have:=NF vk 12 p.1 q.1 (λo' ho'=>by rw[ho] at ho';injection ho' with ho';subst ho';exact H) hr;exact absurd this ((G q.1).1 (by simp only[bJ,bu];exact .inl (aC.2 ⟨q,hq,rfl⟩))).2
    obtain⟨s1,V,hruns',_⟩:=L1.front (i:=p.1) (f:=p.2) pre x I hpre;have hnext:∀a' w' μ' O,Rel N w0 μ0 L μ' O s1 a' w'->wpAnyIn F 0 P .any z Q B (l.setIfInBounds p.1 true) a' w':=λa' w' μ' O hR'=>by
     have hnp:∀q∈pre++post,q.1≠p.1:=λq hq e=>by
      rcases bu.1 hq with h1|h1
      .have:=(oB.1 K).2.2 q h1 p (by simp);omega
      .have:=(dr.1 (oB.1 K).2.1).1 q h1;omega
     refine ih _ a' w' μ' O (pre++post) s1 (by simp[hsz]) (by simp at hle⊢;omega) (λj oj S hoj e he hb=> ?_) (λj=> ?_) (K.sublist ah) hruns' (hpair.sublist ah) hR'
     .grind
     .rw[aaj _ U];have:=G j;simp only[bJ,aR,bu,aF] at this⊢;constructor
      .intro S;obtain⟨k1,k2⟩:=this.1 (S.elim .inl λh=> .inr (.inr h));refine⟨k1,λh=>h.elim k2 λe=> ?_⟩;subst e;rcases S with S|S<;>obtain⟨q,hq,e⟩:=aC.1 S<;>exact hnp q (by simp[hq]) e
      .rintro⟨k1,k2⟩;rcases this.2 ⟨k1,λh=>k2 (.inl h)⟩ with h1|h1|h1
       .exact .inl h1
       .exact absurd (.inr h1) k2
       .exact .inr h1
    have hdo :=hd o (by grind);unfold wpOpIn;simp[ho];simp[ql,ho] at V;split at V
    .rename_i hw;rw[yL R hw];exact JA R yN hdo V hnext F hF
    .rename_i hw;injection V with V;subst V;rw[yL R hw];exact⟨λf _=>hF.fn f,hnext _ _ _ _ (R.set hdo (rfl))⟩
    simp_all
 have hnone:∀j,¬D (Array.replicate z.size false) j:=λj=>by by_cases S:j<z.size<;>simp[D,Array.getD]
 refine main _ _ a w _ _ _ _ ah (by simp[hl0]) (λj o S=>absurd S (hnone j)) (λj=> ?_) hs0 XW hp0 (Rel.rB _ _ hR);simp_all
end
