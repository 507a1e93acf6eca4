/- THE ABSTRACT MACHINE. -/
import Derived.Test.YthppjmoncapdfaaGreatDoorAmCall
set_option linter.all false
namespace Go.AM
open Go.RowKit
def aZ {R:Type} {b:Bool} {x:Option R} {r:R} (l:(bif b then x else none)=some r):b=true/\x=some r:=by cases b with
 |true=>exact⟨rfl,l⟩
 |false=>cases l
abbrev Gt:=List (Nat×List SV×List (Nat×Ob)×(AV×List (Nat×Ob)))
def Holds (F:cr) (S:Gt):Prop:=∀s∈S,F s.1 s.2.1 s.2.2.1=some s.2.2.2
def Holds.nil {F:cr}:Holds F []:=λ_ h=>by cases h
def Holds.append {F:cr} {S T:Gt} (h:Holds F S) (k:Holds F T):Holds F (S++T):=λs l=>(bn.1 l).elim (h s) (k s)
def Holds.left {F:cr} {S T:Gt} (h:Holds F (S++T)):Holds F S:=λs l=>h s (bn.2 (.inl l))
def Holds.right {F:cr} {S T:Gt} (h:Holds F (S++T)):Holds F T:=λs l=>h s (bn.2 (.inr l))
def Holds.one {F:cr} {g:Nat} {args:List SV} {l:List (Nat×Ob)} {r:AV×List (Nat×Ob)} (h:F g args l=some r):Holds F [(g,args,l,r)]:=λs q=>by simp only[cD] at q;subst q;exact h
def Holds.get {F:cr} {g:Nat} {args:List SV} {l:List (Nat×Ob)} {r:AV×List (Nat×Ob)} (h:Holds F [(g,args,l,r)]):F g args l=some r:=h _ (cD.2 rfl)
section
variable {P:Program} {h:Hint} {F0:cr}
def Js {c:Call} {f:Operand} {z:St} {r:AV} (l:og P h F0 z c f=some r):∃S,Holds F0 S/\∀F,Holds F S->og P h F z c f=some r:=by
 unfold og at l;split at l
 .rename_i g args D;obtain⟨G,l⟩:=aZ l;split at l
  .rename_i w I;split at l
   .rename_i L q K;refine⟨_,Holds.one K,λF B=> ?_⟩;simp only[og,D,G,ai,I,B.get];exact l
   .cases l
  .cases l
 .cases l
def Hu {o:Oper} {G:St} {v:SV} (l:cz P h F0 o G=some v):∃S,Holds F0 S/\∀F,Holds F S->cz P h F o G=some v:=by cases z:o.op with
 |call c=>cases D:c.callee with
  |value f=>
   simp only[cz,z,D] at l;cases how:o.dst.any h.owns.contains with
   |true=>rw[how] at l;cases l
   |false=>
   rw[how] at l;simp only[aj] at l;cases w:(o.dst.any h.stay.contains&&wide G c f) with
   |true=>rw[w] at l;simp only[ai,bg] at l;obtain⟨r,K,rfl⟩:=l;obtain⟨S,N,Q⟩:=Js K;refine⟨S,N,λF I=> ?_⟩;simp only[cz,z,D];rw[how,w,Q F I];rfl
   |false=>
   rw[w] at l;simp only[aj] at l;cases q:(wide G c f||c.args.toList.any (λx=>(kR h G x).isSome)) with
   |true=>rw[q] at l;cases l
   |false=>
    rw[q] at l;simp only[aj] at l;split at l
    .rename_i g B R O L;split at l
     .rename_i r K;refine⟨_,Holds.one K,λF I=> ?_⟩;simp only[cz,z,D,O,L,I.get];rw[how,w,q];exact l
     .cases l
    .cases l
  |builtin b=>exact⟨[],Holds.nil,λF _=>by simp only[cz,z,D] at l⊢;exact l⟩
  |invoke r m=>exact⟨[],Holds.nil,λF _=>by simp only[cz,z,D] at l⊢;exact l⟩
 |makeFunc fn first B=>exact⟨[],Holds.nil,λF _=>by cases fn<;>simp only[cz,z] at l⊢<;>exact l⟩
 |_=>exact⟨[],Holds.nil,λF _=>by simp only[cz,z] at l⊢;exact l⟩
def GK {c:Call} {f:Operand} {G:St} {d:Option Nat} {x:St} (l:iK P h F0 G c f d=some x):∃S,Holds F0 S/\∀F,Holds F S->iK P h F G c f d=some x:=by
 unfold iK at l;split at l
 .rename_i d;split at l
  .rename_i g B L D q;split at l
   .rename_i e K xs z;refine⟨_,Holds.one z,λF w=> ?_⟩;simp only[iK,D,q,w.get];exact l
   .rename_i I z;refine⟨_,Holds.one z,λF w=> ?_⟩;simp only[iK,D,q,w.get];exact l
   .cases l
  .cases l
 .cases l
def GN {c:Call} {f:Operand} {B:St} {d:Option Nat} {x:St} (l:lF P h F0 B c f d=some x):∃S,Holds F0 S/\∀F,Holds F S->lF P h F B c f d=some x:=by
 unfold lF at l;split at l
 .rename_i g z R id G w;split at l
  .rename_i e Q xs q;split at l
   .rename_i r O N K L I;refine⟨_,Holds.one I,λF D=> ?_⟩;simp only[lF,G,w,q,D.get];exact l
   .cases l
  .cases l
 .cases l
def Ej {c:Call} {f:Operand} {D:St} {d:Option Nat} {x:St} (l:gC P h F0 D c f d=some x):∃S,Holds F0 S/\∀F,Holds F S->gC P h F D c f d=some x:=by
 unfold gC at l;split at l
 .rename_i g z O K q;simp only[] at l;obtain⟨I,l⟩:=aZ l;split at l
  .rename_i B L;split at l
   .rename_i r w N;refine⟨_,Holds.one N,λF G=> ?_⟩;simp only[gC,K,q,I,ai,L,G.get];exact l
   .cases l
  .cases l
 .cases l
def My {o:Oper} {w:St} (q:∀c,o.op≠ .call c) (F:cr):jN P h F o w=jN P h F0 o w:=by unfold jN;split<;>first|rfl|(rename_i l;exact absurd l (q _))|(rename_i l _;exact absurd l (q _))
def Fk {G z:St} {id:Nat} (B:G.bY id=some z) {x:Operand} (D:rK G x=false) {ty:TypeId} {a:AV} (w:(aN P ty G x).bind (jI G)=some a):(aN P ty z x).bind (jI z)=some a:=by
 unfold St.bY at B;split at B
 .rename_i e sz xs hb N;injection B with B;subst B;cases x with
  |tmp i=>simp only[aN] at w⊢;cases I:G.env i with
   |none=>rw[I] at w;cases w
   |some s=>rw[I] at w;simp only[dU,bW] at w⊢;cases s with
    |pv v=>simpa[jI,SV.bY,SV.bX,SV.mentions] using w
    |row j=>simp only[jI] at w;simp only[SV.bY];cases U:Nat.beq j id with
     |true=>have:=beq_iff.1 U;subst this;rw[N] at w;simpa[jI] using w
     |false=>
      have L:id≠j:=λe=>by subst e;simp[beq_iff.2] at U
      simp only[aj,jI,aM _ _ L];obtain⟨W,F,l⟩:=bZ.1 w;rw[F];cases W with
      |box t cells=>simp[Ob.val] at l
      |row K sz' S=>simpa[Ob.bY] using l
      |mp k' K O R=>simpa[Ob.bY] using l
      |mr k' K Q O R=>simpa[Ob.bY] using l
      |rn K Q k' e2 s2 S ys'=>simpa[Ob.bY] using l
      |it Q n'=>simp[Ob.val] at l
      |lp Q=>simp[Ob.val] at l
    |ag cs=>simp[rK,I] at D
    |aq j q=>simp[rK,I] at D
    |_=>cases w
  |const v=>simp only[aN] at w⊢;cases V:ofConst P ty v<;>simp[V,jI] at w⊢;exact w
  |func f=>simpa[aN,jI] using w
  |global g=>simp[aN] at w
 .cases B
def Ef {B w:St} {id:Nat} (l:B.bY id=some w) {x:Operand} (h:rK B x=false):rK w x=false:=by
 unfold St.bY at l;split at l
 .injection l with l;subst l;cases x with
  |tmp i=>simp only[rK] at h⊢;cases D:B.env i with
   |none=>rfl
   |some s=>rw[D] at h;simp only[bW];cases s with
    |ag F=>simp at h
    |aq j q=>simp at h
    |row j=>simp only[SV.bY];cases Nat.beq j id<;>rfl
    |_=>simp only[SV.bY,SV.bX];split<;>rename_i z<;>(first|rfl|(revert z;cases SV.mentions id _<;>intro z<;>cases z))
  |_=>rfl
 .cases l
def sI:∀{xs:List Operand} {B w:St},jN.fu B xs=some w->∀{x:Operand},rK B x=false->∀{ty:TypeId} {a:AV},(aN P ty B x).bind (jI B)=some a->(aN P ty w x).bind (jI w)=some a:=by intro xs;induction xs with
 |nil=>intro B w q x _ ty a z;simp only[jN.fu,aB] at q;subst q;exact z
 |cons y xs D=>intro B w q x l ty a z;cases y with
  |tmp i=>
   simp only[jN.fu] at q;split at q
   .rename_i id I;cases F:B.bY id with
    |none=>rw[F] at q;cases q
    |some G=>rw[F] at q;exact D q (Ef F l) (Fk F l z)
   .exact D q l z
  |const v=>exact D q l z
  |func f=>exact D q l z
  |global g=>exact D q l z
def ot {l q:St} {xs:List Operand} (h:jN.gi l xs=some q):jN.fu l xs=some q/\∀x∈xs,rK l x=false:=by unfold jN.gi at h;cases w:xs.any (rK l) with
 |true=>rw[w] at h;cases h
 |false=>
  rw[w] at h
  exact⟨h,λx B=>by cases z:rK l x with
   |false=>rfl
   |true=>exact absurd z (by simpa using pV.1 w x B)⟩
def xx {F w:St} {N:List Operand} (G:jN.gi F N=some w):∀{xs:List Operand} {z:List TypeId} {B:List AV},(∀x∈xs,rK F x=false)->gw P F xs z=some B->gw P w xs z=some B:=by intro xs;induction xs with
 |nil=>intro z B _ l;exact l
 |cons x xs L=>
  intro z B q l;simp only[gw] at l⊢;split at l
  .rename_i v O I D;rw[sI (ot G).1 (q x ah) I,L (λy K=>q y (by simp[K])) D];exact l
  .cases l
def Di {F w:St} {K:List Operand} (G:jN.gi F K=some w) {f:Operand} {g:Nat} {l:List AV} (B:aN P 0 F f=some (.pv (.fn g l))):aN P 0 w f=some (.pv (.fn g l)):=by
 have:=sI (P:=P) (ot G).1 (x:=f) (by cases f with
  |tmp i=>simp only[aN] at B;simp[rK,B]
  |_=>rfl) (ty:=0) (a:= .fn g l) (by rw[B];rfl)
 cases D:aN P 0 w f with
 |none=>rw[D] at this;cases this
 |some s=>rw[D] at this;simp only[dU] at this;cases s with
  |pv v=>simp only[jI,aB] at this;rw[this]
  |row id=>simp only[jI] at this;obtain⟨I,_,z⟩:=bZ.1 this;cases I<;>simp[Ob.val] at z
  |ag L=>simp only[jI,bg] at this;obtain⟨_,_,h⟩:=this;cases h
  |aq j q=>cases q with
   |full=>cases this
   |nr i=>
    simp only[jI] at this;split at this
    .split at this
     .cases this
     .cases this
    .cases this
  |_=>cases this
def Ll {o:Oper} {B w:St} (l:jN P h F0 o B=some w):∃S,Holds F0 S/\∀F,Holds F S->jN P h F o B=some w:=by cases R:o.op with
 |call c=>cases K:c.callee with
  |value f=>
   have L:∀F,jN P h F o B=(bif o.dst.any h.owns.contains then iK P h F B c f o.dst else bif o.dst.any h.stay.contains&&wide B c f then none else bif wide B c f then gC P h F B c f o.dst else bif c.args.toList.any (λx=>(kR h B x).isSome) then lF P h F B c f o.dst else
    match jN.gi B c.args.toList with
    |some w=>match aN P 0 w f,gw P w c.args.toList c.argTypes.toList with
     |some (.pv (.fn g G)),some V=>match F g ((V++G).map .pv) [] with
      |some (r,[])=>bif c.args.toList.any (iJ w)|| !r.iD then none else some (w.set o.dst (.pv r))
      |_=>none
     |_,_=>none
    |none=>none):=λF=>by
    cases O:o.dst<;>simp only[jN,R,K,O]<;>rfl
   rw[L] at l;cases how:o.dst.any h.owns.contains with
   |true=>rw[how] at l;simp only[ai] at l;obtain⟨S,N,q⟩:=GK l;exact⟨S,N,λF I=>by rw[L,how];simp only[ai,q F I]⟩
   |false=>
   rw[how] at l;simp only[aj] at l;cases D:(o.dst.any h.stay.contains&&wide B c f) with
   |true=>rw[D] at l;cases l
   |false=>
   rw[D] at l;simp only[aj] at l;cases Q:wide B c f with
   |true=>rw[Q] at l;simp only[ai] at l;obtain⟨S,N,q⟩:=Ej l;exact⟨S,N,λF I=>by rw[L,how,D,Q];simp only[ai,aj,q F I]⟩
   |false=>
   rw[Q] at l;simp only[aj] at l;cases z:c.args.toList.any (λx=>(kR h B x).isSome) with
   |true=>rw[z] at l;simp only[ai] at l;obtain⟨S,N,q⟩:=GN l;exact⟨S,N,λF I=>by rw[L,how,D,Q,z];simp only[ai,aj,q F I]⟩
   |false=>
    rw[z] at l;simp only[aj] at l;split at l
    .rename_i st1 hp;split at l
     .rename_i g G V W U;split at l
      .rename_i r hr;refine⟨_,Holds.one hr,λF I=> ?_⟩;rw[L,how,D,Q,z];simp only[aj,hp,W,U,I.get];exact l
      .cases l
     .cases l
    .cases l
  |builtin b=>exact⟨[],Holds.nil,λF _=>by cases O:o.dst<;>cases b<;>simp only[jN,R,K,O] at l⊢<;>exact l⟩
  |invoke r m=>exact⟨[],Holds.nil,λF _=>by cases O:o.dst<;>simp only[jN,R,K,O] at l⊢<;>exact l⟩
 |_=>exact⟨[],Holds.nil,λF _=>by rw[My (F0:=F0) (λc K=>by rw[R] at K;cases K) F];exact l⟩
def Nj {o:Oper} {z q:St} (D:step0 P h F0 o z=some q):∃S,Holds F0 S/\∀F,Holds F S->step0 P h F o z=some q:=by
 unfold step0 at D;split at D
 .rename_i v V;obtain⟨S,U,l⟩:=Hu V;exact⟨S,U,λF K=>by simp only[step0,l F K];exact D⟩
 .rename_i V;have done:∀S,Holds F0 S->(∀F,Holds F S->cz P h F o z=none/\jN P h F o z=some q)->∃S,Holds F0 S/\∀F,Holds F S->step0 P h F o z=some q:=λS U l=>
   ⟨S,U,λF K=>by simp only[step0,(l F K).1];exact(l F K).2⟩
  have B:(∀F,cz P h F o z=cz P h F0 o z)->∃S,Holds F0 S/\∀F,Holds F S->step0 P h F o z=some q:=λW=>by obtain⟨S,U,l⟩:=Ll D;exact done S U λF K=>⟨by rw[W F];exact V,l F K⟩
  cases L:o.op with
  |call c=>cases N:c.callee with
   |value f=>
    cases how:o.dst.any h.owns.contains with
    |true=>exact B λF=>by simp only[cz,L,N,how,ai]
    |false=>
    cases G:(o.dst.any h.stay.contains&&wide z c f) with
    |true=>cases hd:o.dst<;>(simp only[jN,L,N,hd] at D;rw[hd] at G how;rw[how,G] at D;cases D)
    |false=>
    cases w:(wide z c f||c.args.toList.any (λx=>(kR h z x).isSome)) with
    |true=>obtain⟨S,U,l⟩:=Ll D;exact done S U λF K=>⟨by simp only[cz,L,N];rw[how,G,w];rfl,l F K⟩
    |false=>
     obtain⟨MS,Q⟩:=jR.1 w
     have e1:∀F,jN P h F o z=(bif o.dst.any h.owns.contains then iK P h F z c f o.dst else bif o.dst.any h.stay.contains&&wide z c f then none else bif wide z c f then gC P h F z c f o.dst else bif c.args.toList.any (λx=>(kR h z x).isSome) then lF P h F z c f o.dst else
      match jN.gi z c.args.toList with
      |some q=>match aN P 0 q f,gw P q c.args.toList c.argTypes.toList with
       |some (.pv (.fn g I)),some vs=>match F g ((vs++I).map .pv) [] with
        |some (r,[])=>bif c.args.toList.any (iJ q)|| !r.iD then none else some (q.set o.dst (.pv r))
        |_=>none
       |_,_=>none
      |none=>none):=λF=>by
      cases hd:o.dst<;>simp only[jN,L,N,hd]<;>rfl
     rw[e1,how,G,MS,Q] at D;simp only[aj] at D;split at D
     .rename_i st1 hp;split at D
      .rename_i g I vs hfn hvs;split at D
       .rename_i r hr;refine done _ (Holds.one hr) λF K=>⟨?_,?_⟩
        .simp only[cz,L,N];rw[how,G,w];simp only[aj];split
         .rename_i g2 caps2 vs2 O R;have k1:=Di hp O;rw[hfn] at k1;simp only[aB,SV.pv.injEq,AV.fn.injEq] at k1;obtain⟨rfl,rfl⟩:=k1;have k2:=xx hp (ot hp).2 R;rw[hvs] at k2;injection k2 with k2;subst k2;simp only[cz,L,N] at V;rw[how,G,w] at V;simp only[aj,O,R,hr] at V;rw[K.get];exact V
         .rfl
        .rw[e1,how,G,MS,Q];simp only[aj,hp,hfn,hvs,K.get];exact D
       .cases D
      .cases D
     .cases D
   |builtin b=>exact B λF=>by simp only[cz,L,N]
   |invoke r m=>exact B λF=>by simp only[cz,L,N]
  |makeFunc fn first I=>exact B λF=>by cases fn<;>simp only[cz,L]
  |_=>exact B λF=>by simp only[cz,L]
def IS {o:Oper} {w l:St} (q:step P h F0 o w=some l):∃S,Holds F0 S/\∀F,Holds F S->step P h F o w=some l:=by unfold step at q;obtain⟨I,z,B⟩:=bZ.1 q;obtain⟨S,G,k⟩:=Nj B;exact⟨S,G,λF D=>by simp only[step,z,dU,k F D]⟩
def KO {z:Array Oper}:∀{l:List Oper} {B w:St},lX P h F0 z l B=some w->∃S,Holds F0 S/\∀F,Holds F S->lX P h F z l B=some w:=by intro l;induction l with
 |nil=>intro B w q;exact⟨[],Holds.nil,λF _=>q⟩
 |cons o l N=>
  intro B w q;simp only[lX] at q;split at q
  .rename_i b L;cases b with
   |true=>simp only[ai] at q;cases I:step P h F0 o B with
    |none=>rw[I] at q;cases q
    |some R=>rw[I] at q;obtain⟨S1,O,Q⟩:=IS I;obtain⟨S2,G,K⟩:=N q;exact⟨S1++S2,O.append G,λF D=>by simp only[lX,L,ai,Q F D.left,dU];exact K F D.right⟩
   |false=>simp only[aj] at q;obtain⟨S2,G,K⟩:=N q;exact⟨S2,G,λF D=>by simp only[lX,L,aj];exact K F D⟩
  .cases q
def IG {K:Array Oper}:∀{l:List Oper} {i:Nat} {w:List (Nat×ey)} {L z:St},gM P h F0 K i l w L=some z->∃S,Holds F0 S/\∀F,Holds F S->gM P h F K i l w L=some z:=by intro l;induction l with
 |nil=>intro i w L z q;exact⟨[],Holds.nil,λF _=>q⟩
 |cons o l R=>
  intro i w L z q;simp only[gM] at q;split at q
  .cases q
  .rename_i b Q;cases b with
   |true=>simp only[ai] at q;cases N:(O1 h L o&&(yF h o).isEmpty) with
    |true=>
     simp only[N,ai] at q;split at q
     .rename_i v V;obtain⟨G,q⟩:=aZ q;obtain⟨S1,O,U⟩:=Hu V;obtain⟨S2,D,I⟩:=R q;exact⟨S1++S2,O.append D,λF B=>by simp only[gM,Q,ai,N,U F B.left,G];exact I F B.right⟩
     .cases q
    |false=>
     simp only[N,aj] at q;split at q
     .rename_i st1 W;obtain⟨G,q⟩:=aZ q;obtain⟨S1,O,U⟩:=IS W;obtain⟨S2,D,I⟩:=R q;exact⟨S1++S2,O.append D,λF B=>by simp only[gM,Q,ai,N,aj,U F B.left,G];exact I F B.right⟩
     .cases q
   |false=>simp only[aj] at q;obtain⟨G,q⟩:=aZ q;obtain⟨S2,D,I⟩:=R q;exact⟨S2,D,λF B=>by simp only[gM,Q,aj,G,ai];exact I F B⟩
def yf {n:Nat}:∀(c:Code) {G:St} {x:Ex×St},exec P h F0 n c G=some x->∃S,Holds F0 S/\∀F m,Holds F S->n<=m->exec P h F m c G=some x:=by intro c;induction c with
 |skip=>intro G x w;exact⟨[],Holds.nil,λF m _ _=>w⟩
 |label l=>intro G x w;exact⟨[],Holds.nil,λF m _ _=>w⟩
 |exit id=>intro G x w;exact⟨[],Holds.nil,λF m _ _=>w⟩
 |ret=>intro G x w;exact⟨[],Holds.nil,λF m _ _=>w⟩
 |region id ops draw=>intro G x w;simp only[exec] at w;obtain⟨st1,R,w⟩:=bZ.1 w;cases draw with
  |true=>simp only[ai] at w;obtain⟨hb,w⟩:=aZ w;simp only[bg] at w;obtain⟨s,hr,rfl⟩:=w;obtain⟨S,I,k⟩:=IG hr;exact⟨S,I,λF m B _=>by simp only[exec,R,dU,ai,hb,k F B,bW]⟩
  |false=>simp only[aj,bg] at w;obtain⟨s,hr,rfl⟩:=w;obtain⟨S,I,k⟩:=KO hr;exact⟨S,I,λF m B _=>by simp only[exec,R,dU,aj,k F B,bW]⟩
 |seq a b O Q=>
  intro G x w;simp only[exec] at w;cases L:find h.blk (b9 a) with
  |some z=>simp only[L] at w;exact⟨[],Holds.nil,λF m _ _=>by simp only[exec,L];exact w⟩
  |none=>
  simp only[L] at w;split at w
  .rename_i st1 ha;obtain⟨S1,V,k1⟩:=O ha;obtain⟨S2,h2,k2⟩:=Q w;exact⟨S1++S2,V.append h2,λF m B D=>by simp only[exec,L,k1 F m B.left D];exact k2 F m B.right D⟩
  .rename_i N;obtain⟨S1,V,k1⟩:=O w;refine⟨S1,V,λF m B D=> ?_⟩;simp only[exec,L,k1 F m B D];obtain⟨e,s⟩:=x;cases e with
   |normal=>exact absurd w (N s)
   |exit j=>rfl
   |ret=>rfl
 |cond c a b O Q=>
  intro G x w;simp only[exec] at w;split at w
  .rename_i t hc;cases t with
   |true=>obtain⟨S,I,k⟩:=O w;exact⟨S,I,λF m B D=>by simp only[exec,hc,ai];exact k F m B D⟩
   |false=>obtain⟨S,I,k⟩:=Q w;exact⟨S,I,λF m B D=>by simp only[exec,hc,aj];exact k F m B D⟩
  .cases w
 |block id c W=>
  intro G x w;simp only[exec] at w;split at w
  .rename_i j s hc;obtain⟨S,I,k⟩:=W hc;exact⟨S,I,λF m B D=>by simp only[exec,k F m B D];exact w⟩
  .rename_i N;obtain⟨S,I,k⟩:=W w;refine⟨S,I,λF m B D=> ?_⟩;simp only[exec,k F m B D];obtain⟨e,s⟩:=x;cases e with
   |normal=>rfl
   |exit j=>exact absurd w (N j s)
   |ret=>rfl
 |loop c W=>
  intro G x w;simp only[exec] at w;have key:∀(q:Nat) {G:St} {x:Ex×St},iter h (b9 c) (exec P h F0 n c) q G=some x->∃S,Holds F0 S/\∀F m U,Holds F S->n<=m->q<=U->iter h (b9 c) (exec P h F m c) U G=some x:=by intro q;induction q with
   |zero=>intro G x w;simp[iter] at w
   |succ q ihq=>
    intro G x w;simp only[iter] at w;split at w
    .rename_i st1 hc;obtain⟨S1,V,k1⟩:=W hc;obtain⟨S2,h2,k2⟩:=ihq w;refine⟨S1++S2,V.append h2,λF m U B D hq=> ?_⟩;obtain⟨K,rfl⟩:∃K,U=K+1:=⟨U-1,af⟩
     simp only[iter,k1 F m B.left D];exact k2 F m K B.right D af
    .rename_i N;obtain⟨S1,V,k1⟩:=W w;refine⟨S1,V,λF m U B D hq=> ?_⟩;obtain⟨K,rfl⟩:∃K,U=K+1:=⟨U-1,af⟩
     simp only[iter,k1 F m B D];obtain⟨e,s⟩:=x;cases e with
     |normal=>exact absurd w (N s)
     |exit j=>rfl
     |ret=>rfl
  obtain⟨S,I,k⟩:=key n w;exact⟨S,I,λF m B D=>by simp only[exec];exact k F m m B D D⟩
 |scope c W=>intro G x w;simp only[exec] at w;obtain⟨S,I,k⟩:=W w;exact⟨S,I,λF m B D=>by simp only[exec];exact k F m B D⟩
 |rangeFunc f ps a b O Q=>intro G x w;simp[exec] at w
 |goto l=>intro G x w;simp[exec] at w
 |refuse s=>intro G x w;simp[exec] at w
def lI {n m:Nat} (w:n<=m) {c:Code} {l:St} {x:Ex×St} (z:exec P h F0 n c l=some x):exec P h F0 m c l=some x:=by obtain⟨S,q,k⟩:=yf c z;exact k F0 m q w
end
section
variable {P:Program} {H:Nat->Hint} {dm:cr}
def Jr:∀(n:Nat) {f:Nat} {args:List SV} {q:List (Nat×Ob)} {r:AV×List (Nat×Ob)},kH P H dm n f args q=some r->kH P H dm (n+1) f args q=some r:=by intro n;induction n with
 |zero=>intro f args q r l;simp[kH] at l
 |succ n L=>
  intro f args q r l;rw[kH] at l⊢;dsimp only at l⊢;split at l
  .rename_i x z;(try simp only[z]);exact l
  .rename_i z
   (try simp only[z])
   split at l
   .rename_i fn G
    (try simp only[G])
    split at l
    .rename_i c D
     (try simp only[D])
     obtain⟨F,l⟩:=aZ l;rw[F];simp only[ai];split at l
     .rename_i e N K;obtain⟨S,B,k⟩:=yf c K;have w:Holds (kH P H dm (n+1)) S:=λs I=>L (B s I)
      rw[k _ (n+1) w af];exact l
     .cases l
    .cases l
   .cases l
def qx {n m:Nat} (q:n<=m) {f:Nat} {args:List SV} {l:List (Nat×Ob)} {r:AV×List (Nat×Ob)} (w:kH P H dm n f args l=some r):kH P H dm m f args l=some r:=by induction q with
 |refl=>exact w
 |step _ z=>exact Jr _ z
noncomputable def run (P:Program) (H:Nat->Hint) (dm:cr):cr:=λf args l=>
 open Classical in if h : ∃ r n, kH P H dm n f args l = some r then some h.choose else none
def mz {f:Nat} {args:List SV} {l:List (Nat×Ob)} {r:AV×List (Nat×Ob)}:run P H dm f args l=some r↔∃n,kH P H dm n f args l=some r:=by
 constructor
 .intro w;unfold run at w;split at w
  .rename_i q;injection w with w;rw[<-w];exact q.choose_spec
  .cases w
 .rintro⟨n,B⟩;unfold run;have q:∃r n,kH P H dm n f args l=some r:=⟨r,n,B⟩
  rw[iX q];obtain⟨m,F⟩:=q.choose_spec;have D:=qx (ng n m) B;have z:=qx (nh n m) F;rw[D] at z;exact z.symm
def MP {S:Gt} (q:Holds (run P H dm) S):∃n,Holds (kH P H dm n) S:=by induction S with
 |nil=>exact⟨0,Holds.nil⟩
 |cons s S B=>
  obtain⟨n,z⟩:=B λt l=>q t (cK _ l)
  obtain⟨m,w⟩:=mz.1 (q s (sW ..));refine⟨max n m,λt l=> ?_⟩;cases aD.1 l with
  |inl e=>subst e;exact qx (nh ..) w
  |inr e=>exact qx (ng ..) (z t e)
def Ap {f:Nat} {fn:Func} {c:Code} {args:List SV} {l:List (Nat×Ob)} {r:AV×List (Nat×Ob)} {n:Nat} {e:Ex} {w:St} (K:dm f args l=none)
  (G:P.funcs[f]? =some fn) (B:fn.body=some c) (D:(Nat.ble args.length fn.ntmps&&(l.map (·.1)).all (λi=> !(sG i)))=true)
  (N:exec P (H f) (run P H dm) n c { env:=find (tI 0 args),ob:=find l }=some (e,w)) (F:Ot P (H f).own fn l e w=some r):run P H dm f args l=some r:=by
 obtain⟨S,z,k⟩:=yf c N;obtain⟨m,I⟩:=MP z;have q:Holds (kH P H dm (max n m)) S:=λs L=>qx (nh ..) (I s L)
 refine mz.2 ⟨max n m+1,?_⟩;simp only[kH,K,G,B,D,ai,k _ (max n m) q (ng ..)];exact F
def mR {f:Nat} {args:List SV} {l:List (Nat×Ob)} {r:AV×List (Nat×Ob)} (q:dm f args l=some r):run P H dm f args l=some r:=
 mz.2 ⟨1,by simp only[kH,q]⟩
def zV {q:Qp} {B:Mu} (F:xw P=true) (I:∀f fn c,P.funcs[f]? =some fn->fn.body=some c->jO q B P (H f) fn.ntmps c) (G:dX q B P dm):∀n,dX q B P (kH P H dm n):=by intro n;induction n with
 |zero=>intro g args D r z l;simp[kH] at l
 |succ n ih=>
  intro g args D r z l;simp only[kH] at l;split at l
  .rename_i x W;injection l with l;subst l;exact G g args D r z W
  .split at l
   .rename_i fn L;split at l
    .rename_i c U;obtain⟨V,l⟩:=aZ l;split at l
     .rename_i e st hx;refine λw μ K us N O Q R S=> .inl ⟨?_,Jo F (I g) ih L U V hx l w μ K us N O Q R S⟩
      simp only[xw,aF] at F;have:=cI F.2;have:=(cO.1 L).1;omega
     .cases l
    .cases l
   .cases l
def zA {q:Qp} {B:Mu} (F:xw P=true) (z:∀f fn c,P.funcs[f]? =some fn->fn.body=some c->jO q B P (H f) fn.ntmps c) (l:dX q B P dm):dX q B P (run P H dm):=by intro g args D r w I;obtain⟨n,G⟩:=mz.1 I;exact zV F z l n g args D r w G
end
