/- THE ABSTRACT MACHINE. -/
import Derived.Test.YthppjmoncapdfaaGreatDoorAmCall
set_option linter.all false
namespace Go.AM
open Go.RowKit
def bU {R:Type} {b:Bool} {x:Option R} {r:R} (l:(bif b then x else none)=some r):b=true/\x=some r:=by cases b with
 |true=>exact⟨rfl,l⟩
 |false=>cases l
abbrev Pp:=List (Nat×List SV×List (Nat×Ob)×(AV×List (Nat×Ob)))
def Holds (F:dW) (S:Pp):Prop:=∀s∈S,F s.1 s.2.1 s.2.2.1=some s.2.2.2
def Holds.nil {F:dW}:Holds F []:=λ_ h=>by cases h
def Holds.append {F:dW} {S T:Pp} (h:Holds F S) (k:Holds F T):Holds F (S++T):=λs l=>(bu.1 l).elim (h s) (k s)
def Holds.left {F:dW} {S T:Pp} (h:Holds F (S++T)):Holds F S:=λs l=>h s (bu.2 (.inl l))
def Holds.right {F:dW} {S T:Pp} (h:Holds F (S++T)):Holds F T:=λs l=>h s (bu.2 (.inr l))
def Holds.one {F:dW} {g:Nat} {args:List SV} {cE:List (Nat×Ob)} {r:AV×List (Nat×Ob)} (h:F g args cE=some r):Holds F [(g,args,cE,r)]:=λs l=>by simp only[bW] at l;subst l;exact h
def Holds.get {F:dW} {g:Nat} {args:List SV} {cE:List (Nat×Ob)} {r:AV×List (Nat×Ob)} (h:Holds F [(g,args,cE,r)]):F g args cE=some r:=h _ (bW.2 rfl)
section
variable {P:Program} {h:Hint} {F0:dW}
def S4 {c:Call} {f:Operand} {w:St} {r:AV} (l:rY P h F0 w c f=some r):∃S,Holds F0 S/\∀F,Holds F S->rY P h F w c f=some r:=by
 unfold rY at l;split at l
 .rename_i g args B;obtain⟨D,l⟩:=bU l;split at l
  .rename_i cE G;split at l
   .rename_i K q I;refine⟨_,Holds.one I,λF z=> ?_⟩;simp only[rY,B,D,ai,G,z.get];exact l
   .cases l
  .cases l
 .cases l
def Qn {o:Oper} {G:St} {v:SV} (l:eo P h F0 o G=some v):∃S,Holds F0 S/\∀F,Holds F S->eo P h F o G=some v:=by cases z:o.op with
 |call c=>cases D:c.callee with
  |value f=>
   simp only[eo,z,D] at l;cases how:o.dst.any h.owns.contains with
   |true=>rw[how] at l;cases l
   |false=>
   rw[how] at l;simp only[az] at l;cases w:(o.dst.any h.stay.contains&&wide G c f) with
   |true=>rw[w] at l;simp only[ai,bY] at l;obtain⟨r,K,rfl⟩:=l;obtain⟨S,N,Q⟩:=S4 K;refine⟨S,N,λF I=> ?_⟩;simp only[eo,z,D];rw[how,w,Q F I];rfl
   |false=>
   rw[w] at l;simp only[az] at l;cases q:(wide G c f||c.args.toList.any (λx=>(oq h G x).isSome)) with
   |true=>rw[q] at l;cases l
   |false=>
    rw[q] at l;simp only[az] at l;split at l
    .rename_i g B R O L;split at l
     .rename_i r K;refine⟨_,Holds.one K,λF I=> ?_⟩;simp only[eo,z,D,O,L,I.get];rw[how,w,q];exact l
     .cases l
    .cases l
  |builtin b=>exact⟨[],Holds.nil,λF _=>by simp only[eo,z,D] at l⊢;exact l⟩
  |invoke r m=>exact⟨[],Holds.nil,λF _=>by simp only[eo,z,D] at l⊢;exact l⟩
 |makeFunc fn first B=>exact⟨[],Holds.nil,λF _=>by cases fn<;>simp only[eo,z] at l⊢<;>exact l⟩
 |_=>exact⟨[],Holds.nil,λF _=>by simp only[eo,z] at l⊢;exact l⟩
def PL {c:Call} {f:Operand} {G:St} {d:Option Nat} {x:St} (l:kJ P h F0 G c f d=some x):∃S,Holds F0 S/\∀F,Holds F S->kJ P h F G c f d=some x:=by
 unfold kJ at l;split at l
 .rename_i d;split at l
  .rename_i g B L D q;split at l
   .rename_i e K xs z;refine⟨_,Holds.one z,λF w=> ?_⟩;simp only[kJ,D,q,w.get];exact l
   .rename_i I z;refine⟨_,Holds.one z,λF w=> ?_⟩;simp only[kJ,D,q,w.get];exact l
   .cases l
  .cases l
 .cases l
def PO {c:Call} {f:Operand} {B:St} {d:Option Nat} {x:St} (l:oS P h F0 B c f d=some x):∃S,Holds F0 S/\∀F,Holds F S->oS P h F B c f d=some x:=by
 unfold oS at l;split at l
 .rename_i g z R id G w;split at l
  .rename_i e Q xs q;split at l
   .rename_i r O N K L I;refine⟨_,Holds.one I,λF D=> ?_⟩;simp only[oS,G,w,q,D.get];exact l
   .cases l
  .cases l
 .cases l
def Ma {c:Call} {f:Operand} {B:St} {d:Option Nat} {x:St} (l:jy P h F0 B c f d=some x):∃S,Holds F0 S/\∀F,Holds F S->jy P h F B c f d=some x:=by
 unfold jy at l;split at l
 .rename_i g z N I q;simp only[] at l;obtain⟨G,l⟩:=bU l;split at l
  .rename_i cE K;split at l
   .rename_i r w L;refine⟨_,Holds.one L,λF D=> ?_⟩;simp only[jy,I,q,G,ai,K,D.get];exact l
   .cases l
  .cases l
 .cases l
def XB {o:Oper} {w:St} (q:∀c,o.op≠ .call c) (F:dW):mC P h F o w=mC P h F0 o w:=by unfold mC;split<;>first|rfl|(rename_i l;exact absurd l (q _))|(rename_i l _;exact absurd l (q _))
def Nz {G z:St} {id:Nat} (B:G.dK id=some z) {x:Operand} (D:vV G x=false) {ty:TypeId} {a:AV} (w:(bw P ty G x).bind (me G)=some a):(bw P ty z x).bind (me z)=some a:=by
 unfold St.dK at B;split at B
 .rename_i e sz xs hb N;injection B with B;subst B;cases x with
  |tmp i=>simp only[bw] at w⊢;cases I:G.env i with
   |none=>rw[I] at w;cases w
   |some s=>rw[I] at w;simp only[fH,cQ] at w⊢;cases s with
    |pv v=>simpa[me,SV.dK,SV.dF,SV.mentions] using w
    |row j=>simp only[me] at w;simp only[SV.dK];cases U:Nat.beq j id with
     |true=>have:=beq_iff.1 U;subst this;rw[N] at w;simpa[me] using w
     |false=>
      have L:id≠j:=λe=>by subst e;simp[beq_iff.2] at U
      simp only[az,me,br _ _ L];obtain⟨ob,F,l⟩:=dL.1 w;rw[F];cases ob with
      |box t cells=>simp[Ob.val] at l
      |row K sz' S=>simpa[Ob.dK] using l
      |mp k' K O R=>simpa[Ob.dK] using l
      |mr k' K Q O R=>simpa[Ob.dK] using l
      |rn K Q k' e2 s2 S ys'=>simpa[Ob.dK] using l
      |it Q n'=>simp[Ob.val] at l
      |lp Q=>simp[Ob.val] at l
    |ag cs=>simp[vV,I] at D
    | «at» j q=>simp[vV,I] at D
    |_=>cases w
  |const v=>simp only[bw] at w⊢;cases V:ofConst P ty v<;>simp[V,me] at w⊢;exact w
  |func f=>simpa[bw,me] using w
  |global g=>simp[bw] at w
 .cases B
def L4 {B w:St} {id:Nat} (l:B.dK id=some w) {x:Operand} (h:vV B x=false):vV w x=false:=by
 unfold St.dK at l;split at l
 .injection l with l;subst l;cases x with
  |tmp i=>simp only[vV] at h⊢;cases D:B.env i with
   |none=>rfl
   |some s=>rw[D] at h;simp only[cQ];cases s with
    |ag F=>simp at h
    | «at» j q=>simp at h
    |row j=>simp only[SV.dK];cases Nat.beq j id<;>rfl
    |_=>simp only[SV.dK,SV.dF];split<;>rename_i z<;>(first|rfl|(revert z;cases SV.mentions id _<;>intro z<;>cases z))
  |_=>rfl
 .cases l
def wY:∀{xs:List Operand} {B w:St},mC.gY B xs=some w->∀{x:Operand},vV B x=false->∀{ty:TypeId} {a:AV},(bw P ty B x).bind (me B)=some a->(bw P ty w x).bind (me w)=some a:=by intro xs;induction xs with
 |nil=>intro B w q x _ ty a z;simp only[mC.gY,aM] at q;subst q;exact z
 |cons y xs D=>intro B w q x l ty a z;cases y with
  |tmp i=>
   simp only[mC.gY] at q;split at q
   .rename_i id I;cases F:B.dK id with
    |none=>rw[F] at q;cases q
    |some G=>rw[F] at q;exact D q (L4 F l) (Nz F l z)
   .exact D q l z
  |const v=>exact D q l z
  |func f=>exact D q l z
  |global g=>exact D q l z
def r9 {l q:St} {xs:List Operand} (h:mC.jf l xs=some q):mC.gY l xs=some q/\∀x∈xs,vV l x=false:=by unfold mC.jf at h;cases w:xs.any (vV l) with
 |true=>rw[w] at h;cases h
 |false=>
  rw[w] at h
  exact⟨h,λx B=>by cases z:vV l x with
   |false=>rfl
   |true=>exact absurd z (by simpa using qJ.1 w x B)⟩
def Ci {F w:St} {N:List Operand} (G:mC.jf F N=some w):∀{xs:List Operand} {z:List TypeId} {B:List AV},(∀x∈xs,vV F x=false)->jt P F xs z=some B->jt P w xs z=some B:=by intro xs;induction xs with
 |nil=>intro z B _ l;exact l
 |cons x xs L=>
  intro z B q l;simp only[jt] at l⊢;split at l
  .rename_i v O I D;rw[wY (r9 G).1 (q x ah) I,L (λy K=>q y (by simp[K])) D];exact l
  .cases l
def KJ {F w:St} {K:List Operand} (G:mC.jf F K=some w) {f:Operand} {g:Nat} {l:List AV} (B:bw P 0 F f=some (.pv (.fn g l))):bw P 0 w f=some (.pv (.fn g l)):=by
 have:=wY (P:=P) (r9 G).1 (x:=f) (by cases f with
  |tmp i=>simp only[bw] at B;simp[vV,B]
  |_=>rfl) (ty:=0) (a:= .fn g l) (by rw[B];rfl)
 cases D:bw P 0 w f with
 |none=>rw[D] at this;cases this
 |some s=>rw[D] at this;simp only[fH] at this;cases s with
  |pv v=>simp only[me,aM] at this;rw[this]
  |row id=>simp only[me] at this;obtain⟨I,_,z⟩:=dL.1 this;cases I<;>simp[Ob.val] at z
  |ag L=>simp only[me,bY] at this;obtain⟨_,_,h⟩:=this;cases h
  | «at» j q=>cases q with
   |full=>cases this
   |nr i=>
    simp only[me] at this;split at this
    .split at this
     .cases this
     .cases this
    .cases this
  |_=>cases this
def Vv {o:Oper} {B w:St} (l:mC P h F0 o B=some w):∃S,Holds F0 S/\∀F,Holds F S->mC P h F o B=some w:=by cases Q:o.op with
 |call c=>cases K:c.callee with
  |value f=>
   have e1:∀F,mC P h F o B=(bif o.dst.any h.owns.contains then kJ P h F B c f o.dst else bif o.dst.any h.stay.contains&&wide B c f then none else bif wide B c f then jy P h F B c f o.dst else bif c.args.toList.any (λx=>(oq h B x).isSome) then oS P h F B c f o.dst else
    match mC.jf B c.args.toList with
    |some w=>match bw P 0 w f,jt P w c.args.toList c.argTypes.toList with
     |some (.pv (.fn g G)),some U=>match F g ((U++G).map .pv) [] with
      |some (r,[])=>bif c.args.toList.any (kI w)|| !r.kC then none else some (w.set o.dst (.pv r))
      |_=>none
     |_,_=>none
    |none=>none):=λF=>by
    cases N:o.dst<;>simp only[mC,Q,K,N]<;>rfl
   rw[e1] at l;cases how:o.dst.any h.owns.contains with
   |true=>rw[how] at l;simp only[ai] at l;obtain⟨S,L,q⟩:=PL l;exact⟨S,L,λF I=>by rw[e1,how];simp only[ai,q F I]⟩
   |false=>
   rw[how] at l;simp only[az] at l;cases D:(o.dst.any h.stay.contains&&wide B c f) with
   |true=>rw[D] at l;cases l
   |false=>
   rw[D] at l;simp only[az] at l;cases O:wide B c f with
   |true=>rw[O] at l;simp only[ai] at l;obtain⟨S,L,q⟩:=Ma l;exact⟨S,L,λF I=>by rw[e1,how,D,O];simp only[ai,az,q F I]⟩
   |false=>
   rw[O] at l;simp only[az] at l;cases z:c.args.toList.any (λx=>(oq h B x).isSome) with
   |true=>rw[z] at l;simp only[ai] at l;obtain⟨S,L,q⟩:=PO l;exact⟨S,L,λF I=>by rw[e1,how,D,O,z];simp only[ai,az,q F I]⟩
   |false=>
    rw[z] at l;simp only[az] at l;split at l
    .rename_i st1 hp;split at l
     .rename_i g G U V R;split at l
      .rename_i r hr;refine⟨_,Holds.one hr,λF I=> ?_⟩;rw[e1,how,D,O,z];simp only[az,hp,V,R,I.get];exact l
      .cases l
     .cases l
    .cases l
  |builtin b=>exact⟨[],Holds.nil,λF _=>by cases N:o.dst<;>cases b<;>simp only[mC,Q,K,N] at l⊢<;>exact l⟩
  |invoke r m=>exact⟨[],Holds.nil,λF _=>by cases N:o.dst<;>simp only[mC,Q,K,N] at l⊢<;>exact l⟩
 |_=>exact⟨[],Holds.nil,λF _=>by rw[XB (F0:=F0) (λc K=>by rw[Q] at K;cases K) F];exact l⟩
def Yt {o:Oper} {z q:St} (D:step0 P h F0 o z=some q):∃S,Holds F0 S/\∀F,Holds F S->step0 P h F o z=some q:=by
 unfold step0 at D;split at D
 .rename_i v V;obtain⟨S,U,l⟩:=Qn V;exact⟨S,U,λF K=>by simp only[step0,l F K];exact D⟩
 .rename_i V;have done:∀S,Holds F0 S->(∀F,Holds F S->eo P h F o z=none/\mC P h F o z=some q)->∃S,Holds F0 S/\∀F,Holds F S->step0 P h F o z=some q:=λS U l=>
   ⟨S,U,λF K=>by simp only[step0,(l F K).1];exact(l F K).2⟩
  have B:(∀F,eo P h F o z=eo P h F0 o z)->∃S,Holds F0 S/\∀F,Holds F S->step0 P h F o z=some q:=λhsame=>by obtain⟨S,U,l⟩:=Vv D;exact done S U λF K=>⟨by rw[hsame F];exact V,l F K⟩
  cases L:o.op with
  |call c=>cases N:c.callee with
   |value f=>
    cases how:o.dst.any h.owns.contains with
    |true=>exact B λF=>by simp only[eo,L,N,how,ai]
    |false=>
    cases G:(o.dst.any h.stay.contains&&wide z c f) with
    |true=>cases hd:o.dst<;>(simp only[mC,L,N,hd] at D;rw[hd] at G how;rw[how,G] at D;cases D)
    |false=>
    cases w:(wide z c f||c.args.toList.any (λx=>(oq h z x).isSome)) with
    |true=>obtain⟨S,U,l⟩:=Vv D;exact done S U λF K=>⟨by simp only[eo,L,N];rw[how,G,w];rfl,l F K⟩
    |false=>
     obtain⟨XZ,Q⟩:=mE.1 w
     have e1:∀F,mC P h F o z=(bif o.dst.any h.owns.contains then kJ P h F z c f o.dst else bif o.dst.any h.stay.contains&&wide z c f then none else bif wide z c f then jy P h F z c f o.dst else bif c.args.toList.any (λx=>(oq h z x).isSome) then oS P h F z c f o.dst else
      match mC.jf z c.args.toList with
      |some q=>match bw P 0 q f,jt P q c.args.toList c.argTypes.toList with
       |some (.pv (.fn g I)),some vs=>match F g ((vs++I).map .pv) [] with
        |some (r,[])=>bif c.args.toList.any (kI q)|| !r.kC then none else some (q.set o.dst (.pv r))
        |_=>none
       |_,_=>none
      |none=>none):=λF=>by
      cases hd:o.dst<;>simp only[mC,L,N,hd]<;>rfl
     rw[e1,how,G,XZ,Q] at D;simp only[az] at D;split at D
     .rename_i st1 hp;split at D
      .rename_i g I vs hfn hvs;split at D
       .rename_i r hr;refine done _ (Holds.one hr) λF K=>⟨?_,?_⟩
        .simp only[eo,L,N];rw[how,G,w];simp only[az];split
         .rename_i g2 caps2 vs2 O R;have k1:=KJ hp O;rw[hfn] at k1;simp only[aM,SV.pv.injEq,AV.fn.injEq] at k1;obtain⟨rfl,rfl⟩:=k1;have k2:=Ci hp (r9 hp).2 R;rw[hvs] at k2;injection k2 with k2;subst k2;simp only[eo,L,N] at V;rw[how,G,w] at V;simp only[az,O,R,hr] at V;rw[K.get];exact V
         .rfl
        .rw[e1,how,G,XZ,Q];simp only[az,hp,hfn,hvs,K.get];exact D
       .cases D
      .cases D
     .cases D
   |builtin b=>exact B λF=>by simp only[eo,L,N]
   |invoke r m=>exact B λF=>by simp only[eo,L,N]
  |makeFunc fn first I=>exact B λF=>by cases fn<;>simp only[eo,L]
  |_=>exact B λF=>by simp only[eo,L]
def RZ {o:Oper} {w l:St} (q:step P h F0 o w=some l):∃S,Holds F0 S/\∀F,Holds F S->step P h F o w=some l:=by unfold step at q;obtain⟨I,z,B⟩:=dL.1 q;obtain⟨S,G,k⟩:=Yt B;exact⟨S,G,λF D=>by simp only[step,z,fH,k F D]⟩
def UO {z:Array Oper}:∀{l:List Oper} {B w:St},pS P h F0 z l B=some w->∃S,Holds F0 S/\∀F,Holds F S->pS P h F z l B=some w:=by intro l;induction l with
 |nil=>intro B w q;exact⟨[],Holds.nil,λF _=>q⟩
 |cons o l N=>
  intro B w q;simp only[pS] at q;split at q
  .rename_i b L;cases b with
   |true=>simp only[ai] at q;cases I:step P h F0 o B with
    |none=>rw[I] at q;cases q
    |some R=>rw[I] at q;obtain⟨S1,O,Q⟩:=RZ I;obtain⟨S2,G,K⟩:=N q;exact⟨S1++S2,O.append G,λF D=>by simp only[pS,L,ai,Q F D.left,fH];exact K F D.right⟩
   |false=>simp only[az] at q;obtain⟨S2,G,K⟩:=N q;exact⟨S2,G,λF D=>by simp only[pS,L,az];exact K F D⟩
  .cases q
def RQ {K:Array Oper}:∀{l:List Oper} {i:Nat} {w:List (Nat×fZ)} {L z:St},jI P h F0 K i l w L=some z->∃S,Holds F0 S/\∀F,Holds F S->jI P h F K i l w L=some z:=by intro l;induction l with
 |nil=>intro i w L z q;exact⟨[],Holds.nil,λF _=>q⟩
 |cons o l R=>
  intro i w L z q;simp only[jI] at q;split at q
  .cases q
  .rename_i b Q;cases b with
   |true=>simp only[ai] at q;cases N:(isF h L o&&(DN h o).isEmpty) with
    |true=>
     simp only[N,ai] at q;split at q
     .rename_i v V;obtain⟨G,q⟩:=bU q;obtain⟨S1,O,U⟩:=Qn V;obtain⟨S2,D,I⟩:=R q;exact⟨S1++S2,O.append D,λF B=>by simp only[jI,Q,ai,N,U F B.left,G];exact I F B.right⟩
     .cases q
    |false=>
     simp only[N,az] at q;split at q
     .rename_i st1 hs;obtain⟨G,q⟩:=bU q;obtain⟨S1,O,U⟩:=RZ hs;obtain⟨S2,D,I⟩:=R q;exact⟨S1++S2,O.append D,λF B=>by simp only[jI,Q,ai,N,az,U F B.left,G];exact I F B.right⟩
     .cases q
   |false=>simp only[az] at q;obtain⟨G,q⟩:=bU q;obtain⟨S2,D,I⟩:=R q;exact⟨S2,D,λF B=>by simp only[jI,Q,az,G,ai];exact I F B⟩
def Dl {n:Nat}:∀(c:Code) {G:St} {x:Ex×St},exec P h F0 n c G=some x->∃S,Holds F0 S/\∀F m,Holds F S->n<=m->exec P h F m c G=some x:=by intro c;induction c with
 |skip=>intro G x w;exact⟨[],Holds.nil,λF m _ _=>w⟩
 |label l=>intro G x w;exact⟨[],Holds.nil,λF m _ _=>w⟩
 |exit id=>intro G x w;exact⟨[],Holds.nil,λF m _ _=>w⟩
 |ret=>intro G x w;exact⟨[],Holds.nil,λF m _ _=>w⟩
 |region id ops draw=>intro G x w;simp only[exec] at w;obtain⟨st1,R,w⟩:=dL.1 w;cases draw with
  |true=>simp only[ai] at w;obtain⟨hb,w⟩:=bU w;simp only[bY] at w;obtain⟨s,hr,rfl⟩:=w;obtain⟨S,I,k⟩:=RQ hr;exact⟨S,I,λF m B _=>by simp only[exec,R,fH,ai,hb,k F B,cQ]⟩
  |false=>simp only[az,bY] at w;obtain⟨s,hr,rfl⟩:=w;obtain⟨S,I,k⟩:=UO hr;exact⟨S,I,λF m B _=>by simp only[exec,R,fH,az,k F B,cQ]⟩
 |seq a b O Q=>
  intro G x w;simp only[exec] at w;cases L:find h.blk (dR a) with
  |some z=>simp only[L] at w;exact⟨[],Holds.nil,λF m _ _=>by simp only[exec,L];exact w⟩
  |none=>
  simp only[L] at w;split at w
  .rename_i st1 ha;obtain⟨S1,V,k1⟩:=O ha;obtain⟨S2,h2,k2⟩:=Q w;exact⟨S1++S2,V.append h2,λF m B D=>by simp only[exec,L,k1 F m B.left D];exact k2 F m B.right D⟩
  .rename_i N;obtain⟨S1,V,k1⟩:=O w;refine⟨S1,V,λF m B D=> ?_⟩;simp only[exec,L,k1 F m B D];obtain⟨e,s⟩:=x;cases e with
   |normal=>exact absurd w (N s)
   |exit j=>rfl
   |ret=>rfl
 |cond c a b O Q=>
  intro G x w;simp only[exec] at w;split at w
  .rename_i t hc;cases t with
   |true=>obtain⟨S,I,k⟩:=O w;exact⟨S,I,λF m B D=>by simp only[exec,hc,ai];exact k F m B D⟩
   |false=>obtain⟨S,I,k⟩:=Q w;exact⟨S,I,λF m B D=>by simp only[exec,hc,az];exact k F m B D⟩
  .cases w
 |block id c ih=>
  intro G x w;simp only[exec] at w;split at w
  .rename_i j s hc;obtain⟨S,I,k⟩:=ih hc;exact⟨S,I,λF m B D=>by simp only[exec,k F m B D];exact w⟩
  .rename_i N;obtain⟨S,I,k⟩:=ih w;refine⟨S,I,λF m B D=> ?_⟩;simp only[exec,k F m B D];obtain⟨e,s⟩:=x;cases e with
   |normal=>rfl
   |exit j=>exact absurd w (N j s)
   |ret=>rfl
 |loop c ih=>
  intro G x w;simp only[exec] at w;have key:∀(q:Nat) {G:St} {x:Ex×St},iter h (dR c) (exec P h F0 n c) q G=some x->∃S,Holds F0 S/\∀F m U,Holds F S->n<=m->q<=U->iter h (dR c) (exec P h F m c) U G=some x:=by intro q;induction q with
   |zero=>intro G x w;simp[iter] at w
   |succ q ihq=>
    intro G x w;simp only[iter] at w;split at w
    .rename_i st1 hc;obtain⟨S1,V,k1⟩:=ih hc;obtain⟨S2,h2,k2⟩:=ihq w;refine⟨S1++S2,V.append h2,λF m U B D hq=> ?_⟩;obtain⟨K,rfl⟩:∃K,U=K+1:=⟨U-1,af⟩
     simp only[iter,k1 F m B.left D];exact k2 F m K B.right D af
    .rename_i N;obtain⟨S1,V,k1⟩:=ih w;refine⟨S1,V,λF m U B D hq=> ?_⟩;obtain⟨K,rfl⟩:∃K,U=K+1:=⟨U-1,af⟩
     simp only[iter,k1 F m B D];obtain⟨e,s⟩:=x;cases e with
     |normal=>exact absurd w (N s)
     |exit j=>rfl
     |ret=>rfl
  obtain⟨S,I,k⟩:=key n w;exact⟨S,I,λF m B D=>by simp only[exec];exact k F m m B D D⟩
 |scope c ih=>intro G x w;simp only[exec] at w;obtain⟨S,I,k⟩:=ih w;exact⟨S,I,λF m B D=>by simp only[exec];exact k F m B D⟩
 |rangeFunc f ps a b O Q=>intro G x w;simp[exec] at w
 |goto l=>intro G x w;simp[exec] at w
 |refuse s=>intro G x w;simp[exec] at w
def oU {n m:Nat} (w:n<=m) {c:Code} {l:St} {x:Ex×St} (z:exec P h F0 n c l=some x):exec P h F0 m c l=some x:=by obtain⟨S,q,k⟩:=Dl c z;exact k F0 m q w
end
section
variable {P:Program} {H:Nat->Hint} {eY:dW}
def S0:∀(n:Nat) {f:Nat} {args:List SV} {cE:List (Nat×Ob)} {r:AV×List (Nat×Ob)},nQ P H eY n f args cE=some r->nQ P H eY (n+1) f args cE=some r:=by intro n;induction n with
 |zero=>intro f args cE r l;simp[nQ] at l
 |succ n K=>
  intro f args cE r l;rw[nQ] at l⊢;dsimp only at l⊢;split at l
  .rename_i x w;(try simp only[w]);exact l
  .rename_i w
   (try simp only[w])
   split at l
   .rename_i fn F
    (try simp only[F])
    split at l
    .rename_i c B
     (try simp only[B])
     obtain⟨D,l⟩:=bU l;rw[D];simp only[ai];split at l
     .rename_i e L I;obtain⟨S,z,k⟩:=Dl c I;have q:Holds (nQ P H eY (n+1)) S:=λs G=>K (z s G)
      rw[k _ (n+1) q af];exact l
     .cases l
    .cases l
   .cases l
def uI {n m:Nat} (l:n<=m) {f:Nat} {args:List SV} {cE:List (Nat×Ob)} {r:AV×List (Nat×Ob)} (q:nQ P H eY n f args cE=some r):nQ P H eY m f args cE=some r:=by induction l with
 |refl=>exact q
 |step _ w=>exact S0 _ w
noncomputable def run (P:Program) (H:Nat->Hint) (eY:dW):dW:=λf args cE=>
 open Classical in if h : ∃ r n, nQ P H eY n f args cE = some r then some h.choose else none
def qe {f:Nat} {args:List SV} {cE:List (Nat×Ob)} {r:AV×List (Nat×Ob)}:run P H eY f args cE=some r↔∃n,nQ P H eY n f args cE=some r:=by
 constructor
 .intro q;unfold run at q;split at q
  .rename_i l;injection q with q;rw[<-q];exact l.choose_spec
  .cases q
 .rintro⟨n,z⟩;unfold run;have l:∃r n,nQ P H eY n f args cE=some r:=⟨r,n,z⟩
  rw[jU l];obtain⟨m,D⟩:=l.choose_spec;have B:=uI (qO n m) z;have w:=uI (qP n m) D;rw[B] at w;exact w.symm
def XV {S:Pp} (q:Holds (run P H eY) S):∃n,Holds (nQ P H eY n) S:=by induction S with
 |nil=>exact⟨0,Holds.nil⟩
 |cons s S B=>
  obtain⟨n,z⟩:=B λt l=>q t (er _ l)
  obtain⟨m,w⟩:=qe.1 (q s (qQ ..));refine⟨max n m,λt l=> ?_⟩;cases aF.1 l with
  |inl e=>subst e;exact uI (qP ..) w
  |inr e=>exact uI (qO ..) (z t e)
def F6 {f:Nat} {fn:Func} {c:Code} {args:List SV} {cE:List (Nat×Ob)} {r:AV×List (Nat×Ob)} {n:Nat} {e:Ex} {q:St} (I:eY f args cE=none)
  (F:P.funcs[f]? =some fn) (z:fn.body=some c) (B:(Nat.ble args.length fn.ntmps&&(cE.map (·.1)).all (λi=> !(wW i)))=true)
  (L:exec P (H f) (run P H eY) n c { env:=find (x6 0 args),ob:=find cE }=some (e,q)) (D:ZM P (H f).own fn cE e q=some r):run P H eY f args cE=some r:=by
 obtain⟨S,w,k⟩:=Dl c L;obtain⟨m,G⟩:=XV w;have l:Holds (nQ P H eY (max n m)) S:=λs K=>uI (qP ..) (G s K)
 refine qe.2 ⟨max n m+1,?_⟩;simp only[nQ,I,F,z,B,ai,k _ (max n m) l (qO ..)];exact D
def mK {f:Nat} {args:List SV} {cE:List (Nat×Ob)} {r:AV×List (Nat×Ob)} (l:eY f args cE=some r):run P H eY f args cE=some r:=
 qe.2 ⟨1,by simp only[nQ,l]⟩
def Fu {q:Qp} {B:Mu} (D:Cg P=true) (G:∀f fn c,P.funcs[f]? =some fn->fn.body=some c->mD q B P (H f) fn.ntmps c) (F:fO q B P eY):∀n,fO q B P (nQ P H eY n):=by intro n;induction n with
 |zero=>intro g args cE r z l;simp[nQ] at l
 |succ n ih=>
  intro g args cE r z l;simp only[nQ] at l;split at l
  .rename_i x V;injection l with l;subst l;exact F g args cE r z V
  .split at l
   .rename_i fn K;split at l
    .rename_i c S;obtain⟨U,l⟩:=bU l;split at l
     .rename_i e st hx;refine λw μ I us L N O Q R=> .inl ⟨?_,SU D (G g) ih K S U hx l w μ I us L N O Q R⟩
      simp only[Cg,aI] at D;have:=di D.2;have:=(eC.1 K).1;omega
     .cases l
    .cases l
   .cases l
def EX {q:Qp} {B:Mu} (D:Cg P=true) (z:∀f fn c,P.funcs[f]? =some fn->fn.body=some c->mD q B P (H f) fn.ntmps c) (l:fO q B P eY):fO q B P (run P H eY):=by intro g args cE r w G;obtain⟨n,F⟩:=qe.1 G;exact Fu D z l n g args cE r w F
end
