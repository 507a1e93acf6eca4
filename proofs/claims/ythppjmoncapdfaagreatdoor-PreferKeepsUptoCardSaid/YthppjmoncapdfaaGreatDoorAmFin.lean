/- THE ABSTRACT MACHINE. -/
import Derived.Test.YthppjmoncapdfaaGreatDoorAmCall
set_option linter.all false
namespace Go.AM
open Go.RowKit
def bV {R:Type} {b:Bool} {x:Option R} {r:R} (l:(bif b then x else none)=some r):b=true/\x=some r:=by cases b with
 |true=>exact⟨rfl,l⟩
 |false=>cases l
abbrev Py:=List (Nat×List SV×List (Nat×Ob)×(AV×List (Nat×Ob)))
def Holds (F:dX) (S:Py):Prop:=∀s∈S,F s.1 s.2.1 s.2.2.1=some s.2.2.2
def Holds.nil {F:dX}:Holds F []:=λ_ h=>by cases h
def Holds.append {F:dX} {S T:Py} (h:Holds F S) (k:Holds F T):Holds F (S++T):=λs l=>(bw.1 l).elim (h s) (k s)
def Holds.left {F:dX} {S T:Py} (h:Holds F (S++T)):Holds F S:=λs l=>h s (bw.2 (.inl l))
def Holds.right {F:dX} {S T:Py} (h:Holds F (S++T)):Holds F T:=λs l=>h s (bw.2 (.inr l))
def Holds.one {F:dX} {g:Nat} {args:List SV} {cF:List (Nat×Ob)} {r:AV×List (Nat×Ob)} (h:F g args cF=some r):Holds F [(g,args,cF,r)]:=λs l=>by simp only[bX] at l;subst l;exact h
def Holds.get {F:dX} {g:Nat} {args:List SV} {cF:List (Nat×Ob)} {r:AV×List (Nat×Ob)} (h:Holds F [(g,args,cF,r)]):F g args cF=some r:=h _ (bX.2 rfl)
section
variable {P:Program} {h:Hint} {F0:dX}
def Td {c:Call} {f:Operand} {w:St} {r:AV} (l:r8 P h F0 w c f=some r):∃S,Holds F0 S/\∀F,Holds F S->r8 P h F w c f=some r:=by
 unfold r8 at l;split at l
 .rename_i g args B;obtain⟨D,l⟩:=bV l;split at l
  .rename_i cF G;split at l
   .rename_i K q I;refine⟨_,Holds.one I,λF z=> ?_⟩;simp only[r8,B,D,ai,G,z.get];exact l
   .cases l
  .cases l
 .cases l
def Qx {o:Oper} {G:St} {v:SV} (l:ew P h F0 o G=some v):∃S,Holds F0 S/\∀F,Holds F S->ew P h F o G=some v:=by cases z:o.op with
 |call c=>cases D:c.callee with
  |value f=>
   simp only[ew,z,D] at l;cases how:o.dst.any h.owns.contains with
   |true=>rw[how] at l;cases l
   |false=>
   rw[how] at l;simp only[aA] at l;cases w:(o.dst.any h.stay.contains&&wide G c f) with
   |true=>rw[w] at l;simp only[ai,bZ] at l;obtain⟨r,K,rfl⟩:=l;obtain⟨S,N,Q⟩:=Td K;refine⟨S,N,λF I=> ?_⟩;simp only[ew,z,D];rw[how,w,Q F I];rfl
   |false=>
   rw[w] at l;simp only[aA] at l;cases q:(wide G c f||c.args.toList.any (λx=>(ou h G x).isSome)) with
   |true=>rw[q] at l;cases l
   |false=>
    rw[q] at l;simp only[aA] at l;split at l
    .rename_i g B R O L;split at l
     .rename_i r K;refine⟨_,Holds.one K,λF I=> ?_⟩;simp only[ew,z,D,O,L,I.get];rw[how,w,q];exact l
     .cases l
    .cases l
  |builtin b=>exact⟨[],Holds.nil,λF _=>by simp only[ew,z,D] at l⊢;exact l⟩
  |invoke r m=>exact⟨[],Holds.nil,λF _=>by simp only[ew,z,D] at l⊢;exact l⟩
 |makeFunc fn first B=>exact⟨[],Holds.nil,λF _=>by cases fn<;>simp only[ew,z] at l⊢<;>exact l⟩
 |_=>exact⟨[],Holds.nil,λF _=>by simp only[ew,z] at l⊢;exact l⟩
def PX {c:Call} {f:Operand} {G:St} {d:Option Nat} {x:St} (l:kL P h F0 G c f d=some x):∃S,Holds F0 S/\∀F,Holds F S->kL P h F G c f d=some x:=by
 unfold kL at l;split at l
 .rename_i d;split at l
  .rename_i g B L D q;split at l
   .rename_i e K xs z;refine⟨_,Holds.one z,λF w=> ?_⟩;simp only[kL,D,q,w.get];exact l
   .rename_i I z;refine⟨_,Holds.one z,λF w=> ?_⟩;simp only[kL,D,q,w.get];exact l
   .cases l
  .cases l
 .cases l
def PZ {c:Call} {f:Operand} {B:St} {d:Option Nat} {x:St} (l:oU P h F0 B c f d=some x):∃S,Holds F0 S/\∀F,Holds F S->oU P h F B c f d=some x:=by
 unfold oU at l;split at l
 .rename_i g z R id G w;split at l
  .rename_i e Q xs q;split at l
   .rename_i r O N K L I;refine⟨_,Holds.one I,λF D=> ?_⟩;simp only[oU,G,w,q,D.get];exact l
   .cases l
  .cases l
 .cases l
def Mj {c:Call} {f:Operand} {B:St} {d:Option Nat} {x:St} (l:jC P h F0 B c f d=some x):∃S,Holds F0 S/\∀F,Holds F S->jC P h F B c f d=some x:=by
 unfold jC at l;split at l
 .rename_i g z N I q;simp only[] at l;obtain⟨G,l⟩:=bV l;split at l
  .rename_i cF K;split at l
   .rename_i r w L;refine⟨_,Holds.one L,λF D=> ?_⟩;simp only[jC,I,q,G,ai,K,D.get];exact l
   .cases l
  .cases l
 .cases l
def XN {o:Oper} {w:St} (q:∀c,o.op≠ .call c) (F:dX):mD P h F o w=mD P h F0 o w:=by unfold mD;split<;>first|rfl|(rename_i l;exact absurd l (q _))|(rename_i l _;exact absurd l (q _))
def NJ {G z:St} {id:Nat} (B:G.dL id=some z) {x:Operand} (D:vZ G x=false) {ty:TypeId} {a:AV} (w:(bz P ty G x).bind (mh G)=some a):(bz P ty z x).bind (mh z)=some a:=by
 unfold St.dL at B;split at B
 .rename_i e sz xs hb N;injection B with B;subst B;cases x with
  |tmp i=>simp only[bz] at w⊢;cases I:G.env i with
   |none=>rw[I] at w;cases w
   |some s=>rw[I] at w;simp only[fK,cR] at w⊢;cases s with
    |pv v=>simpa[mh,SV.dL,SV.dG,SV.mentions] using w
    |row j=>simp only[mh] at w;simp only[SV.dL];cases U:Nat.beq j id with
     |true=>have:=beq_iff.1 U;subst this;rw[N] at w;simpa[mh] using w
     |false=>
      have L:id≠j:=λe=>by subst e;simp[beq_iff.2] at U
      simp only[aA,mh,bu _ _ L];obtain⟨ob,F,l⟩:=dM.1 w;rw[F];cases ob with
      |box t cells=>simp[Ob.val] at l
      |row K sz' S=>simpa[Ob.dL] using l
      |mp k' K O R=>simpa[Ob.dL] using l
      |mr k' K Q O R=>simpa[Ob.dL] using l
      |rn K Q k' e2 s2 S ys'=>simpa[Ob.dL] using l
      |it Q n'=>simp[Ob.val] at l
      |lp Q=>simp[Ob.val] at l
    |ag cs=>simp[vZ,I] at D
    |aq j q=>simp[vZ,I] at D
    |_=>cases w
  |const v=>simp only[bz] at w⊢;cases V:ofConst P ty v<;>simp[V,mh] at w⊢;exact w
  |func f=>simpa[bz,mh] using w
  |global g=>simp[bz] at w
 .cases B
def Md {B w:St} {id:Nat} (l:B.dL id=some w) {x:Operand} (h:vZ B x=false):vZ w x=false:=by
 unfold St.dL at l;split at l
 .injection l with l;subst l;cases x with
  |tmp i=>simp only[vZ] at h⊢;cases D:B.env i with
   |none=>rfl
   |some s=>rw[D] at h;simp only[cR];cases s with
    |ag F=>simp at h
    |aq j q=>simp at h
    |row j=>simp only[SV.dL];cases Nat.beq j id<;>rfl
    |_=>simp only[SV.dL,SV.dG];split<;>rename_i z<;>(first|rfl|(revert z;cases SV.mentions id _<;>intro z<;>cases z))
  |_=>rfl
 .cases l
def xe:∀{xs:List Operand} {B w:St},mD.gZ B xs=some w->∀{x:Operand},vZ B x=false->∀{ty:TypeId} {a:AV},(bz P ty B x).bind (mh B)=some a->(bz P ty w x).bind (mh w)=some a:=by intro xs;induction xs with
 |nil=>intro B w q x _ ty a z;simp only[mD.gZ,aN] at q;subst q;exact z
 |cons y xs D=>intro B w q x l ty a z;cases y with
  |tmp i=>
   simp only[mD.gZ] at q;split at q
   .rename_i id I;cases F:B.dL id with
    |none=>rw[F] at q;cases q
    |some G=>rw[F] at q;exact D q (Md F l) (NJ F l z)
   .exact D q l z
  |const v=>exact D q l z
  |func f=>exact D q l z
  |global g=>exact D q l z
def sq {l q:St} {xs:List Operand} (h:mD.jj l xs=some q):mD.gZ l xs=some q/\∀x∈xs,vZ l x=false:=by unfold mD.jj at h;cases w:xs.any (vZ l) with
 |true=>rw[w] at h;cases h
 |false=>
  rw[w] at h
  exact⟨h,λx B=>by cases z:vZ l x with
   |false=>rfl
   |true=>exact absurd z (by simpa using qL.1 w x B)⟩
def Co {F w:St} {N:List Operand} (G:mD.jj F N=some w):∀{xs:List Operand} {z:List TypeId} {B:List AV},(∀x∈xs,vZ F x=false)->jx P F xs z=some B->jx P w xs z=some B:=by intro xs;induction xs with
 |nil=>intro z B _ l;exact l
 |cons x xs L=>
  intro z B q l;simp only[jx] at l⊢;split at l
  .rename_i v O I D;rw[xe (sq G).1 (q x ah) I,L (λy K=>q y (by simp[K])) D];exact l
  .cases l
def KS {F w:St} {K:List Operand} (G:mD.jj F K=some w) {f:Operand} {g:Nat} {l:List AV} (B:bz P 0 F f=some (.pv (.fn g l))):bz P 0 w f=some (.pv (.fn g l)):=by
 have:=xe (P:=P) (sq G).1 (x:=f) (by cases f with
  |tmp i=>simp only[bz] at B;simp[vZ,B]
  |_=>rfl) (ty:=0) (a:= .fn g l) (by rw[B];rfl)
 cases D:bz P 0 w f with
 |none=>rw[D] at this;cases this
 |some s=>rw[D] at this;simp only[fK] at this;cases s with
  |pv v=>simp only[mh,aN] at this;rw[this]
  |row id=>simp only[mh] at this;obtain⟨I,_,z⟩:=dM.1 this;cases I<;>simp[Ob.val] at z
  |ag L=>simp only[mh,bZ] at this;obtain⟨_,_,h⟩:=this;cases h
  |aq j q=>cases q with
   |full=>cases this
   |nr i=>
    simp only[mh] at this;split at this
    .split at this
     .cases this
     .cases this
    .cases this
  |_=>cases this
def VG {o:Oper} {B w:St} (l:mD P h F0 o B=some w):∃S,Holds F0 S/\∀F,Holds F S->mD P h F o B=some w:=by cases Q:o.op with
 |call c=>cases K:c.callee with
  |value f=>
   have e1:∀F,mD P h F o B=(bif o.dst.any h.owns.contains then kL P h F B c f o.dst else bif o.dst.any h.stay.contains&&wide B c f then none else bif wide B c f then jC P h F B c f o.dst else bif c.args.toList.any (λx=>(ou h B x).isSome) then oU P h F B c f o.dst else
    match mD.jj B c.args.toList with
    |some w=>match bz P 0 w f,jx P w c.args.toList c.argTypes.toList with
     |some (.pv (.fn g G)),some U=>match F g ((U++G).map .pv) [] with
      |some (r,[])=>bif c.args.toList.any (kK w)|| !r.kF then none else some (w.set o.dst (.pv r))
      |_=>none
     |_,_=>none
    |none=>none):=λF=>by
    cases N:o.dst<;>simp only[mD,Q,K,N]<;>rfl
   rw[e1] at l;cases how:o.dst.any h.owns.contains with
   |true=>rw[how] at l;simp only[ai] at l;obtain⟨S,L,q⟩:=PX l;exact⟨S,L,λF I=>by rw[e1,how];simp only[ai,q F I]⟩
   |false=>
   rw[how] at l;simp only[aA] at l;cases D:(o.dst.any h.stay.contains&&wide B c f) with
   |true=>rw[D] at l;cases l
   |false=>
   rw[D] at l;simp only[aA] at l;cases O:wide B c f with
   |true=>rw[O] at l;simp only[ai] at l;obtain⟨S,L,q⟩:=Mj l;exact⟨S,L,λF I=>by rw[e1,how,D,O];simp only[ai,aA,q F I]⟩
   |false=>
   rw[O] at l;simp only[aA] at l;cases z:c.args.toList.any (λx=>(ou h B x).isSome) with
   |true=>rw[z] at l;simp only[ai] at l;obtain⟨S,L,q⟩:=PZ l;exact⟨S,L,λF I=>by rw[e1,how,D,O,z];simp only[ai,aA,q F I]⟩
   |false=>
    rw[z] at l;simp only[aA] at l;split at l
    .rename_i st1 hp;split at l
     .rename_i g G U V R;split at l
      .rename_i r hr;refine⟨_,Holds.one hr,λF I=> ?_⟩;rw[e1,how,D,O,z];simp only[aA,hp,V,R,I.get];exact l
      .cases l
     .cases l
    .cases l
  |builtin b=>exact⟨[],Holds.nil,λF _=>by cases N:o.dst<;>cases b<;>simp only[mD,Q,K,N] at l⊢<;>exact l⟩
  |invoke r m=>exact⟨[],Holds.nil,λF _=>by cases N:o.dst<;>simp only[mD,Q,K,N] at l⊢<;>exact l⟩
 |_=>exact⟨[],Holds.nil,λF _=>by rw[XN (F0:=F0) (λc K=>by rw[Q] at K;cases K) F];exact l⟩
def YI {o:Oper} {z q:St} (D:step0 P h F0 o z=some q):∃S,Holds F0 S/\∀F,Holds F S->step0 P h F o z=some q:=by
 unfold step0 at D;split at D
 .rename_i v V;obtain⟨S,U,l⟩:=Qx V;exact⟨S,U,λF K=>by simp only[step0,l F K];exact D⟩
 .rename_i V;have done:∀S,Holds F0 S->(∀F,Holds F S->ew P h F o z=none/\mD P h F o z=some q)->∃S,Holds F0 S/\∀F,Holds F S->step0 P h F o z=some q:=λS U l=>
   ⟨S,U,λF K=>by simp only[step0,(l F K).1];exact(l F K).2⟩
  have B:(∀F,ew P h F o z=ew P h F0 o z)->∃S,Holds F0 S/\∀F,Holds F S->step0 P h F o z=some q:=λhsame=>by obtain⟨S,U,l⟩:=VG D;exact done S U λF K=>⟨by rw[hsame F];exact V,l F K⟩
  cases L:o.op with
  |call c=>cases N:c.callee with
   |value f=>
    cases how:o.dst.any h.owns.contains with
    |true=>exact B λF=>by simp only[ew,L,N,how,ai]
    |false=>
    cases G:(o.dst.any h.stay.contains&&wide z c f) with
    |true=>cases hd:o.dst<;>(simp only[mD,L,N,hd] at D;rw[hd] at G how;rw[how,G] at D;cases D)
    |false=>
    cases w:(wide z c f||c.args.toList.any (λx=>(ou h z x).isSome)) with
    |true=>obtain⟨S,U,l⟩:=VG D;exact done S U λF K=>⟨by simp only[ew,L,N];rw[how,G,w];rfl,l F K⟩
    |false=>
     obtain⟨Yc,Q⟩:=mF.1 w
     have e1:∀F,mD P h F o z=(bif o.dst.any h.owns.contains then kL P h F z c f o.dst else bif o.dst.any h.stay.contains&&wide z c f then none else bif wide z c f then jC P h F z c f o.dst else bif c.args.toList.any (λx=>(ou h z x).isSome) then oU P h F z c f o.dst else
      match mD.jj z c.args.toList with
      |some q=>match bz P 0 q f,jx P q c.args.toList c.argTypes.toList with
       |some (.pv (.fn g I)),some vs=>match F g ((vs++I).map .pv) [] with
        |some (r,[])=>bif c.args.toList.any (kK q)|| !r.kF then none else some (q.set o.dst (.pv r))
        |_=>none
       |_,_=>none
      |none=>none):=λF=>by
      cases hd:o.dst<;>simp only[mD,L,N,hd]<;>rfl
     rw[e1,how,G,Yc,Q] at D;simp only[aA] at D;split at D
     .rename_i st1 hp;split at D
      .rename_i g I vs hfn hvs;split at D
       .rename_i r hr;refine done _ (Holds.one hr) λF K=>⟨?_,?_⟩
        .simp only[ew,L,N];rw[how,G,w];simp only[aA];split
         .rename_i g2 caps2 vs2 O R;have k1:=KS hp O;rw[hfn] at k1;simp only[aN,SV.pv.injEq,AV.fn.injEq] at k1;obtain⟨rfl,rfl⟩:=k1;have k2:=Co hp (sq hp).2 R;rw[hvs] at k2;injection k2 with k2;subst k2;simp only[ew,L,N] at V;rw[how,G,w] at V;simp only[aA,O,R,hr] at V;rw[K.get];exact V
         .rfl
        .rw[e1,how,G,Yc,Q];simp only[aA,hp,hfn,hvs,K.get];exact D
       .cases D
      .cases D
     .cases D
   |builtin b=>exact B λF=>by simp only[ew,L,N]
   |invoke r m=>exact B λF=>by simp only[ew,L,N]
  |makeFunc fn first I=>exact B λF=>by cases fn<;>simp only[ew,L]
  |_=>exact B λF=>by simp only[ew,L]
def Sb {o:Oper} {w l:St} (q:step P h F0 o w=some l):∃S,Holds F0 S/\∀F,Holds F S->step P h F o w=some l:=by unfold step at q;obtain⟨I,z,B⟩:=dM.1 q;obtain⟨S,G,k⟩:=YI B;exact⟨S,G,λF D=>by simp only[step,z,fK,k F D]⟩
def UY {z:Array Oper}:∀{l:List Oper} {B w:St},pV P h F0 z l B=some w->∃S,Holds F0 S/\∀F,Holds F S->pV P h F z l B=some w:=by intro l;induction l with
 |nil=>intro B w q;exact⟨[],Holds.nil,λF _=>q⟩
 |cons o l N=>
  intro B w q;simp only[pV] at q;split at q
  .rename_i b L;cases b with
   |true=>simp only[ai] at q;cases I:step P h F0 o B with
    |none=>rw[I] at q;cases q
    |some R=>rw[I] at q;obtain⟨S1,O,Q⟩:=Sb I;obtain⟨S2,G,K⟩:=N q;exact⟨S1++S2,O.append G,λF D=>by simp only[pV,L,ai,Q F D.left,fK];exact K F D.right⟩
   |false=>simp only[aA] at q;obtain⟨S2,G,K⟩:=N q;exact⟨S2,G,λF D=>by simp only[pV,L,aA];exact K F D⟩
  .cases q
def R1 {K:Array Oper}:∀{l:List Oper} {i:Nat} {w:List (Nat×gi)} {L z:St},jL P h F0 K i l w L=some z->∃S,Holds F0 S/\∀F,Holds F S->jL P h F K i l w L=some z:=by intro l;induction l with
 |nil=>intro i w L z q;exact⟨[],Holds.nil,λF _=>q⟩
 |cons o l R=>
  intro i w L z q;simp only[jL] at q;split at q
  .cases q
  .rename_i b Q;cases b with
   |true=>simp only[ai] at q;cases N:(isF h L o&&(DY h o).isEmpty) with
    |true=>
     simp only[N,ai] at q;split at q
     .rename_i v V;obtain⟨G,q⟩:=bV q;obtain⟨S1,O,U⟩:=Qx V;obtain⟨S2,D,I⟩:=R q;exact⟨S1++S2,O.append D,λF B=>by simp only[jL,Q,ai,N,U F B.left,G];exact I F B.right⟩
     .cases q
    |false=>
     simp only[N,aA] at q;split at q
     .rename_i st1 hs;obtain⟨G,q⟩:=bV q;obtain⟨S1,O,U⟩:=Sb hs;obtain⟨S2,D,I⟩:=R q;exact⟨S1++S2,O.append D,λF B=>by simp only[jL,Q,ai,N,aA,U F B.left,G];exact I F B.right⟩
     .cases q
   |false=>simp only[aA] at q;obtain⟨G,q⟩:=bV q;obtain⟨S2,D,I⟩:=R q;exact⟨S2,D,λF B=>by simp only[jL,Q,aA,G,ai];exact I F B⟩
def Dw {n:Nat}:∀(c:Code) {G:St} {x:Ex×St},exec P h F0 n c G=some x->∃S,Holds F0 S/\∀F m,Holds F S->n<=m->exec P h F m c G=some x:=by intro c;induction c with
 |skip=>intro G x w;exact⟨[],Holds.nil,λF m _ _=>w⟩
 |label l=>intro G x w;exact⟨[],Holds.nil,λF m _ _=>w⟩
 |exit id=>intro G x w;exact⟨[],Holds.nil,λF m _ _=>w⟩
 |ret=>intro G x w;exact⟨[],Holds.nil,λF m _ _=>w⟩
 |region id ops draw=>intro G x w;simp only[exec] at w;obtain⟨st1,R,w⟩:=dM.1 w;cases draw with
  |true=>simp only[ai] at w;obtain⟨hb,w⟩:=bV w;simp only[bZ] at w;obtain⟨s,hr,rfl⟩:=w;obtain⟨S,I,k⟩:=R1 hr;exact⟨S,I,λF m B _=>by simp only[exec,R,fK,ai,hb,k F B,cR]⟩
  |false=>simp only[aA,bZ] at w;obtain⟨s,hr,rfl⟩:=w;obtain⟨S,I,k⟩:=UY hr;exact⟨S,I,λF m B _=>by simp only[exec,R,fK,aA,k F B,cR]⟩
 |seq a b O Q=>
  intro G x w;simp only[exec] at w;cases L:find h.blk (dU a) with
  |some z=>simp only[L] at w;exact⟨[],Holds.nil,λF m _ _=>by simp only[exec,L];exact w⟩
  |none=>
  simp only[L] at w;split at w
  .rename_i st1 ha;obtain⟨S1,V,k1⟩:=O ha;obtain⟨S2,h2,k2⟩:=Q w;exact⟨S1++S2,V.append h2,λF m B D=>by simp only[exec,L,k1 F m B.left D];exact k2 F m B.right D⟩
  .rename_i N;obtain⟨S1,V,k1⟩:=O w;refine⟨S1,V,λF m B D=> ?_⟩;simp only[exec,L,k1 F m B D];obtain⟨e,s⟩:=x;cases e with
   |normal=>exact absurd w (N s)
   |exit j=>rfl
   |ret=>rfl
 |cond c a b O Q=>
  intro G x w;simp only[exec] at w;split at w
  .rename_i t hc;cases t with
   |true=>obtain⟨S,I,k⟩:=O w;exact⟨S,I,λF m B D=>by simp only[exec,hc,ai];exact k F m B D⟩
   |false=>obtain⟨S,I,k⟩:=Q w;exact⟨S,I,λF m B D=>by simp only[exec,hc,aA];exact k F m B D⟩
  .cases w
 |block id c ih=>
  intro G x w;simp only[exec] at w;split at w
  .rename_i j s hc;obtain⟨S,I,k⟩:=ih hc;exact⟨S,I,λF m B D=>by simp only[exec,k F m B D];exact w⟩
  .rename_i N;obtain⟨S,I,k⟩:=ih w;refine⟨S,I,λF m B D=> ?_⟩;simp only[exec,k F m B D];obtain⟨e,s⟩:=x;cases e with
   |normal=>rfl
   |exit j=>exact absurd w (N j s)
   |ret=>rfl
 |loop c ih=>
  intro G x w;simp only[exec] at w;have key:∀(q:Nat) {G:St} {x:Ex×St},iter h (dU c) (exec P h F0 n c) q G=some x->∃S,Holds F0 S/\∀F m U,Holds F S->n<=m->q<=U->iter h (dU c) (exec P h F m c) U G=some x:=by intro q;induction q with
   |zero=>intro G x w;simp[iter] at w
   |succ q ihq=>
    intro G x w;simp only[iter] at w;split at w
    .rename_i st1 hc;obtain⟨S1,V,k1⟩:=ih hc;obtain⟨S2,h2,k2⟩:=ihq w;refine⟨S1++S2,V.append h2,λF m U B D hq=> ?_⟩;obtain⟨K,rfl⟩:∃K,U=K+1:=⟨U-1,af⟩
     simp only[iter,k1 F m B.left D];exact k2 F m K B.right D af
    .rename_i N;obtain⟨S1,V,k1⟩:=ih w;refine⟨S1,V,λF m U B D hq=> ?_⟩;obtain⟨K,rfl⟩:∃K,U=K+1:=⟨U-1,af⟩
     simp only[iter,k1 F m B D];obtain⟨e,s⟩:=x;cases e with
     |normal=>exact absurd w (N s)
     |exit j=>rfl
     |ret=>rfl
  obtain⟨S,I,k⟩:=key n w;exact⟨S,I,λF m B D=>by simp only[exec];exact k F m m B D D⟩
 |scope c ih=>intro G x w;simp only[exec] at w;obtain⟨S,I,k⟩:=ih w;exact⟨S,I,λF m B D=>by simp only[exec];exact k F m B D⟩
 |rangeFunc f ps a b O Q=>intro G x w;simp[exec] at w
 |goto l=>intro G x w;simp[exec] at w
 |refuse s=>intro G x w;simp[exec] at w
def oW {n m:Nat} (w:n<=m) {c:Code} {l:St} {x:Ex×St} (z:exec P h F0 n c l=some x):exec P h F0 m c l=some x:=by obtain⟨S,q,k⟩:=Dw c z;exact k F0 m q w
end
section
variable {P:Program} {H:Nat->Hint} {eX:dX}
def Tc:∀(n:Nat) {f:Nat} {args:List SV} {cF:List (Nat×Ob)} {r:AV×List (Nat×Ob)},nT P H eX n f args cF=some r->nT P H eX (n+1) f args cF=some r:=by intro n;induction n with
 |zero=>intro f args cF r l;simp[nT] at l
 |succ n K=>
  intro f args cF r l;rw[nT] at l⊢;dsimp only at l⊢;split at l
  .rename_i x w;(try simp only[w]);exact l
  .rename_i w
   (try simp only[w])
   split at l
   .rename_i fn F
    (try simp only[F])
    split at l
    .rename_i c B
     (try simp only[B])
     obtain⟨D,l⟩:=bV l;rw[D];simp only[ai];split at l
     .rename_i e L I;obtain⟨S,z,k⟩:=Dw c I;have q:Holds (nT P H eX (n+1)) S:=λs G=>K (z s G)
      rw[k _ (n+1) q af];exact l
     .cases l
    .cases l
   .cases l
def uN {n m:Nat} (l:n<=m) {f:Nat} {args:List SV} {cF:List (Nat×Ob)} {r:AV×List (Nat×Ob)} (q:nT P H eX n f args cF=some r):nT P H eX m f args cF=some r:=by induction l with
 |refl=>exact q
 |step _ w=>exact Tc _ w
noncomputable def run (P:Program) (H:Nat->Hint) (eX:dX):dX:=λf args cF=>
 open Classical in if h : ∃ r n, nT P H eX n f args cF = some r then some h.choose else none
def qg {f:Nat} {args:List SV} {cF:List (Nat×Ob)} {r:AV×List (Nat×Ob)}:run P H eX f args cF=some r↔∃n,nT P H eX n f args cF=some r:=by
 constructor
 .intro q;unfold run at q;split at q
  .rename_i l;injection q with q;rw[<-q];exact l.choose_spec
  .cases q
 .rintro⟨n,z⟩;unfold run;have l:∃r n,nT P H eX n f args cF=some r:=⟨r,n,z⟩
  rw[jY l];obtain⟨m,D⟩:=l.choose_spec;have B:=uN (qQ n m) z;have w:=uN (qR n m) D;rw[B] at w;exact w.symm
def X8 {S:Py} (q:Holds (run P H eX) S):∃n,Holds (nT P H eX n) S:=by induction S with
 |nil=>exact⟨0,Holds.nil⟩
 |cons s S B=>
  obtain⟨n,z⟩:=B λt l=>q t (eo _ l)
  obtain⟨m,w⟩:=qg.1 (q s (qS ..));refine⟨max n m,λt l=> ?_⟩;cases aG.1 l with
  |inl e=>subst e;exact uN (qR ..) w
  |inr e=>exact uN (qQ ..) (z t e)
def Gh {f:Nat} {fn:Func} {c:Code} {args:List SV} {cF:List (Nat×Ob)} {r:AV×List (Nat×Ob)} {n:Nat} {e:Ex} {q:St} (I:eX f args cF=none)
  (F:P.funcs[f]? =some fn) (z:fn.body=some c) (B:(Nat.ble args.length fn.ntmps&&(cF.map (·.1)).all (λi=> !(w8 i)))=true)
  (L:exec P (H f) (run P H eX) n c { env:=find (yf 0 args),ob:=find cF }=some (e,q)) (D:Z4 P (H f).own fn cF e q=some r):run P H eX f args cF=some r:=by
 obtain⟨S,w,k⟩:=Dw c L;obtain⟨m,G⟩:=X8 w;have l:Holds (nT P H eX (max n m)) S:=λs K=>uN (qR ..) (G s K)
 refine qg.2 ⟨max n m+1,?_⟩;simp only[nT,I,F,z,B,ai,k _ (max n m) l (qQ ..)];exact D
def mL {f:Nat} {args:List SV} {cF:List (Nat×Ob)} {r:AV×List (Nat×Ob)} (l:eX f args cF=some r):run P H eX f args cF=some r:=
 qg.2 ⟨1,by simp only[nT,l]⟩
def FH {q:Qp} {B:Mu} (D:Cm P=true) (G:∀f fn c,P.funcs[f]? =some fn->fn.body=some c->mE q B P (H f) fn.ntmps c) (F:fQ q B P eX):∀n,fQ q B P (nT P H eX n):=by intro n;induction n with
 |zero=>intro g args cF r z l;simp[nT] at l
 |succ n ih=>
  intro g args cF r z l;simp only[nT] at l;split at l
  .rename_i x V;injection l with l;subst l;exact F g args cF r z V
  .split at l
   .rename_i fn K;split at l
    .rename_i c S;obtain⟨U,l⟩:=bV l;split at l
     .rename_i e st hx;refine λw μ I us L N O Q R=> .inl ⟨?_,S8 D (G g) ih K S U hx l w μ I us L N O Q R⟩
      simp only[Cm,aJ] at D;have:=dw D.2;have:=(eE.1 K).1;omega
     .cases l
    .cases l
   .cases l
def Fb {q:Qp} {B:Mu} (D:Cm P=true) (z:∀f fn c,P.funcs[f]? =some fn->fn.body=some c->mE q B P (H f) fn.ntmps c) (l:fQ q B P eX):fQ q B P (run P H eX):=by intro g args cF r w G;obtain⟨n,F⟩:=qg.1 G;exact FH D z l n g args cF r w F
end
