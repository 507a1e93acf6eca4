/- THE ABSTRACT MACHINE. -/
import Derived.Test.YtbnlhmaaccgbjaaGreatDoorAmCall
set_option linter.all false
namespace Go.AM
open Go.RowKit
def bW {R:Type} {b:Bool} {x:Option R} {r:R} (l:(bif b then x else none)=some r):b=true/\x=some r:=by cases b with
 |true=>exact⟨rfl,l⟩
 |false=>cases l
abbrev Rh:=List (Nat×List SV×List (Nat×Ob)×(AV×List (Nat×Ob)))
def Holds (F:eN) (S:Rh):Prop:=∀s∈S,F s.1 s.2.1 s.2.2.1=some s.2.2.2
def Holds.nil {F:eN}:Holds F []:=λ_ h=>by cases h
def Holds.append {F:eN} {S T:Rh} (h:Holds F S) (k:Holds F T):Holds F (S++T):=λs l=>(bu.1 l).elim (h s) (k s)
def Holds.left {F:eN} {S T:Rh} (h:Holds F (S++T)):Holds F S:=λs l=>h s (bu.2 (.inl l))
def Holds.right {F:eN} {S T:Rh} (h:Holds F (S++T)):Holds F T:=λs l=>h s (bu.2 (.inr l))
def Holds.one {F:eN} {g:Nat} {args:List SV} {cL:List (Nat×Ob)} {r:AV×List (Nat×Ob)} (h:F g args cL=some r):Holds F [(g,args,cL,r)]:=λs l=>by simp only[cv] at l;subst l;exact h
def Holds.get {F:eN} {g:Nat} {args:List SV} {cL:List (Nat×Ob)} {r:AV×List (Nat×Ob)} (h:Holds F [(g,args,cL,r)]):F g args cL=some r:=h _ (cv.2 rfl)
section
variable {P:Program} {h:Hint} {F0:eN}
def UP {c:Call} {f:Operand} {w:St} {r:AV} (l:sS P h F0 w c f=some r):∃S,Holds F0 S/\∀F,Holds F S->sS P h F w c f=some r:=by
 unfold sS at l;split at l
 .rename_i g args B;obtain⟨D,l⟩:=bW l;split at l
  .rename_i cL G;split at l
   .rename_i K q I;refine⟨_,Holds.one I,λF z=> ?_⟩;simp only[sS,B,D,ak,G,z.get];exact l
   .cases l
  .cases l
 .cases l
def Si {o:Oper} {G:St} {v:SV} (l:dQ P h F0 o G=some v):∃S,Holds F0 S/\∀F,Holds F S->dQ P h F o G=some v:=by cases z:o.op with
 |call c=>cases D:c.callee with
  |value f=>
   simp only[dQ,z,D] at l;cases how:o.dst.any h.owns.contains with
   |true=>rw[how] at l;cases l
   |false=>
   rw[how] at l;simp only[az] at l;cases w:(o.dst.any h.stay.contains&&wide G c f) with
   |true=>rw[w] at l;simp only[ak,cB] at l;obtain⟨r,K,rfl⟩:=l;obtain⟨S,N,Q⟩:=UP K;refine⟨S,N,λF I=> ?_⟩;simp only[dQ,z,D];rw[how,w,Q F I];rfl
   |false=>
   rw[w] at l;simp only[az] at l;cases q:(wide G c f||c.args.toList.any (λx=>(pH h G x).isSome)) with
   |true=>rw[q] at l;cases l
   |false=>
    rw[q] at l;simp only[az] at l;split at l
    .rename_i g B R O L;split at l
     .rename_i r K;refine⟨_,Holds.one K,λF I=> ?_⟩;simp only[dQ,z,D,O,L,I.get];rw[how,w,q];exact l
     .cases l
    .cases l
  |builtin b=>exact⟨[],Holds.nil,λF _=>by simp only[dQ,z,D] at l⊢;exact l⟩
  |invoke r m=>exact⟨[],Holds.nil,λF _=>by simp only[dQ,z,D] at l⊢;exact l⟩
 |makeFunc fn first B=>exact⟨[],Holds.nil,λF _=>by cases fn<;>simp only[dQ,z] at l⊢<;>exact l⟩
 |_=>exact⟨[],Holds.nil,λF _=>by simp only[dQ,z] at l⊢;exact l⟩
def Of {z:St} {g:Nat} {args:List SV} {w:Nat->Nat} {d:Option Nat} {x:St} (l:jZ F0 z g args w d=some x):∃S,Holds F0 S/\∀F,Holds F S->jZ F z g args w d=some x:=by
 unfold jZ at l;simp only[] at l;obtain⟨D,l⟩:=bW l;split at l
 .rename_i cL G;split at l
  .rename_i r q I;refine⟨_,Holds.one I,λF B=> ?_⟩;simp only[jZ,D,ak,G,B.get];exact l
  .cases l
 .cases l
def Zc {c:Call} {f:Operand} {B:St} {d:Nat} {z:List Nat} {x:St} (l:CY P h F0 B c f d z=some x):∃S,Holds F0 S/\∀F,Holds F S->CY P h F B c f d z=some x:=by
 unfold CY at l;simp only[] at l;split at l
 .rename_i g pre w N K q;obtain⟨I,l⟩:=bW l;obtain⟨S,G,L⟩:=Of l;refine⟨S,G,λF D=> ?_⟩;simp only[CY,K,q,I,ak];exact L F D
 .cases l
def RK {c:Call} {f:Operand} {I:St} {d:Option Nat} {x:St} (l:iO P h F0 I c f d=some x):∃S,Holds F0 S/\∀F,Holds F S->iO P h F I c f d=some x:=by
 unfold iO at l;split at l
 .rename_i d;split at l
  .rename_i O q;obtain⟨S,K,L⟩:=Zc l;exact⟨S,K,λF w=>by simp only[iO,q];exact L F w⟩
  rename_i q;split at l
  .rename_i g D R G z;split at l
   .rename_i e Q xs B;refine⟨_,Holds.one B,λF w=> ?_⟩;simp only[iO,q,G,z,w.get];exact l
   .rename_i N B;refine⟨_,Holds.one B,λF w=> ?_⟩;simp only[iO,q,G,z,w.get];exact l
   .cases l
  .cases l
 .cases l
def RN {c:Call} {f:Operand} {B:St} {d:Option Nat} {x:St} (l:qf P h F0 B c f d=some x):∃S,Holds F0 S/\∀F,Holds F S->qf P h F B c f d=some x:=by
 unfold qf at l;split at l
 .rename_i g z R id G w;split at l
  .rename_i e Q xs q;split at l
   .rename_i r O N K L I;refine⟨_,Holds.one I,λF D=> ?_⟩;simp only[qf,G,w,q,D.get];exact l
   .cases l
  .cases l
 .cases l
def Og {c:Call} {f:Operand} {B:St} {d:Option Nat} {x:St} (l:j0 P h F0 B c f d=some x):∃S,Holds F0 S/\∀F,Holds F S->j0 P h F B c f d=some x:=by
 unfold j0 at l;split at l
 .rename_i g z N I q;simp only[] at l;obtain⟨G,l⟩:=bW l;split at l
  .rename_i cL K;split at l
   .rename_i r w L;refine⟨_,Holds.one L,λF D=> ?_⟩;simp only[j0,I,q,G,ak,K,D.get];exact l
   .cases l
  .cases l
 .cases l
def Zl {o:Oper} {w:St} (q:∀c,o.op≠ .call c) (F:eN):mI P h F o w=mI P h F0 o w:=by unfold mI;split<;>first|rfl|(rename_i l;exact absurd l (q _))|(rename_i l _;exact absurd l (q _))
def PD {G z:St} {id:Nat} (B:G.cV id=some z) {x:Operand} (D:xF G x=false) {ty:TypeId} {a:AV} (w:(bD P ty G x).bind (mJ G)=some a):(bD P ty z x).bind (mJ z)=some a:=by
 unfold St.cV at B;split at B
 .rename_i e sz xs hb N;injection B with B;subst B;cases x with
  |tmp i=>simp only[bD] at w⊢;cases I:G.env i with
   |none=>rw[I] at w;cases w
   |some s=>rw[I] at w;simp only[gZ,dX] at w⊢;cases s with
    |pv v=>simpa[mJ,SV.cV,SV.dw,SV.mentions] using w
    |row j=>simp only[mJ] at w;simp only[SV.cV];cases U:Nat.beq j id with
     |true=>have:=beq_iff.1 U;subst this;rw[N] at w;simpa[mJ] using w
     |false=>
      have L:id≠j:=λe=>by subst e;simp[beq_iff.2] at U
      simp only[az,mJ,bR _ _ L];obtain⟨ob,F,l⟩:=dm.1 w;rw[F];cases ob with
      |box t cells=>simp[Ob.val] at l
      |row K sz' S=>simpa[Ob.cV] using l
      |mp k' K O R=>simpa[Ob.cV] using l
      |mr k' K Q O R=>simpa[Ob.cV] using l
      |rn K Q k' e2 s2 S ys'=>simpa[Ob.cV] using l
      |it Q n'=>simp[Ob.val] at l
      |lp Q=>simp[Ob.val] at l
    |ag cs=>simp[xF,I] at D
    |aq j q=>simp[xF,I] at D
    |_=>cases w
  |const v=>simp only[bD] at w⊢;cases V:ofConst P ty v<;>simp[V,mJ] at w⊢;exact w
  |func f=>simpa[bD,mJ] using w
  |global g=>simp[bD] at w
 .cases B
def N8 {B w:St} {id:Nat} (l:B.cV id=some w) {x:Operand} (h:xF B x=false):xF w x=false:=by
 unfold St.cV at l;split at l
 .injection l with l;subst l;cases x with
  |tmp i=>simp only[xF] at h⊢;cases D:B.env i with
   |none=>rfl
   |some s=>rw[D] at h;simp only[dX];cases s with
    |ag F=>simp at h
    |aq j q=>simp at h
    |row j=>simp only[SV.cV];cases Nat.beq j id<;>rfl
    |_=>simp only[SV.cV,SV.dw];split<;>rename_i z<;>(first|rfl|(revert z;cases SV.mentions id _<;>intro z<;>cases z))
  |_=>rfl
 .cases l
def yA:∀{xs:List Operand} {B w:St},mI.iA B xs=some w->∀{x:Operand},xF B x=false->∀{ty:TypeId} {a:AV},(bD P ty B x).bind (mJ B)=some a->(bD P ty w x).bind (mJ w)=some a:=by intro xs;induction xs with
 |nil=>intro B w q x _ ty a z;simp only[mI.iA,aW] at q;subst q;exact z
 |cons y xs D=>intro B w q x l ty a z;cases y with
  |tmp i=>
   simp only[mI.iA] at q;split at q
   .rename_i id I;cases F:B.cV id with
    |none=>rw[F] at q;cases q
    |some G=>rw[F] at q;exact D q (N8 F l) (PD F l z)
   .exact D q l z
  |const v=>exact D q l z
  |func f=>exact D q l z
  |global g=>exact D q l z
def s5 {l q:St} {xs:List Operand} (h:mI.jN l xs=some q):mI.iA l xs=some q/\∀x∈xs,xF l x=false:=by unfold mI.jN at h;cases w:xs.any (xF l) with
 |true=>rw[w] at h;cases h
 |false=>
  rw[w] at h
  exact⟨h,λx B=>by cases z:xF l x with
   |false=>rfl
   |true=>exact absurd z (by simpa using uG.1 w x B)⟩
def DW {F w:St} {N:List Operand} (G:mI.jN F N=some w):∀{xs:List Operand} {z:List TypeId} {B:List AV},(∀x∈xs,xF F x=false)->jS P F xs z=some B->jS P w xs z=some B:=by intro xs;induction xs with
 |nil=>intro z B _ l;exact l
 |cons x xs L=>
  intro z B q l;simp only[jS] at l⊢;split at l
  .rename_i v O I D;rw[yA (s5 G).1 (q x ai) I,L (λy K=>q y (by simp[K])) D];exact l
  .cases l
def MA {F w:St} {K:List Operand} (G:mI.jN F K=some w) {f:Operand} {g:Nat} {l:List AV} (B:bD P 0 F f=some (.pv (.fn g l))):bD P 0 w f=some (.pv (.fn g l)):=by
 have:=yA (P:=P) (s5 G).1 (x:=f) (by cases f with
  |tmp i=>simp only[bD] at B;simp[xF,B]
  |_=>rfl) (ty:=0) (a:= .fn g l) (by rw[B];rfl)
 cases D:bD P 0 w f with
 |none=>rw[D] at this;cases this
 |some s=>rw[D] at this;simp only[gZ] at this;cases s with
  |pv v=>simp only[mJ,aW] at this;rw[this]
  |row id=>simp only[mJ] at this;obtain⟨I,_,z⟩:=dm.1 this;cases I<;>simp[Ob.val] at z
  |ag L=>simp only[mJ,cB] at this;obtain⟨_,_,h⟩:=this;cases h
  |aq j q=>cases q with
   |full=>cases this
   |bs n=>cases this
   |nr i=>
    simp only[mJ] at this;split at this
    .split at this
     .cases this
     .cases this
    .cases this
  |_=>cases this
def Xd {o:Oper} {B w:St} (l:mI P h F0 o B=some w):∃S,Holds F0 S/\∀F,Holds F S->mI P h F o B=some w:=by cases Q:o.op with
 |call c=>cases K:c.callee with
  |value f=>
   have e1:∀F,mI P h F o B=(bif o.dst.any h.owns.contains then iO P h F B c f o.dst else bif o.dst.any h.stay.contains&&wide B c f then none else bif wide B c f then j0 P h F B c f o.dst else bif c.args.toList.any (λx=>(pH h B x).isSome) then qf P h F B c f o.dst else
    match mI.jN B c.args.toList with
    |some w=>match bD P 0 w f,jS P w c.args.toList c.argTypes.toList with
     |some (.pv (.fn g G)),some U=>match F g ((U++G).map .pv) [] with
      |some (r,[])=>bif c.args.toList.any (lF w)|| !r.jM then none else some (w.set o.dst (.pv r))
      |_=>none
     |_,_=>none
    |none=>none):=λF=>by
    cases N:o.dst<;>simp only[mI,Q,K,N]<;>rfl
   rw[e1] at l;cases how:o.dst.any h.owns.contains with
   |true=>rw[how] at l;simp only[ak] at l;obtain⟨S,L,q⟩:=RK l;exact⟨S,L,λF I=>by rw[e1,how];simp only[ak,q F I]⟩
   |false=>
   rw[how] at l;simp only[az] at l;cases D:(o.dst.any h.stay.contains&&wide B c f) with
   |true=>rw[D] at l;cases l
   |false=>
   rw[D] at l;simp only[az] at l;cases O:wide B c f with
   |true=>rw[O] at l;simp only[ak] at l;obtain⟨S,L,q⟩:=Og l;exact⟨S,L,λF I=>by rw[e1,how,D,O];simp only[ak,az,q F I]⟩
   |false=>
   rw[O] at l;simp only[az] at l;cases z:c.args.toList.any (λx=>(pH h B x).isSome) with
   |true=>rw[z] at l;simp only[ak] at l;obtain⟨S,L,q⟩:=RN l;exact⟨S,L,λF I=>by rw[e1,how,D,O,z];simp only[ak,az,q F I]⟩
   |false=>
    rw[z] at l;simp only[az] at l;split at l
    .rename_i st1 hp;split at l
     .rename_i g G U V R;split at l
      .rename_i r hr;refine⟨_,Holds.one hr,λF I=> ?_⟩;rw[e1,how,D,O,z];simp only[az,hp,V,R,I.get];exact l
      .cases l
     .cases l
    .cases l
  |builtin b=>exact⟨[],Holds.nil,λF _=>by cases N:o.dst<;>cases b<;>simp only[mI,Q,K,N] at l⊢<;>exact l⟩
  |invoke r m=>exact⟨[],Holds.nil,λF _=>by cases N:o.dst<;>simp only[mI,Q,K,N] at l⊢<;>exact l⟩
 |_=>exact⟨[],Holds.nil,λF _=>by rw[Zl (F0:=F0) (λc K=>by rw[Q] at K;cases K) F];exact l⟩
def Z8 {o:Oper} {z q:St} (D:step0 P h F0 o z=some q):∃S,Holds F0 S/\∀F,Holds F S->step0 P h F o z=some q:=by
 unfold step0 at D;split at D
 .rename_i v V;obtain⟨S,U,l⟩:=Si V;exact⟨S,U,λF K=>by simp only[step0,l F K];exact D⟩
 .rename_i V;have done:∀S,Holds F0 S->(∀F,Holds F S->dQ P h F o z=none/\mI P h F o z=some q)->∃S,Holds F0 S/\∀F,Holds F S->step0 P h F o z=some q:=λS U l=>
   ⟨S,U,λF K=>by simp only[step0,(l F K).1];exact(l F K).2⟩
  have B:(∀F,dQ P h F o z=dQ P h F0 o z)->∃S,Holds F0 S/\∀F,Holds F S->step0 P h F o z=some q:=λhsame=>by obtain⟨S,U,l⟩:=Xd D;exact done S U λF K=>⟨by rw[hsame F];exact V,l F K⟩
  cases L:o.op with
  |call c=>cases N:c.callee with
   |value f=>
    cases how:o.dst.any h.owns.contains with
    |true=>exact B λF=>by simp only[dQ,L,N,how,ak]
    |false=>
    cases G:(o.dst.any h.stay.contains&&wide z c f) with
    |true=>cases hd:o.dst<;>(simp only[mI,L,N,hd] at D;rw[hd] at G how;rw[how,G] at D;cases D)
    |false=>
    cases w:(wide z c f||c.args.toList.any (λx=>(pH h z x).isSome)) with
    |true=>obtain⟨S,U,l⟩:=Xd D;exact done S U λF K=>⟨by simp only[dQ,L,N];rw[how,G,w];rfl,l F K⟩
    |false=>
     obtain⟨ZG,Q⟩:=jX.1 w
     have e1:∀F,mI P h F o z=(bif o.dst.any h.owns.contains then iO P h F z c f o.dst else bif o.dst.any h.stay.contains&&wide z c f then none else bif wide z c f then j0 P h F z c f o.dst else bif c.args.toList.any (λx=>(pH h z x).isSome) then qf P h F z c f o.dst else
      match mI.jN z c.args.toList with
      |some q=>match bD P 0 q f,jS P q c.args.toList c.argTypes.toList with
       |some (.pv (.fn g I)),some vs=>match F g ((vs++I).map .pv) [] with
        |some (r,[])=>bif c.args.toList.any (lF q)|| !r.jM then none else some (q.set o.dst (.pv r))
        |_=>none
       |_,_=>none
      |none=>none):=λF=>by
      cases hd:o.dst<;>simp only[mI,L,N,hd]<;>rfl
     rw[e1,how,G,ZG,Q] at D;simp only[az] at D;split at D
     .rename_i st1 hp;split at D
      .rename_i g I vs hfn hvs;split at D
       .rename_i r hr;refine done _ (Holds.one hr) λF K=>⟨?_,?_⟩
        .simp only[dQ,L,N];rw[how,G,w];simp only[az];split
         .rename_i g2 caps2 vs2 O R;have k1:=MA hp O;rw[hfn] at k1;simp only[aW,SV.pv.injEq,AV.fn.injEq] at k1;obtain⟨rfl,rfl⟩:=k1;have k2:=DW hp (s5 hp).2 R;rw[hvs] at k2;injection k2 with k2;subst k2;simp only[dQ,L,N] at V;rw[how,G,w] at V;simp only[az,O,R,hr] at V;rw[K.get];exact V
         .rfl
        .rw[e1,how,G,ZG,Q];simp only[az,hp,hfn,hvs,K.get];exact D
       .cases D
      .cases D
     .cases D
   |builtin b=>exact B λF=>by simp only[dQ,L,N]
   |invoke r m=>exact B λF=>by simp only[dQ,L,N]
  |makeFunc fn first I=>exact B λF=>by cases fn<;>simp only[dQ,L]
  |_=>exact B λF=>by simp only[dQ,L]
def TY {o:Oper} {w l:St} (q:step P h F0 o w=some l):∃S,Holds F0 S/\∀F,Holds F S->step P h F o w=some l:=by unfold step at q;obtain⟨I,z,B⟩:=dm.1 q;obtain⟨S,G,k⟩:=Z8 B;exact⟨S,G,λF D=>by simp only[step,z,gZ,k F D]⟩
def Wx {z:Array Oper}:∀{l:List Oper} {B w:St},qU P h F0 z l B=some w->∃S,Holds F0 S/\∀F,Holds F S->qU P h F z l B=some w:=by intro l;induction l with
 |nil=>intro B w q;exact⟨[],Holds.nil,λF _=>q⟩
 |cons o l O=>
  intro B w q;simp only[qU] at q;split at q
  .rename_i b N;cases b with
   |true=>simp only[ak] at q;cases K:step P h F0 o B with
    |none=>rw[K] at q;cases q
    |some V=>rw[K] at q;obtain⟨Q,R,U⟩:=TY K;obtain⟨G,I,L⟩:=O q;exact⟨Q++G,R.append I,λF D=>by simp only[qU,N,ak,U F D.left,gZ];exact L F D.right⟩
   |false=>simp only[az] at q;obtain⟨G,I,L⟩:=O q;exact⟨G,I,λF D=>by simp only[qU,N,az];exact L F D⟩
  .cases q
def TT {L:Array Oper}:∀{l:List Oper} {i:Nat} {w:List (Nat×gA)} {N z:St},ku P h F0 L i l w N=some z->∃S,Holds F0 S/\∀F,Holds F S->ku P h F L i l w N=some z:=by intro l;induction l with
 |nil=>intro i w N z q;exact⟨[],Holds.nil,λF _=>q⟩
 |cons o l V=>
  intro i w N z q;simp only[ku] at q;split at q
  .cases q
  .rename_i b U;cases b with
   |true=>simp only[ak] at q;cases O:(isF h N o&&(Fl h o).isEmpty) with
    |true=>
     simp only[O,ak] at q;split at q
     .rename_i v hf;obtain⟨I,q⟩:=bW q;obtain⟨Q,R,k1⟩:=Si hf;obtain⟨D,G,K⟩:=V q;exact⟨Q++D,R.append G,λF B=>by simp only[ku,U,ak,O,k1 F B.left,I];exact K F B.right⟩
     .cases q
    |false=>
     simp only[O,az] at q;split at q
     .rename_i st1 hs;obtain⟨I,q⟩:=bW q;obtain⟨Q,R,k1⟩:=TY hs;obtain⟨D,G,K⟩:=V q;exact⟨Q++D,R.append G,λF B=>by simp only[ku,U,ak,O,az,k1 F B.left,I];exact K F B.right⟩
     .cases q
   |false=>simp only[az] at q;obtain⟨I,q⟩:=bW q;obtain⟨D,G,K⟩:=V q;exact⟨D,G,λF B=>by simp only[ku,U,az,I,ak];exact K F B⟩
def EL {n:Nat}:∀(c:Code) {G:St} {x:Ex×St},exec P h F0 n c G=some x->∃S,Holds F0 S/\∀F m,Holds F S->n<=m->exec P h F m c G=some x:=by intro c;induction c with
 |skip=>intro G x w;exact⟨[],Holds.nil,λF m _ _=>w⟩
 |label l=>intro G x w;exact⟨[],Holds.nil,λF m _ _=>w⟩
 |exit id=>intro G x w;exact⟨[],Holds.nil,λF m _ _=>w⟩
 |ret=>intro G x w;exact⟨[],Holds.nil,λF m _ _=>w⟩
 |region id ops draw=>intro G x w;simp only[exec] at w;obtain⟨st1,R,w⟩:=dm.1 w;cases draw with
  |true=>simp only[ak] at w;obtain⟨hb,w⟩:=bW w;simp only[cB] at w;obtain⟨s,hr,rfl⟩:=w;obtain⟨S,I,k⟩:=TT hr;exact⟨S,I,λF m B _=>by simp only[exec,R,gZ,ak,hb,k F B,dX]⟩
  |false=>simp only[az,cB] at w;obtain⟨s,hr,rfl⟩:=w;obtain⟨S,I,k⟩:=Wx hr;exact⟨S,I,λF m B _=>by simp only[exec,R,gZ,az,k F B,dX]⟩
 |seq a b O Q=>
  intro G x w;simp only[exec] at w;cases L:find h.blk (fq a) with
  |some z=>simp only[L] at w;exact⟨[],Holds.nil,λF m _ _=>by simp only[exec,L];exact w⟩
  |none=>
  simp only[L] at w;split at w
  .rename_i st1 ha;obtain⟨V,h1,k1⟩:=O ha;obtain⟨S2,h2,k2⟩:=Q w;exact⟨V++S2,h1.append h2,λF m B D=>by simp only[exec,L,k1 F m B.left D];exact k2 F m B.right D⟩
  .rename_i N;obtain⟨V,h1,k1⟩:=O w;refine⟨V,h1,λF m B D=> ?_⟩;simp only[exec,L,k1 F m B D];obtain⟨e,s⟩:=x;cases e with
   |normal=>exact absurd w (N s)
   |exit j=>rfl
   |ret=>rfl
 |cond c a b O Q=>
  intro G x w;simp only[exec] at w;split at w
  .rename_i t hc;cases t with
   |true=>obtain⟨S,I,k⟩:=O w;exact⟨S,I,λF m B D=>by simp only[exec,hc,ak];exact k F m B D⟩
   |false=>obtain⟨S,I,k⟩:=Q w;exact⟨S,I,λF m B D=>by simp only[exec,hc,az];exact k F m B D⟩
  .cases w
 |block id c ih=>
  intro G x w;simp only[exec] at w;split at w
  .rename_i j s hc;obtain⟨S,I,k⟩:=ih hc;exact⟨S,I,λF m B D=>by simp only[exec,k F m B D];exact w⟩
  .rename_i N;obtain⟨S,I,k⟩:=ih w;refine⟨S,I,λF m B D=> ?_⟩;simp only[exec,k F m B D];obtain⟨e,s⟩:=x;cases e with
   |normal=>rfl
   |exit j=>exact absurd w (N j s)
   |ret=>rfl
 |loop c ih=>
  intro G x w;simp only[exec] at w;have key:∀(q:Nat) {G:St} {x:Ex×St},iter h (fq c) (exec P h F0 n c) q G=some x->∃S,Holds F0 S/\∀F m U,Holds F S->n<=m->q<=U->iter h (fq c) (exec P h F m c) U G=some x:=by intro q;induction q with
   |zero=>intro G x w;simp[iter] at w
   |succ q ihq=>
    intro G x w;simp only[iter] at w;split at w
    .rename_i st1 hc;obtain⟨V,h1,k1⟩:=ih hc;obtain⟨S2,h2,k2⟩:=ihq w;refine⟨V++S2,h1.append h2,λF m U B D hq=> ?_⟩;obtain⟨K,rfl⟩:∃K,U=K+1:=⟨U-1,af⟩
     simp only[iter,k1 F m B.left D];exact k2 F m K B.right D af
    .rename_i N;obtain⟨V,h1,k1⟩:=ih w;refine⟨V,h1,λF m U B D hq=> ?_⟩;obtain⟨K,rfl⟩:∃K,U=K+1:=⟨U-1,af⟩
     simp only[iter,k1 F m B D];obtain⟨e,s⟩:=x;cases e with
     |normal=>exact absurd w (N s)
     |exit j=>rfl
     |ret=>rfl
  obtain⟨S,I,k⟩:=key n w;exact⟨S,I,λF m B D=>by simp only[exec];exact k F m m B D D⟩
 |scope c ih=>intro G x w;simp only[exec] at w;obtain⟨S,I,k⟩:=ih w;exact⟨S,I,λF m B D=>by simp only[exec];exact k F m B D⟩
 |rangeFunc f ps a b O Q=>intro G x w;simp[exec] at w
 |goto l=>intro G x w;simp[exec] at w
 |refuse s=>intro G x w;simp[exec] at w
theorem sX {n m:Nat} (w:n<=m) {c:Code} {l:St} {x:Ex×St} (z:exec P h F0 n c l=some x):exec P h F0 m c l=some x:=by obtain⟨S,q,k⟩:=EL c z;exact k F0 m q w
end
section
variable {P:Program} {H:Nat->Hint} {gI:eN}
def UN:∀(n:Nat) {f:Nat} {args:List SV} {cL:List (Nat×Ob)} {r:AV×List (Nat×Ob)},qC P H gI n f args cL=some r->qC P H gI (n+1) f args cL=some r:=by intro n;induction n with
 |zero=>intro f args cL r l;simp[qC] at l
 |succ n K=>
  intro f args cL r l;rw[qC] at l⊢;dsimp only at l⊢;split at l
  .rename_i x w;(try simp only[w]);exact l
  .rename_i w
   (try simp only[w])
   split at l
   .rename_i fn F
    (try simp only[F])
    split at l
    .rename_i c B
     (try simp only[B])
     obtain⟨D,l⟩:=bW l;rw[D];simp only[ak];split at l
     .rename_i e L I;obtain⟨S,z,k⟩:=EL c I;have q:Holds (qC P H gI (n+1)) S:=λs G=>K (z s G)
      rw[k _ (n+1) q af];exact l
     .cases l
    .cases l
   .cases l
def vJ {n m:Nat} (l:n<=m) {f:Nat} {args:List SV} {cL:List (Nat×Ob)} {r:AV×List (Nat×Ob)} (q:qC P H gI n f args cL=some r):qC P H gI m f args cL=some r:=by induction l with
 |refl=>exact q
 |step _ w=>exact UN _ w
noncomputable def run (P:Program) (H:Nat->Hint) (gI:eN):eN:=λf args cL=>
 open Classical in if h : ∃ r n, qC P H gI n f args cL = some r then some h.choose else none
def I4 {f:Nat} {args:List SV} {cL:List (Nat×Ob)} {r:AV×List (Nat×Ob)}:run P H gI f args cL=some r↔∃n,qC P H gI n f args cL=some r:=by
 constructor
 .intro q;unfold run at q;split at q
  .rename_i l;injection q with q;rw[<-q];exact l.choose_spec
  .cases q
 .rintro⟨n,z⟩;unfold run;have l:∃r n,qC P H gI n f args cL=some r:=⟨r,n,z⟩
  rw[kL l];obtain⟨m,D⟩:=l.choose_spec;have B:=vJ (uK n m) z;have w:=vJ (yZ n m) D;rw[B] at w;exact w.symm
def ZC {S:Rh} (q:Holds (run P H gI) S):∃n,Holds (qC P H gI n) S:=by induction S with
 |nil=>exact⟨0,Holds.nil⟩
 |cons s S B=>
  obtain⟨n,z⟩:=B λt l=>q t (dz _ l)
  obtain⟨m,w⟩:=I4.1 (q s (gE ..));refine⟨max n m,λt l=> ?_⟩;cases aJ.1 l with
  |inl e=>subst e;exact vJ (yZ ..) w
  |inr e=>exact vJ (uK ..) (z t e)
def H6 {f:Nat} {fn:Func} {c:Code} {args:List SV} {cL:List (Nat×Ob)} {r:AV×List (Nat×Ob)} {n:Nat} {e:Ex} {q:St} (I:gI f args cL=none)
  (F:P.funcs[f]? =some fn) (z:fn.body=some c) (B:(Nat.ble args.length fn.ntmps&&(cL.map (·.1)).all (λi=> !(iG i)||giv i))=true)
  (L:exec P (H f) (run P H gI) n c { env:=find (zz 0 args),ob:=find cL }=some (e,q)) (D:abm P (H f).own fn cL e q=some r):run P H gI f args cL=some r:=by
 obtain⟨S,w,k⟩:=EL c L;obtain⟨m,G⟩:=ZC w;have l:Holds (qC P H gI (max n m)) S:=λs K=>vJ (yZ ..) (G s K)
 refine I4.2 ⟨max n m+1,?_⟩;simp only[qC,I,F,z,B,ak,k _ (max n m) l (uK ..)];exact D
def tW {f:Nat} {args:List SV} {cL:List (Nat×Ob)} {r:AV×List (Nat×Ob)} (l:gI f args cL=some r):run P H gI f args cL=some r:=
 I4.2 ⟨1,by simp only[qC,l]⟩
def RG {q:Qp} {B:Mu} (D:DV P=true) (G:∀f fn c,P.funcs[f]? =some fn->fn.body=some c->qY q B P (H f) fn.ntmps c) (F:iB q B P gI):∀n,iB q B P (qC P H gI n):=by intro n;induction n with
 |zero=>intro g args cL r z l;simp[qC] at l
 |succ n ih=>
  intro g args cL r z l;simp only[qC] at l;split at l
  .rename_i x V;injection l with l;subst l;exact F g args cL r z V
  .split at l
   .rename_i fn K;split at l
    .rename_i c S;obtain⟨U,l⟩:=bW l;split at l
     .rename_i e st hx;refine λw μ I us L N O Q R=> .inl ⟨?_,UI D (G g) ih K S U hx l w μ I us L N O Q R⟩
      simp only[DV,aS] at D;have:=fI D.2;have:=(gx.1 K).1;omega
     .cases l
    .cases l
   .cases l
def NK {q:Qp} {B:Mu} (D:DV P=true) (z:∀f fn c,P.funcs[f]? =some fn->fn.body=some c->qY q B P (H f) fn.ntmps c) (l:iB q B P gI):iB q B P (run P H gI):=by intro g args cL r w G;obtain⟨n,F⟩:=I4.1 G;exact RG D z l n g args cL r w F
end
