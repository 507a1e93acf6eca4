/- THE ABSTRACT MACHINE. -/
import Derived.Test.YtacapiamkgkkjaaGreatDoorAmCall
set_option linter.all false
namespace Go.AM
open Go.RowKit
def b9 {R:Type} {b:Bool} {x:Option R} {r:R} (l:(bif b then x else none)=some r):b=true/\x=some r:=by cases b with
 |true=>exact⟨rfl,l⟩
 |false=>cases l
abbrev Qg:=List (Nat×List SV×List (Nat×Ob)×(AV×List (Nat×Ob)))
def Holds (F:eM) (S:Qg):Prop:=∀s∈S,F s.1 s.2.1 s.2.2.1=some s.2.2.2
def Holds.nil {F:eM}:Holds F []:=λ_ h=>by cases h
def Holds.append {F:eM} {S T:Qg} (h:Holds F S) (k:Holds F T):Holds F (S++T):=λs l=>(bA.1 l).elim (h s) (k s)
def Holds.left {F:eM} {S T:Qg} (h:Holds F (S++T)):Holds F S:=λs l=>h s (bA.2 (.inl l))
def Holds.right {F:eM} {S T:Qg} (h:Holds F (S++T)):Holds F T:=λs l=>h s (bA.2 (.inr l))
def Holds.one {F:eM} {g:Nat} {args:List SV} {cL:List (Nat×Ob)} {r:AV×List (Nat×Ob)} (h:F g args cL=some r):Holds F [(g,args,cL,r)]:=λs l=>by simp only[bS] at l;subst l;exact h
def Holds.get {F:eM} {g:Nat} {args:List SV} {cL:List (Nat×Ob)} {r:AV×List (Nat×Ob)} (h:Holds F [(g,args,cL,r)]):F g args cL=some r:=h _ (bS.2 rfl)
section
variable {P:Program} {h:Hint} {F0:eM}
def TN {c:Call} {f:Operand} {w:St} {r:AV} (l:sK P h F0 w c f=some r):∃S,Holds F0 S/\∀F,Holds F S->sK P h F w c f=some r:=by
 unfold sK at l;split at l
 .rename_i g args B;obtain⟨D,l⟩:=b9 l;split at l
  .rename_i cL G;split at l
   .rename_i K q I;refine⟨_,Holds.one I,λF z=> ?_⟩;simp only[sK,B,D,aj,G,z.get];exact l
   .cases l
  .cases l
 .cases l
def Rs {o:Oper} {G:St} {v:SV} (l:dW P h F0 o G=some v):∃S,Holds F0 S/\∀F,Holds F S->dW P h F o G=some v:=by cases z:o.op with
 |call c=>cases D:c.callee with
  |value f=>
   simp only[dW,z,D] at l;cases how:o.dst.any h.owns.contains with
   |true=>rw[how] at l;cases l
   |false=>
   rw[how] at l;simp only[au] at l;cases w:(o.dst.any h.stay.contains&&wide G c f) with
   |true=>rw[w] at l;simp only[aj,cv] at l;obtain⟨r,K,rfl⟩:=l;obtain⟨S,N,Q⟩:=TN K;refine⟨S,N,λF I=> ?_⟩;simp only[dW,z,D];rw[how,w,Q F I];rfl
   |false=>
   rw[w] at l;simp only[au] at l;cases q:(wide G c f||c.args.toList.any (λx=>(pE h G x).isSome)) with
   |true=>rw[q] at l;cases l
   |false=>
    rw[q] at l;simp only[au] at l;split at l
    .rename_i g B R O L;split at l
     .rename_i r K;refine⟨_,Holds.one K,λF I=> ?_⟩;simp only[dW,z,D,O,L,I.get];rw[how,w,q];exact l
     .cases l
    .cases l
  |builtin b=>exact⟨[],Holds.nil,λF _=>by simp only[dW,z,D] at l⊢;exact l⟩
  |invoke r m=>exact⟨[],Holds.nil,λF _=>by simp only[dW,z,D] at l⊢;exact l⟩
 |makeFunc fn first B=>exact⟨[],Holds.nil,λF _=>by cases fn<;>simp only[dW,z] at l⊢<;>exact l⟩
 |_=>exact⟨[],Holds.nil,λF _=>by simp only[dW,z] at l⊢;exact l⟩
def Ns {z:St} {g:Nat} {args:List SV} {w:Nat->Nat} {d:Option Nat} {x:St} (l:jW F0 z g args w d=some x):∃S,Holds F0 S/\∀F,Holds F S->jW F z g args w d=some x:=by
 unfold jW at l;simp only[] at l;obtain⟨D,l⟩:=b9 l;split at l
 .rename_i cL G;split at l
  .rename_i r q I;refine⟨_,Holds.one I,λF B=> ?_⟩;simp only[jW,D,aj,G,B.get];exact l
  .cases l
 .cases l
def XZ {c:Call} {f:Operand} {B:St} {d:Nat} {z:List Nat} {x:St} (l:Cz P h F0 B c f d z=some x):∃S,Holds F0 S/\∀F,Holds F S->Cz P h F B c f d z=some x:=by
 unfold Cz at l;simp only[] at l;split at l
 .rename_i g pre w N K q;obtain⟨I,l⟩:=b9 l;obtain⟨S,G,L⟩:=Ns l;refine⟨S,G,λF D=> ?_⟩;simp only[Cz,K,q,I,aj];exact L F D
 .cases l
def QF {c:Call} {f:Operand} {I:St} {d:Option Nat} {x:St} (l:iI P h F0 I c f d=some x):∃S,Holds F0 S/\∀F,Holds F S->iI P h F I c f d=some x:=by
 unfold iI at l;split at l
 .rename_i d;split at l
  .rename_i O q;obtain⟨S,K,L⟩:=XZ l;exact⟨S,K,λF w=>by simp only[iI,q];exact L F w⟩
  rename_i q;split at l
  .rename_i g D R G z;split at l
   .rename_i e Q xs B;refine⟨_,Holds.one B,λF w=> ?_⟩;simp only[iI,q,G,z,w.get];exact l
   .rename_i N B;refine⟨_,Holds.one B,λF w=> ?_⟩;simp only[iI,q,G,z,w.get];exact l
   .cases l
  .cases l
 .cases l
def QJ {c:Call} {f:Operand} {B:St} {d:Option Nat} {x:St} (l:qa P h F0 B c f d=some x):∃S,Holds F0 S/\∀F,Holds F S->qa P h F B c f d=some x:=by
 unfold qa at l;split at l
 .rename_i g z R id G w;split at l
  .rename_i e Q xs q;split at l
   .rename_i r O N K L I;refine⟨_,Holds.one I,λF D=> ?_⟩;simp only[qa,G,w,q,D.get];exact l
   .cases l
  .cases l
 .cases l
def Nt {c:Call} {f:Operand} {B:St} {d:Option Nat} {x:St} (l:jX P h F0 B c f d=some x):∃S,Holds F0 S/\∀F,Holds F S->jX P h F B c f d=some x:=by
 unfold jX at l;split at l
 .rename_i g z N I q;simp only[] at l;obtain⟨G,l⟩:=b9 l;split at l
  .rename_i cL K;split at l
   .rename_i r w L;refine⟨_,Holds.one L,λF D=> ?_⟩;simp only[jX,I,q,G,aj,K,D.get];exact l
   .cases l
  .cases l
 .cases l
def X8 {o:Oper} {w:St} (q:∀c,o.op≠ .call c) (F:eM):mD P h F o w=mD P h F0 o w:=by unfold mD;split<;>first|rfl|(rename_i l;exact absurd l (q _))|(rename_i l _;exact absurd l (q _))
theorem OU {G z:St} {id:Nat} (B:G.cZ id=some z) {x:Operand} (D:xd G x=false) {ty:TypeId} {a:AV} (w:(bG P ty G x).bind (mE G)=some a):(bG P ty z x).bind (mE z)=some a:=by
 unfold St.cZ at B;split at B
 .rename_i e sz xs hb N;injection B with B;subst B;cases x with
  |tmp i=>simp only[bG] at w⊢;cases I:G.env i with
   |none=>rw[I] at w;cases w
   |some s=>rw[I] at w;simp only[eG,cV] at w⊢;cases s with
    |pv v=>simpa[mE,SV.cZ,SV.dA,SV.mentions] using w
    |row j=>simp only[mE] at w;simp only[SV.cZ];cases U:Nat.beq j id with
     |true=>have:=beq_iff.1 U;subst this;rw[N] at w;simpa[mE] using w
     |false=>
      have L:id≠j:=λe=>by subst e;simp[beq_iff.2] at U
      simp only[au,mE,bR _ _ L];obtain⟨ob,F,l⟩:=dx.1 w;rw[F];cases ob with
      |box t cells=>simp[Ob.val] at l
      |row K sz' S=>simpa[Ob.cZ] using l
      |mp k' K O R=>simpa[Ob.cZ] using l
      |mr k' K Q O R=>simpa[Ob.cZ] using l
      |rn K Q k' e2 s2 S ys'=>simpa[Ob.cZ] using l
      |it Q n'=>simp[Ob.val] at l
      |lp Q=>simp[Ob.val] at l
    |ag cs=>simp[xd,I] at D
    |aq j q=>simp[xd,I] at D
    |_=>cases w
  |const v=>simp only[bG] at w⊢;cases V:ofConst P ty v<;>simp[V,mE] at w⊢;exact w
  |func f=>simpa[bG,mE] using w
  |global g=>simp[bG] at w
 .cases B
def Nj {B w:St} {id:Nat} (l:B.cZ id=some w) {x:Operand} (h:xd B x=false):xd w x=false:=by
 unfold St.cZ at l;split at l
 .injection l with l;subst l;cases x with
  |tmp i=>simp only[xd] at h⊢;cases D:B.env i with
   |none=>rfl
   |some s=>rw[D] at h;simp only[cV];cases s with
    |ag F=>simp at h
    |aq j q=>simp at h
    |row j=>simp only[SV.cZ];cases Nat.beq j id<;>rfl
    |_=>simp only[SV.cZ,SV.dA];split<;>rename_i z<;>(first|rfl|(revert z;cases SV.mentions id _<;>intro z<;>cases z))
  |_=>rfl
 .cases l
def ya:∀{xs:List Operand} {B w:St},mD.iq B xs=some w->∀{x:Operand},xd B x=false->∀{ty:TypeId} {a:AV},(bG P ty B x).bind (mE B)=some a->(bG P ty w x).bind (mE w)=some a:=by intro xs;induction xs with
 |nil=>intro B w q x _ ty a z;simp only[mD.iq,aM] at q;subst q;exact z
 |cons y xs D=>intro B w q x l ty a z;cases y with
  |tmp i=>
   simp only[mD.iq] at q;split at q
   .rename_i id I;cases F:B.cZ id with
    |none=>rw[F] at q;cases q
    |some G=>rw[F] at q;exact D q (Nj F l) (OU F l z)
   .exact D q l z
  |const v=>exact D q l z
  |func f=>exact D q l z
  |global g=>exact D q l z
def sQ {l q:St} {xs:List Operand} (h:mD.jG l xs=some q):mD.iq l xs=some q/\∀x∈xs,xd l x=false:=by unfold mD.jG at h;cases w:xs.any (xd l) with
 |true=>rw[w] at h;cases h
 |false=>
  rw[w] at h
  exact⟨h,λx B=>by cases z:xd l x with
   |false=>rfl
   |true=>exact absurd z (by simpa using uy.1 w x B)⟩
def Dy {F w:St} {N:List Operand} (G:mD.jG F N=some w):∀{xs:List Operand} {z:List TypeId} {B:List AV},(∀x∈xs,xd F x=false)->jM P F xs z=some B->jM P w xs z=some B:=by intro xs;induction xs with
 |nil=>intro z B _ l;exact l
 |cons x xs L=>
  intro z B q l;simp only[jM] at l⊢;split at l
  .rename_i v O I D;rw[ya (sQ G).1 (q x ai) I,L (λy K=>q y (by simp[K])) D];exact l
  .cases l
def LQ {F w:St} {K:List Operand} (G:mD.jG F K=some w) {f:Operand} {g:Nat} {l:List AV} (B:bG P 0 F f=some (.pv (.fn g l))):bG P 0 w f=some (.pv (.fn g l)):=by
 have:=ya (P:=P) (sQ G).1 (x:=f) (by cases f with
  |tmp i=>simp only[bG] at B;simp[xd,B]
  |_=>rfl) (ty:=0) (a:= .fn g l) (by rw[B];rfl)
 cases D:bG P 0 w f with
 |none=>rw[D] at this;cases this
 |some s=>rw[D] at this;simp only[eG] at this;cases s with
  |pv v=>simp only[mE,aM] at this;rw[this]
  |row id=>simp only[mE] at this;obtain⟨I,_,z⟩:=dx.1 this;cases I<;>simp[Ob.val] at z
  |ag L=>simp only[mE,cv] at this;obtain⟨_,_,h⟩:=this;cases h
  |aq j q=>cases q with
   |full=>cases this
   |bs n=>cases this
   |nr i=>
    simp only[mE] at this;split at this
    .split at this
     .cases this
     .cases this
    .cases this
  |_=>cases this
def VV {o:Oper} {B w:St} (l:mD P h F0 o B=some w):∃S,Holds F0 S/\∀F,Holds F S->mD P h F o B=some w:=by cases Q:o.op with
 |call c=>cases K:c.callee with
  |value f=>
   have e1:∀F,mD P h F o B=(bif o.dst.any h.owns.contains then iI P h F B c f o.dst else bif o.dst.any h.stay.contains&&wide B c f then none else bif wide B c f then jX P h F B c f o.dst else bif c.args.toList.any (λx=>(pE h B x).isSome) then qa P h F B c f o.dst else
    match mD.jG B c.args.toList with
    |some w=>match bG P 0 w f,jM P w c.args.toList c.argTypes.toList with
     |some (.pv (.fn g G)),some U=>match F g ((U++G).map .pv) [] with
      |some (r,[])=>bif c.args.toList.any (lC w)|| !r.jF then none else some (w.set o.dst (.pv r))
      |_=>none
     |_,_=>none
    |none=>none):=λF=>by
    cases N:o.dst<;>simp only[mD,Q,K,N]<;>rfl
   rw[e1] at l;cases how:o.dst.any h.owns.contains with
   |true=>rw[how] at l;simp only[aj] at l;obtain⟨S,L,q⟩:=QF l;exact⟨S,L,λF I=>by rw[e1,how];simp only[aj,q F I]⟩
   |false=>
   rw[how] at l;simp only[au] at l;cases D:(o.dst.any h.stay.contains&&wide B c f) with
   |true=>rw[D] at l;cases l
   |false=>
   rw[D] at l;simp only[au] at l;cases O:wide B c f with
   |true=>rw[O] at l;simp only[aj] at l;obtain⟨S,L,q⟩:=Nt l;exact⟨S,L,λF I=>by rw[e1,how,D,O];simp only[aj,au,q F I]⟩
   |false=>
   rw[O] at l;simp only[au] at l;cases z:c.args.toList.any (λx=>(pE h B x).isSome) with
   |true=>rw[z] at l;simp only[aj] at l;obtain⟨S,L,q⟩:=QJ l;exact⟨S,L,λF I=>by rw[e1,how,D,O,z];simp only[aj,au,q F I]⟩
   |false=>
    rw[z] at l;simp only[au] at l;split at l
    .rename_i st1 hp;split at l
     .rename_i g G U V R;split at l
      .rename_i r hr;refine⟨_,Holds.one hr,λF I=> ?_⟩;rw[e1,how,D,O,z];simp only[au,hp,V,R,I.get];exact l
      .cases l
     .cases l
    .cases l
  |builtin b=>exact⟨[],Holds.nil,λF _=>by cases N:o.dst<;>cases b<;>simp only[mD,Q,K,N] at l⊢<;>exact l⟩
  |invoke r m=>exact⟨[],Holds.nil,λF _=>by cases N:o.dst<;>simp only[mD,Q,K,N] at l⊢<;>exact l⟩
 |_=>exact⟨[],Holds.nil,λF _=>by rw[X8 (F0:=F0) (λc K=>by rw[Q] at K;cases K) F];exact l⟩
def YU {o:Oper} {z q:St} (D:step0 P h F0 o z=some q):∃S,Holds F0 S/\∀F,Holds F S->step0 P h F o z=some q:=by
 unfold step0 at D;split at D
 .rename_i v V;obtain⟨S,U,l⟩:=Rs V;exact⟨S,U,λF K=>by simp only[step0,l F K];exact D⟩
 .rename_i V;have done:∀S,Holds F0 S->(∀F,Holds F S->dW P h F o z=none/\mD P h F o z=some q)->∃S,Holds F0 S/\∀F,Holds F S->step0 P h F o z=some q:=λS U l=>
   ⟨S,U,λF K=>by simp only[step0,(l F K).1];exact(l F K).2⟩
  have B:(∀F,dW P h F o z=dW P h F0 o z)->∃S,Holds F0 S/\∀F,Holds F S->step0 P h F o z=some q:=λhsame=>by obtain⟨S,U,l⟩:=VV D;exact done S U λF K=>⟨by rw[hsame F];exact V,l F K⟩
  cases L:o.op with
  |call c=>cases N:c.callee with
   |value f=>
    cases how:o.dst.any h.owns.contains with
    |true=>exact B λF=>by simp only[dW,L,N,how,aj]
    |false=>
    cases G:(o.dst.any h.stay.contains&&wide z c f) with
    |true=>cases hd:o.dst<;>(simp only[mD,L,N,hd] at D;rw[hd] at G how;rw[how,G] at D;cases D)
    |false=>
    cases w:(wide z c f||c.args.toList.any (λx=>(pE h z x).isSome)) with
    |true=>obtain⟨S,U,l⟩:=VV D;exact done S U λF K=>⟨by simp only[dW,L,N];rw[how,G,w];rfl,l F K⟩
    |false=>
     obtain⟨Ys,Q⟩:=jT.1 w
     have e1:∀F,mD P h F o z=(bif o.dst.any h.owns.contains then iI P h F z c f o.dst else bif o.dst.any h.stay.contains&&wide z c f then none else bif wide z c f then jX P h F z c f o.dst else bif c.args.toList.any (λx=>(pE h z x).isSome) then qa P h F z c f o.dst else
      match mD.jG z c.args.toList with
      |some q=>match bG P 0 q f,jM P q c.args.toList c.argTypes.toList with
       |some (.pv (.fn g I)),some vs=>match F g ((vs++I).map .pv) [] with
        |some (r,[])=>bif c.args.toList.any (lC q)|| !r.jF then none else some (q.set o.dst (.pv r))
        |_=>none
       |_,_=>none
      |none=>none):=λF=>by
      cases hd:o.dst<;>simp only[mD,L,N,hd]<;>rfl
     rw[e1,how,G,Ys,Q] at D;simp only[au] at D;split at D
     .rename_i st1 hp;split at D
      .rename_i g I vs hfn hvs;split at D
       .rename_i r hr;refine done _ (Holds.one hr) λF K=>⟨?_,?_⟩
        .simp only[dW,L,N];rw[how,G,w];simp only[au];split
         .rename_i g2 caps2 vs2 O R;have k1:=LQ hp O;rw[hfn] at k1;simp only[aM,SV.pv.injEq,AV.fn.injEq] at k1;obtain⟨rfl,rfl⟩:=k1;have k2:=Dy hp (sQ hp).2 R;rw[hvs] at k2;injection k2 with k2;subst k2;simp only[dW,L,N] at V;rw[how,G,w] at V;simp only[au,O,R,hr] at V;rw[K.get];exact V
         .rfl
        .rw[e1,how,G,Ys,Q];simp only[au,hp,hfn,hvs,K.get];exact D
       .cases D
      .cases D
     .cases D
   |builtin b=>exact B λF=>by simp only[dW,L,N]
   |invoke r m=>exact B λF=>by simp only[dW,L,N]
  |makeFunc fn first I=>exact B λF=>by cases fn<;>simp only[dW,L]
  |_=>exact B λF=>by simp only[dW,L]
theorem SQ {o:Oper} {w l:St} (q:step P h F0 o w=some l):∃S,Holds F0 S/\∀F,Holds F S->step P h F o w=some l:=by unfold step at q;obtain⟨I,z,B⟩:=dx.1 q;obtain⟨S,G,k⟩:=YU B;exact⟨S,G,λF D=>by simp only[step,z,eG,k F D]⟩
def Vn {z:Array Oper}:∀{l:List Oper} {B w:St},qR P h F0 z l B=some w->∃S,Holds F0 S/\∀F,Holds F S->qR P h F z l B=some w:=by intro l;induction l with
 |nil=>intro B w q;exact⟨[],Holds.nil,λF _=>q⟩
 |cons o l O=>
  intro B w q;simp only[qR] at q;split at q
  .rename_i b N;cases b with
   |true=>simp only[aj] at q;cases K:step P h F0 o B with
    |none=>rw[K] at q;cases q
    |some V=>rw[K] at q;obtain⟨Q,R,U⟩:=SQ K;obtain⟨G,I,L⟩:=O q;exact⟨Q++G,R.append I,λF D=>by simp only[qR,N,aj,U F D.left,eG];exact L F D.right⟩
   |false=>simp only[au] at q;obtain⟨G,I,L⟩:=O q;exact⟨G,I,λF D=>by simp only[qR,N,au];exact L F D⟩
  .cases q
def SL {L:Array Oper}:∀{l:List Oper} {i:Nat} {w:List (Nat×gi)} {N z:St},kz P h F0 L i l w N=some z->∃S,Holds F0 S/\∀F,Holds F S->kz P h F L i l w N=some z:=by intro l;induction l with
 |nil=>intro i w N z q;exact⟨[],Holds.nil,λF _=>q⟩
 |cons o l V=>
  intro i w N z q;simp only[kz] at q;split at q
  .cases q
  .rename_i b U;cases b with
   |true=>simp only[aj] at q;cases O:(isF h N o&&(EU h o).isEmpty) with
    |true=>
     simp only[O,aj] at q;split at q
     .rename_i v hf;obtain⟨I,q⟩:=b9 q;obtain⟨Q,R,k1⟩:=Rs hf;obtain⟨D,G,K⟩:=V q;exact⟨Q++D,R.append G,λF B=>by simp only[kz,U,aj,O,k1 F B.left,I];exact K F B.right⟩
     .cases q
    |false=>
     simp only[O,au] at q;split at q
     .rename_i st1 hs;obtain⟨I,q⟩:=b9 q;obtain⟨Q,R,k1⟩:=SQ hs;obtain⟨D,G,K⟩:=V q;exact⟨Q++D,R.append G,λF B=>by simp only[kz,U,aj,O,au,k1 F B.left,I];exact K F B.right⟩
     .cases q
   |false=>simp only[au] at q;obtain⟨I,q⟩:=b9 q;obtain⟨D,G,K⟩:=V q;exact⟨D,G,λF B=>by simp only[kz,U,au,I,aj];exact K F B⟩
def Ek {n:Nat}:∀(c:Code) {G:St} {x:Ex×St},exec P h F0 n c G=some x->∃S,Holds F0 S/\∀F m,Holds F S->n<=m->exec P h F m c G=some x:=by intro c;induction c with
 |skip=>intro G x w;exact⟨[],Holds.nil,λF m _ _=>w⟩
 |label l=>intro G x w;exact⟨[],Holds.nil,λF m _ _=>w⟩
 |exit id=>intro G x w;exact⟨[],Holds.nil,λF m _ _=>w⟩
 |ret=>intro G x w;exact⟨[],Holds.nil,λF m _ _=>w⟩
 |region id ops draw=>intro G x w;simp only[exec] at w;obtain⟨st1,R,w⟩:=dx.1 w;cases draw with
  |true=>simp only[aj] at w;obtain⟨hb,w⟩:=b9 w;simp only[cv] at w;obtain⟨s,hr,rfl⟩:=w;obtain⟨S,I,k⟩:=SL hr;exact⟨S,I,λF m B _=>by simp only[exec,R,eG,aj,hb,k F B,cV]⟩
  |false=>simp only[au,cv] at w;obtain⟨s,hr,rfl⟩:=w;obtain⟨S,I,k⟩:=Vn hr;exact⟨S,I,λF m B _=>by simp only[exec,R,eG,au,k F B,cV]⟩
 |seq a b O Q=>
  intro G x w;simp only[exec] at w;cases L:find h.blk (e7 a) with
  |some z=>simp only[L] at w;exact⟨[],Holds.nil,λF m _ _=>by simp only[exec,L];exact w⟩
  |none=>
  simp only[L] at w;split at w
  .rename_i st1 ha;obtain⟨V,h1,k1⟩:=O ha;obtain⟨S2,h2,k2⟩:=Q w;exact⟨V++S2,h1.append h2,λF m B D=>by simp only[exec,L,k1 F m B.left D];exact k2 F m B.right D⟩
  .rename_i N;obtain⟨V,h1,k1⟩:=O w;refine⟨V,h1,λF m B D=> ?_⟩;simp only[exec,L,k1 F m B D];obtain⟨e,s⟩:=x;cases e with
   |normal=>exact absurd w (N s)
   |exit j=>rfl
   |ret=>rfl
 |cond c a b O Q=>
  intro G x w;simp only[exec] at w;split at w
  .rename_i t hc;cases t with
   |true=>obtain⟨S,I,k⟩:=O w;exact⟨S,I,λF m B D=>by simp only[exec,hc,aj];exact k F m B D⟩
   |false=>obtain⟨S,I,k⟩:=Q w;exact⟨S,I,λF m B D=>by simp only[exec,hc,au];exact k F m B D⟩
  .cases w
 |block id c ih=>
  intro G x w;simp only[exec] at w;split at w
  .rename_i j s hc;obtain⟨S,I,k⟩:=ih hc;exact⟨S,I,λF m B D=>by simp only[exec,k F m B D];exact w⟩
  .rename_i N;obtain⟨S,I,k⟩:=ih w;refine⟨S,I,λF m B D=> ?_⟩;simp only[exec,k F m B D];obtain⟨e,s⟩:=x;cases e with
   |normal=>rfl
   |exit j=>exact absurd w (N j s)
   |ret=>rfl
 |loop c ih=>
  intro G x w;simp only[exec] at w;have key:∀(q:Nat) {G:St} {x:Ex×St},iter h (e7 c) (exec P h F0 n c) q G=some x->∃S,Holds F0 S/\∀F m U,Holds F S->n<=m->q<=U->iter h (e7 c) (exec P h F m c) U G=some x:=by intro q;induction q with
   |zero=>intro G x w;simp[iter] at w
   |succ q ihq=>
    intro G x w;simp only[iter] at w;split at w
    .rename_i st1 hc;obtain⟨V,h1,k1⟩:=ih hc;obtain⟨S2,h2,k2⟩:=ihq w;refine⟨V++S2,h1.append h2,λF m U B D hq=> ?_⟩;obtain⟨K,rfl⟩:∃K,U=K+1:=⟨U-1,af⟩
     simp only[iter,k1 F m B.left D];exact k2 F m K B.right D af
    .rename_i N;obtain⟨V,h1,k1⟩:=ih w;refine⟨V,h1,λF m U B D hq=> ?_⟩;obtain⟨K,rfl⟩:∃K,U=K+1:=⟨U-1,af⟩
     simp only[iter,k1 F m B D];obtain⟨e,s⟩:=x;cases e with
     |normal=>exact absurd w (N s)
     |exit j=>rfl
     |ret=>rfl
  obtain⟨S,I,k⟩:=key n w;exact⟨S,I,λF m B D=>by simp only[exec];exact k F m m B D D⟩
 |scope c ih=>intro G x w;simp only[exec] at w;obtain⟨S,I,k⟩:=ih w;exact⟨S,I,λF m B D=>by simp only[exec];exact k F m B D⟩
 |rangeFunc f ps a b O Q=>intro G x w;simp[exec] at w
 |goto l=>intro G x w;simp[exec] at w
 |refuse s=>intro G x w;simp[exec] at w
def qc {n m:Nat} (w:n<=m) {c:Code} {l:St} {x:Ex×St} (z:exec P h F0 n c l=some x):exec P h F0 m c l=some x:=by obtain⟨S,q,k⟩:=Ek c z;exact k F0 m q w
end
section
variable {P:Program} {H:Nat->Hint} {gL:eM}
def TK:∀(n:Nat) {f:Nat} {args:List SV} {cL:List (Nat×Ob)} {r:AV×List (Nat×Ob)},qw P H gL n f args cL=some r->qw P H gL (n+1) f args cL=some r:=by intro n;induction n with
 |zero=>intro f args cL r l;simp[qw] at l
 |succ n K=>
  intro f args cL r l;rw[qw] at l⊢;dsimp only at l⊢;split at l
  .rename_i x w;(try simp only[w]);exact l
  .rename_i w
   (try simp only[w])
   split at l
   .rename_i fn F
    (try simp only[F])
    split at l
    .rename_i c B
     (try simp only[B])
     obtain⟨D,l⟩:=b9 l;rw[D];simp only[aj];split at l
     .rename_i e L I;obtain⟨S,z,k⟩:=Ek c I;have q:Holds (qw P H gL (n+1)) S:=λs G=>K (z s G)
      rw[k _ (n+1) q af];exact l
     .cases l
    .cases l
   .cases l
def vr {n m:Nat} (l:n<=m) {f:Nat} {args:List SV} {cL:List (Nat×Ob)} {r:AV×List (Nat×Ob)} (q:qw P H gL n f args cL=some r):qw P H gL m f args cL=some r:=by induction l with
 |refl=>exact q
 |step _ w=>exact TK _ w
noncomputable def run (P:Program) (H:Nat->Hint) (gL:eM):eM:=λf args cL=>
 open Classical in if h : ∃ r n, qw P H gL n f args cL = some r then some h.choose else none
def Ih {f:Nat} {args:List SV} {cL:List (Nat×Ob)} {r:AV×List (Nat×Ob)}:run P H gL f args cL=some r↔∃n,qw P H gL n f args cL=some r:=by
 constructor
 .intro q;unfold run at q;split at q
  .rename_i l;injection q with q;rw[<-q];exact l.choose_spec
  .cases q
 .rintro⟨n,z⟩;unfold run;have l:∃r n,qw P H gL n f args cL=some r:=⟨r,n,z⟩
  rw[iG l];obtain⟨m,D⟩:=l.choose_spec;have B:=vr (rE n m) z;have w:=vr (rF n m) D;rw[B] at w;exact w.symm
def Yo {S:Qg} (q:Holds (run P H gL) S):∃n,Holds (qw P H gL n) S:=by induction S with
 |nil=>exact⟨0,Holds.nil⟩
 |cons s S B=>
  obtain⟨n,z⟩:=B λt l=>q t (dF _ l)
  obtain⟨m,w⟩:=Ih.1 (q s (fN ..));refine⟨max n m,λt l=> ?_⟩;cases aI.1 l with
  |inl e=>subst e;exact vr (rF ..) w
  |inr e=>exact vr (rE ..) (z t e)
def Ht {f:Nat} {fn:Func} {c:Code} {args:List SV} {cL:List (Nat×Ob)} {r:AV×List (Nat×Ob)} {n:Nat} {e:Ex} {q:St} (I:gL f args cL=none)
  (F:P.funcs[f]? =some fn) (z:fn.body=some c) (B:(Nat.ble args.length fn.ntmps&&(cL.map (·.1)).all (λi=> !(iC i)||giv i))=true)
  (L:exec P (H f) (run P H gL) n c { env:=find (yZ 0 args),ob:=find cL }=some (e,q)) (D:Z3 P (H f).own fn cL e q=some r):run P H gL f args cL=some r:=by
 obtain⟨S,w,k⟩:=Ek c L;obtain⟨m,G⟩:=Yo w;have l:Holds (qw P H gL (max n m)) S:=λs K=>vr (rF ..) (G s K)
 refine Ih.2 ⟨max n m+1,?_⟩;simp only[qw,I,F,z,B,aj,k _ (max n m) l (rE ..)];exact D
def tM {f:Nat} {args:List SV} {cL:List (Nat×Ob)} {r:AV×List (Nat×Ob)} (l:gL f args cL=some r):run P H gL f args cL=some r:=
 Ih.2 ⟨1,by simp only[qw,l]⟩
def QB {q:Qp} {B:Mu} (D:Dx P=true) (G:∀f fn c,P.funcs[f]? =some fn->fn.body=some c->qV q B P (H f) fn.ntmps c) (F:iw q B P gL):∀n,iw q B P (qw P H gL n):=by intro n;induction n with
 |zero=>intro g args cL r z l;simp[qw] at l
 |succ n ih=>
  intro g args cL r z l;simp only[qw] at l;split at l
  .rename_i x V;injection l with l;subst l;exact F g args cL r z V
  .split at l
   .rename_i fn K;split at l
    .rename_i c S;obtain⟨U,l⟩:=b9 l;split at l
     .rename_i e st hx;refine λw μ I us L N O Q R=> .inl ⟨?_,TE D (G g) ih K S U hx l w μ I us L N O Q R⟩
      simp only[Dx,aK] at D;have:=ff D.2;have:=(ga.1 K).1;omega
     .cases l
    .cases l
   .cases l
def MY {q:Qp} {B:Mu} (D:Dx P=true) (z:∀f fn c,P.funcs[f]? =some fn->fn.body=some c->qV q B P (H f) fn.ntmps c) (l:iw q B P gL):iw q B P (run P H gL):=by intro g args cL r w G;obtain⟨n,F⟩:=Ih.1 G;exact QB D z l n g args cL r w F
end
