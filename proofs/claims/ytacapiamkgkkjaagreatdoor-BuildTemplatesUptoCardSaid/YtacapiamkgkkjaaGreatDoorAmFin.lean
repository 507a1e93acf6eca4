/- THE ABSTRACT MACHINE. -/
import Derived.Test.YtacapiamkgkkjaaGreatDoorAmCall
set_option linter.all false
namespace Go.AM
open Go.RowKit
def cg {R:Type} {b:Bool} {x:Option R} {r:R} (l:(bif b then x else none)=some r):b=true/\x=some r:=by cases b with
 |true=>exact⟨rfl,l⟩
 |false=>cases l
abbrev R3:=List (Nat×List SV×List (Nat×Ob)×(AV×List (Nat×Ob)))
def Holds (F:eX) (S:R3):Prop:=∀s∈S,F s.1 s.2.1 s.2.2.1=some s.2.2.2
def Holds.nil {F:eX}:Holds F []:=λ_ h=>by cases h
def Holds.append {F:eX} {S T:R3} (h:Holds F S) (k:Holds F T):Holds F (S++T):=λs l=>(bf.1 l).elim (h s) (k s)
def Holds.left {F:eX} {S T:R3} (h:Holds F (S++T)):Holds F S:=λs l=>h s (bf.2 (.inl l))
def Holds.right {F:eX} {S T:R3} (h:Holds F (S++T)):Holds F T:=λs l=>h s (bf.2 (.inr l))
def Holds.one {F:eX} {g:Nat} {args:List SV} {cM:List (Nat×Ob)} {r:AV×List (Nat×Ob)} (h:F g args cM=some r):Holds F [(g,args,cM,r)]:=λs l=>by simp only[bZ] at l;subst l;exact h
def Holds.get {F:eX} {g:Nat} {args:List SV} {cM:List (Nat×Ob)} {r:AV×List (Nat×Ob)} (h:Holds F [(g,args,cM,r)]):F g args cM=some r:=h _ (bZ.2 rfl)
section
variable {P:Program} {h:Hint} {F0:eX}
def VB {c:Call} {f:Operand} {w:St} {r:AV} (l:tI P h F0 w c f=some r):∃S,Holds F0 S/\∀F,Holds F S->tI P h F w c f=some r:=by
 unfold tI at l;split at l
 .rename_i g args B;obtain⟨D,l⟩:=cg l;split at l
  .rename_i cM G;split at l
   .rename_i K q I;refine⟨_,Holds.one I,λF z=> ?_⟩;simp only[tI,B,D,aj,G,z.get];exact l
   .cases l
  .cases l
 .cases l
def Td {o:Oper} {G:St} {v:SV} (l:ec P h F0 o G=some v):∃S,Holds F0 S/\∀F,Holds F S->ec P h F o G=some v:=by cases z:o.op with
 |call c=>cases D:c.callee with
  |value f=>
   simp only[ec,z,D] at l;cases how:o.dst.any h.owns.contains with
   |true=>rw[how] at l;cases l
   |false=>
   rw[how] at l;simp only[au] at l;cases w:(o.dst.any h.stay.contains&&wide G c f) with
   |true=>rw[w] at l;simp only[aj,cu] at l;obtain⟨r,K,rfl⟩:=l;obtain⟨S,N,Q⟩:=VB K;refine⟨S,N,λF I=> ?_⟩;simp only[ec,z,D];rw[how,w,Q F I];rfl
   |false=>
   rw[w] at l;simp only[au] at l;cases q:(wide G c f||c.args.toList.any (λx=>(qb h G x).isSome)) with
   |true=>rw[q] at l;cases l
   |false=>
    rw[q] at l;simp only[au] at l;split at l
    .rename_i g B R O L;split at l
     .rename_i r K;refine⟨_,Holds.one K,λF I=> ?_⟩;simp only[ec,z,D,O,L,I.get];rw[how,w,q];exact l
     .cases l
    .cases l
  |builtin b=>exact⟨[],Holds.nil,λF _=>by simp only[ec,z,D] at l⊢;exact l⟩
  |invoke r m=>exact⟨[],Holds.nil,λF _=>by simp only[ec,z,D] at l⊢;exact l⟩
 |makeFunc fn first B=>exact⟨[],Holds.nil,λF _=>by cases fn<;>simp only[ec,z] at l⊢<;>exact l⟩
 |_=>exact⟨[],Holds.nil,λF _=>by simp only[ec,z] at l⊢;exact l⟩
def OV {z:St} {g:Nat} {args:List SV} {w:Nat->Nat} {d:Option Nat} {x:St} (l:kF F0 z g args w d=some x):∃S,Holds F0 S/\∀F,Holds F S->kF F z g args w d=some x:=by
 unfold kF at l;simp only[] at l;obtain⟨D,l⟩:=cg l;split at l
 .rename_i cM G;split at l
  .rename_i r q I;refine⟨_,Holds.one I,λF B=> ?_⟩;simp only[kF,D,aj,G,B.get];exact l
  .cases l
 .cases l
def ZX {c:Call} {f:Operand} {B:St} {d:Nat} {z:List Nat} {x:St} (l:Db P h F0 B c f d z=some x):∃S,Holds F0 S/\∀F,Holds F S->Db P h F B c f d z=some x:=by
 unfold Db at l;simp only[] at l;split at l
 .rename_i g pre w N K q;obtain⟨I,l⟩:=cg l;obtain⟨S,G,L⟩:=OV l;refine⟨S,G,λF D=> ?_⟩;simp only[Db,K,q,I,aj];exact L F D
 .cases l
def Sx {c:Call} {f:Operand} {I:St} {d:Option Nat} {x:St} (l:iS P h F0 I c f d=some x):∃S,Holds F0 S/\∀F,Holds F S->iS P h F I c f d=some x:=by
 unfold iS at l;split at l
 .rename_i d;split at l
  .rename_i O q;obtain⟨S,K,L⟩:=ZX l;exact⟨S,K,λF w=>by simp only[iS,q];exact L F w⟩
  rename_i q;split at l
  .rename_i g D R G z;split at l
   .rename_i e Q xs B;refine⟨_,Holds.one B,λF w=> ?_⟩;simp only[iS,q,G,z,w.get];exact l
   .rename_i N B;refine⟨_,Holds.one B,λF w=> ?_⟩;simp only[iS,q,G,z,w.get];exact l
   .cases l
  .cases l
 .cases l
def SB {c:Call} {f:Operand} {B:St} {d:Option Nat} {x:St} (l:qD P h F0 B c f d=some x):∃S,Holds F0 S/\∀F,Holds F S->qD P h F B c f d=some x:=by
 unfold qD at l;split at l
 .rename_i g z R id G w;split at l
  .rename_i e Q xs q;split at l
   .rename_i r O N K L I;refine⟨_,Holds.one I,λF D=> ?_⟩;simp only[qD,G,w,q,D.get];exact l
   .cases l
  .cases l
 .cases l
def OW {c:Call} {f:Operand} {B:St} {d:Option Nat} {x:St} (l:kG P h F0 B c f d=some x):∃S,Holds F0 S/\∀F,Holds F S->kG P h F B c f d=some x:=by
 unfold kG at l;split at l
 .rename_i g z N I q;simp only[] at l;obtain⟨G,l⟩:=cg l;split at l
  .rename_i cM K;split at l
   .rename_i r w L;refine⟨_,Holds.one L,λF D=> ?_⟩;simp only[kG,I,q,G,aj,K,D.get];exact l
   .cases l
  .cases l
 .cases l
def Z7 {o:Oper} {w:St} (q:∀c,o.op≠ .call c) (F:eX):ni P h F o w=ni P h F0 o w:=by unfold ni;split<;>first|rfl|(rename_i l;exact absurd l (q _))|(rename_i l _;exact absurd l (q _))
def Qu {G z:St} {id:Nat} (B:G.dh id=some z) {x:Operand} (D:x5 G x=false) {ty:TypeId} {a:AV} (w:(bw P ty G x).bind (nj G)=some a):(bw P ty z x).bind (nj z)=some a:=by
 unfold St.dh at B;split at B
 .rename_i e sz xs hb N;injection B with B;subst B;cases x with
  |tmp i=>simp only[bw] at w⊢;cases I:G.env i with
   |none=>rw[I] at w;cases w
   |some s=>rw[I] at w;simp only[gZ,ey] at w⊢;cases s with
    |pv v=>simpa[nj,SV.dh,SV.dD,SV.mentions] using w
    |row j=>simp only[nj] at w;simp only[SV.dh];cases U:Nat.beq j id with
     |true=>have:=beq_iff.1 U;subst this;rw[N] at w;simpa[nj] using w
     |false=>
      have L:id≠j:=λe=>by subst e;simp[beq_iff.2] at U
      simp only[au,nj,bS _ _ L];obtain⟨ob,F,l⟩:=dB.1 w;rw[F];cases ob with
      |box t cells=>simp[Ob.val] at l
      |row K sz' S=>simpa[Ob.dh] using l
      |mp k' K O R=>simpa[Ob.dh] using l
      |mr k' K Q O R=>simpa[Ob.dh] using l
      |rn K Q k' e2 s2 S ys'=>simpa[Ob.dh] using l
      |it Q n'=>simp[Ob.val] at l
      |lp Q=>simp[Ob.val] at l
    |ag cs=>simp[x5,I] at D
    |aq j q=>simp[x5,I] at D
    |_=>cases w
  |const v=>simp only[bw] at w⊢;cases V:ofConst P ty v<;>simp[V,nj] at w⊢;exact w
  |func f=>simpa[bw,nj] using w
  |global g=>simp[bw] at w
 .cases B
def OM {B w:St} {id:Nat} (l:B.dh id=some w) {x:Operand} (h:x5 B x=false):x5 w x=false:=by
 unfold St.dh at l;split at l
 .injection l with l;subst l;cases x with
  |tmp i=>simp only[x5] at h⊢;cases D:B.env i with
   |none=>rfl
   |some s=>rw[D] at h;simp only[ey];cases s with
    |ag F=>simp at h
    |aq j q=>simp at h
    |row j=>simp only[SV.dh];cases Nat.beq j id<;>rfl
    |_=>simp only[SV.dh,SV.dD];split<;>rename_i z<;>(first|rfl|(revert z;cases SV.mentions id _<;>intro z<;>cases z))
  |_=>rfl
 .cases l
def yX:∀{xs:List Operand} {B w:St},ni.iC B xs=some w->∀{x:Operand},x5 B x=false->∀{ty:TypeId} {a:AV},(bw P ty B x).bind (nj B)=some a->(bw P ty w x).bind (nj w)=some a:=by intro xs;induction xs with
 |nil=>intro B w q x _ ty a z;simp only[ni.iC,aW] at q;subst q;exact z
 |cons y xs D=>intro B w q x l ty a z;cases y with
  |tmp i=>
   simp only[ni.iC] at q;split at q
   .rename_i id I;cases F:B.dh id with
    |none=>rw[F] at q;cases q
    |some G=>rw[F] at q;exact D q (OM F l) (Qu F l z)
   .exact D q l z
  |const v=>exact D q l z
  |func f=>exact D q l z
  |global g=>exact D q l z
def tP {l q:St} {xs:List Operand} (h:ni.jV l xs=some q):ni.iC l xs=some q/\∀x∈xs,x5 l x=false:=by unfold ni.jV at h;cases w:xs.any (x5 l) with
 |true=>rw[w] at h;cases h
 |false=>
  rw[w] at h
  exact⟨h,λx B=>by cases z:x5 l x with
   |false=>rfl
   |true=>exact absurd z (by simpa using mD.1 w x B)⟩
def Eb {F w:St} {N:List Operand} (G:ni.jV F N=some w):∀{xs:List Operand} {z:List TypeId} {B:List AV},(∀x∈xs,x5 F x=false)->j8 P F xs z=some B->j8 P w xs z=some B:=by intro xs;induction xs with
 |nil=>intro z B _ l;exact l
 |cons x xs L=>
  intro z B q l;simp only[j8] at l⊢;split at l
  .rename_i v O I D;rw[yX (tP G).1 (q x ai) I,L (λy K=>q y (by simp[K])) D];exact l
  .cases l
def M9 {F w:St} {K:List Operand} (G:ni.jV F K=some w) {f:Operand} {g:Nat} {l:List AV} (B:bw P 0 F f=some (.pv (.fn g l))):bw P 0 w f=some (.pv (.fn g l)):=by
 have:=yX (P:=P) (tP G).1 (x:=f) (by cases f with
  |tmp i=>simp only[bw] at B;simp[x5,B]
  |_=>rfl) (ty:=0) (a:= .fn g l) (by rw[B];rfl)
 cases D:bw P 0 w f with
 |none=>rw[D] at this;cases this
 |some s=>rw[D] at this;simp only[gZ] at this;cases s with
  |pv v=>simp only[nj,aW] at this;rw[this]
  |row id=>simp only[nj] at this;obtain⟨I,_,z⟩:=dB.1 this;cases I<;>simp[Ob.val] at z
  |ag L=>simp only[nj,cu] at this;obtain⟨_,_,h⟩:=this;cases h
  |aq j q=>cases q with
   |full=>cases this
   |bs n=>cases this
   |nr i=>
    simp only[nj] at this;split at this
    .split at this
     .cases this
     .cases this
    .cases this
  |_=>cases this
def XR {o:Oper} {B w:St} (l:ni P h F0 o B=some w):∃S,Holds F0 S/\∀F,Holds F S->ni P h F o B=some w:=by cases Q:o.op with
 |call c=>cases K:c.callee with
  |value f=>
   have e1:∀F,ni P h F o B=(bif o.dst.any h.owns.contains then iS P h F B c f o.dst else bif o.dst.any h.stay.contains&&wide B c f then none else bif wide B c f then kG P h F B c f o.dst else bif c.args.toList.any (λx=>(qb h B x).isSome) then qD P h F B c f o.dst else
    match ni.jV B c.args.toList with
    |some w=>match bw P 0 w f,j8 P w c.args.toList c.argTypes.toList with
     |some (.pv (.fn g G)),some U=>match F g ((U++G).map .pv) [] with
      |some (r,[])=>bif c.args.toList.any (lZ w)|| !r.jT then none else some (w.set o.dst (.pv r))
      |_=>none
     |_,_=>none
    |none=>none):=λF=>by
    cases N:o.dst<;>simp only[ni,Q,K,N]<;>rfl
   rw[e1] at l;cases how:o.dst.any h.owns.contains with
   |true=>rw[how] at l;simp only[aj] at l;obtain⟨S,L,q⟩:=Sx l;exact⟨S,L,λF I=>by rw[e1,how];simp only[aj,q F I]⟩
   |false=>
   rw[how] at l;simp only[au] at l;cases D:(o.dst.any h.stay.contains&&wide B c f) with
   |true=>rw[D] at l;cases l
   |false=>
   rw[D] at l;simp only[au] at l;cases O:wide B c f with
   |true=>rw[O] at l;simp only[aj] at l;obtain⟨S,L,q⟩:=OW l;exact⟨S,L,λF I=>by rw[e1,how,D,O];simp only[aj,au,q F I]⟩
   |false=>
   rw[O] at l;simp only[au] at l;cases z:c.args.toList.any (λx=>(qb h B x).isSome) with
   |true=>rw[z] at l;simp only[aj] at l;obtain⟨S,L,q⟩:=SB l;exact⟨S,L,λF I=>by rw[e1,how,D,O,z];simp only[aj,au,q F I]⟩
   |false=>
    rw[z] at l;simp only[au] at l;split at l
    .rename_i st1 hp;split at l
     .rename_i g G U V R;split at l
      .rename_i r hr;refine⟨_,Holds.one hr,λF I=> ?_⟩;rw[e1,how,D,O,z];simp only[au,hp,V,R,I.get];exact l
      .cases l
     .cases l
    .cases l
  |builtin b=>exact⟨[],Holds.nil,λF _=>by cases N:o.dst<;>cases b<;>simp only[ni,Q,K,N] at l⊢<;>exact l⟩
  |invoke r m=>exact⟨[],Holds.nil,λF _=>by cases N:o.dst<;>simp only[ni,Q,K,N] at l⊢<;>exact l⟩
 |_=>exact⟨[],Holds.nil,λF _=>by rw[Z7 (F0:=F0) (λc K=>by rw[Q] at K;cases K) F];exact l⟩
def aaW {o:Oper} {z q:St} (D:step0 P h F0 o z=some q):∃S,Holds F0 S/\∀F,Holds F S->step0 P h F o z=some q:=by
 unfold step0 at D;split at D
 .rename_i v V;obtain⟨S,U,l⟩:=Td V;exact⟨S,U,λF K=>by simp only[step0,l F K];exact D⟩
 .rename_i V;have done:∀S,Holds F0 S->(∀F,Holds F S->ec P h F o z=none/\ni P h F o z=some q)->∃S,Holds F0 S/\∀F,Holds F S->step0 P h F o z=some q:=λS U l=>
   ⟨S,U,λF K=>by simp only[step0,(l F K).1];exact(l F K).2⟩
  have B:(∀F,ec P h F o z=ec P h F0 o z)->∃S,Holds F0 S/\∀F,Holds F S->step0 P h F o z=some q:=λhsame=>by obtain⟨S,U,l⟩:=XR D;exact done S U λF K=>⟨by rw[hsame F];exact V,l F K⟩
  cases L:o.op with
  |call c=>cases N:c.callee with
   |value f=>
    cases how:o.dst.any h.owns.contains with
    |true=>exact B λF=>by simp only[ec,L,N,how,aj]
    |false=>
    cases G:(o.dst.any h.stay.contains&&wide z c f) with
    |true=>cases hd:o.dst<;>(simp only[ni,L,N,hd] at D;rw[hd] at G how;rw[how,G] at D;cases D)
    |false=>
    cases w:(wide z c f||c.args.toList.any (λx=>(qb h z x).isSome)) with
    |true=>obtain⟨S,U,l⟩:=XR D;exact done S U λF K=>⟨by simp only[ec,L,N];rw[how,G,w];rfl,l F K⟩
    |false=>
     obtain⟨hwd,Q⟩:=kE.1 w
     have e1:∀F,ni P h F o z=(bif o.dst.any h.owns.contains then iS P h F z c f o.dst else bif o.dst.any h.stay.contains&&wide z c f then none else bif wide z c f then kG P h F z c f o.dst else bif c.args.toList.any (λx=>(qb h z x).isSome) then qD P h F z c f o.dst else
      match ni.jV z c.args.toList with
      |some q=>match bw P 0 q f,j8 P q c.args.toList c.argTypes.toList with
       |some (.pv (.fn g I)),some vs=>match F g ((vs++I).map .pv) [] with
        |some (r,[])=>bif c.args.toList.any (lZ q)|| !r.jT then none else some (q.set o.dst (.pv r))
        |_=>none
       |_,_=>none
      |none=>none):=λF=>by
      cases hd:o.dst<;>simp only[ni,L,N,hd]<;>rfl
     rw[e1,how,G,hwd,Q] at D;simp only[au] at D;split at D
     .rename_i st1 hp;split at D
      .rename_i g I vs hfn hvs;split at D
       .rename_i r hr;refine done _ (Holds.one hr) λF K=>⟨?_,?_⟩
        .simp only[ec,L,N];rw[how,G,w];simp only[au];split
         .rename_i g2 caps2 vs2 O R;have k1:=M9 hp O;rw[hfn] at k1;simp only[aW,SV.pv.injEq,AV.fn.injEq] at k1;obtain⟨rfl,rfl⟩:=k1;have k2:=Eb hp (tP hp).2 R;rw[hvs] at k2;injection k2 with k2;subst k2;simp only[ec,L,N] at V;rw[how,G,w] at V;simp only[au,O,R,hr] at V;rw[K.get];exact V
         .rfl
        .rw[e1,how,G,hwd,Q];simp only[au,hp,hfn,hvs,K.get];exact D
       .cases D
      .cases D
     .cases D
   |builtin b=>exact B λF=>by simp only[ec,L,N]
   |invoke r m=>exact B λF=>by simp only[ec,L,N]
  |makeFunc fn first I=>exact B λF=>by cases fn<;>simp only[ec,L]
  |_=>exact B λF=>by simp only[ec,L]
def UN {o:Oper} {w l:St} (q:step P h F0 o w=some l):∃S,Holds F0 S/\∀F,Holds F S->step P h F o w=some l:=by unfold step at q;obtain⟨I,z,B⟩:=dB.1 q;obtain⟨S,G,k⟩:=aaW B;exact⟨S,G,λF D=>by simp only[step,z,gZ,k F D]⟩
def Xj {z:Array Oper}:∀{l:List Oper} {B w:St},rR P h F0 z l B=some w->∃S,Holds F0 S/\∀F,Holds F S->rR P h F z l B=some w:=by intro l;induction l with
 |nil=>intro B w q;exact⟨[],Holds.nil,λF _=>q⟩
 |cons o l O=>
  intro B w q;simp only[rR] at q;split at q
  .rename_i b N;cases b with
   |true=>simp only[aj] at q;cases K:step P h F0 o B with
    |none=>rw[K] at q;cases q
    |some V=>rw[K] at q;obtain⟨Q,R,U⟩:=UN K;obtain⟨G,I,L⟩:=O q;exact⟨Q++G,R.append I,λF D=>by simp only[rR,N,aj,U F D.left,gZ];exact L F D.right⟩
   |false=>simp only[au] at q;obtain⟨G,I,L⟩:=O q;exact⟨G,I,λF D=>by simp only[rR,N,au];exact L F D⟩
  .cases q
def UI {L:Array Oper}:∀{l:List Oper} {i:Nat} {w:List (Nat×gz)} {N z:St},kQ P h F0 L i l w N=some z->∃S,Holds F0 S/\∀F,Holds F S->kQ P h F L i l w N=some z:=by intro l;induction l with
 |nil=>intro i w N z q;exact⟨[],Holds.nil,λF _=>q⟩
 |cons o l V=>
  intro i w N z q;simp only[kQ] at q;split at q
  .cases q
  .rename_i b U;cases b with
   |true=>simp only[aj] at q;cases O:(isF h N o&&(FF h o).isEmpty) with
    |true=>
     simp only[O,aj] at q;split at q
     .rename_i v hf;obtain⟨I,q⟩:=cg q;obtain⟨Q,R,k1⟩:=Td hf;obtain⟨D,G,K⟩:=V q;exact⟨Q++D,R.append G,λF B=>by simp only[kQ,U,aj,O,k1 F B.left,I];exact K F B.right⟩
     .cases q
    |false=>
     simp only[O,au] at q;split at q
     .rename_i st1 hs;obtain⟨I,q⟩:=cg q;obtain⟨Q,R,k1⟩:=UN hs;obtain⟨D,G,K⟩:=V q;exact⟨Q++D,R.append G,λF B=>by simp only[kQ,U,aj,O,au,k1 F B.left,I];exact K F B.right⟩
     .cases q
   |false=>simp only[au] at q;obtain⟨I,q⟩:=cg q;obtain⟨D,G,K⟩:=V q;exact⟨D,G,λF B=>by simp only[kQ,U,au,I,aj];exact K F B⟩
def E4 {n:Nat}:∀(c:Code) {G:St} {x:Ex×St},exec P h F0 n c G=some x->∃S,Holds F0 S/\∀F m,Holds F S->n<=m->exec P h F m c G=some x:=by intro c;induction c with
 |skip=>intro G x w;exact⟨[],Holds.nil,λF m _ _=>w⟩
 |label l=>intro G x w;exact⟨[],Holds.nil,λF m _ _=>w⟩
 |exit id=>intro G x w;exact⟨[],Holds.nil,λF m _ _=>w⟩
 |ret=>intro G x w;exact⟨[],Holds.nil,λF m _ _=>w⟩
 |region id ops draw=>intro G x w;simp only[exec] at w;obtain⟨st1,R,w⟩:=dB.1 w;cases draw with
  |true=>simp only[aj] at w;obtain⟨hb,w⟩:=cg w;simp only[cu] at w;obtain⟨s,hr,rfl⟩:=w;obtain⟨S,I,k⟩:=UI hr;exact⟨S,I,λF m B _=>by simp only[exec,R,gZ,aj,hb,k F B,ey]⟩
  |false=>simp only[au,cu] at w;obtain⟨s,hr,rfl⟩:=w;obtain⟨S,I,k⟩:=Xj hr;exact⟨S,I,λF m B _=>by simp only[exec,R,gZ,au,k F B,ey]⟩
 |seq a b O Q=>
  intro G x w;simp only[exec] at w;cases L:find h.blk (fG a) with
  |some z=>simp only[L] at w;exact⟨[],Holds.nil,λF m _ _=>by simp only[exec,L];exact w⟩
  |none=>
  simp only[L] at w;split at w
  .rename_i st1 ha;obtain⟨V,h1,k1⟩:=O ha;obtain⟨S2,h2,k2⟩:=Q w;exact⟨V++S2,h1.append h2,λF m B D=>by simp only[exec,L,k1 F m B.left D];exact k2 F m B.right D⟩
  .rename_i N;obtain⟨V,h1,k1⟩:=O w;refine⟨V,h1,λF m B D=> ?_⟩;simp only[exec,L,k1 F m B D];obtain⟨e,s⟩:=x;cases e with
   |normal=>exact absurd w (N s)
   |exit j=>rfl
   |ret=>rfl
 |cond c a b O Q=>
  intro G x w;simp only[exec] at w;split at w
  .rename_i t hc;cases t with
   |true=>obtain⟨S,I,k⟩:=O w;exact⟨S,I,λF m B D=>by simp only[exec,hc,aj];exact k F m B D⟩
   |false=>obtain⟨S,I,k⟩:=Q w;exact⟨S,I,λF m B D=>by simp only[exec,hc,au];exact k F m B D⟩
  .cases w
 |block id c ih=>
  intro G x w;simp only[exec] at w;split at w
  .rename_i j s hc;obtain⟨S,I,k⟩:=ih hc;exact⟨S,I,λF m B D=>by simp only[exec,k F m B D];exact w⟩
  .rename_i N;obtain⟨S,I,k⟩:=ih w;refine⟨S,I,λF m B D=> ?_⟩;simp only[exec,k F m B D];obtain⟨e,s⟩:=x;cases e with
   |normal=>rfl
   |exit j=>exact absurd w (N j s)
   |ret=>rfl
 |loop c ih=>
  intro G x w;simp only[exec] at w;have key:∀(q:Nat) {G:St} {x:Ex×St},iter h (fG c) (exec P h F0 n c) q G=some x->∃S,Holds F0 S/\∀F m U,Holds F S->n<=m->q<=U->iter h (fG c) (exec P h F m c) U G=some x:=by intro q;induction q with
   |zero=>intro G x w;simp[iter] at w
   |succ q ihq=>
    intro G x w;simp only[iter] at w;split at w
    .rename_i st1 hc;obtain⟨V,h1,k1⟩:=ih hc;obtain⟨S2,h2,k2⟩:=ihq w;refine⟨V++S2,h1.append h2,λF m U B D hq=> ?_⟩;obtain⟨K,rfl⟩:∃K,U=K+1:=⟨U-1,af⟩
     simp only[iter,k1 F m B.left D];exact k2 F m K B.right D af
    .rename_i N;obtain⟨V,h1,k1⟩:=ih w;refine⟨V,h1,λF m U B D hq=> ?_⟩;obtain⟨K,rfl⟩:∃K,U=K+1:=⟨U-1,af⟩
     simp only[iter,k1 F m B D];obtain⟨e,s⟩:=x;cases e with
     |normal=>exact absurd w (N s)
     |exit j=>rfl
     |ret=>rfl
  obtain⟨S,I,k⟩:=key n w;exact⟨S,I,λF m B D=>by simp only[exec];exact k F m m B D D⟩
 |scope c ih=>intro G x w;simp only[exec] at w;obtain⟨S,I,k⟩:=ih w;exact⟨S,I,λF m B D=>by simp only[exec];exact k F m B D⟩
 |rangeFunc f ps a b O Q=>intro G x w;simp[exec] at w
 |goto l=>intro G x w;simp[exec] at w
 |refuse s=>intro G x w;simp[exec] at w
theorem tM {n m:Nat} (w:n<=m) {c:Code} {l:St} {x:Ex×St} (z:exec P h F0 n c l=some x):exec P h F0 m c l=some x:=by obtain⟨S,q,k⟩:=E4 c z;exact k F0 m q w
end
section
variable {P:Program} {H:Nat->Hint} {gT:eX}
def Vz:∀(n:Nat) {f:Nat} {args:List SV} {cM:List (Nat×Ob)} {r:AV×List (Nat×Ob)},rj P H gT n f args cM=some r->rj P H gT (n+1) f args cM=some r:=by intro n;induction n with
 |zero=>intro f args cM r l;simp[rj] at l
 |succ n K=>
  intro f args cM r l;rw[rj] at l⊢;dsimp only at l⊢;split at l
  .rename_i x w;(try simp only[w]);exact l
  .rename_i w
   (try simp only[w])
   split at l
   .rename_i fn F
    (try simp only[F])
    split at l
    .rename_i c B
     (try simp only[B])
     obtain⟨D,l⟩:=cg l;rw[D];simp only[aj];split at l
     .rename_i e L I;obtain⟨S,z,k⟩:=E4 c I;have q:Holds (rj P H gT (n+1)) S:=λs G=>K (z s G)
      rw[k _ (n+1) q af];exact l
     .cases l
    .cases l
   .cases l
def wg {n m:Nat} (l:n<=m) {f:Nat} {args:List SV} {cM:List (Nat×Ob)} {r:AV×List (Nat×Ob)} (q:rj P H gT n f args cM=some r):rj P H gT m f args cM=some r:=by induction l with
 |refl=>exact q
 |step _ w=>exact Vz _ w
noncomputable def run (P:Program) (H:Nat->Hint) (gT:eX):eX:=λf args cM=>
 open Classical in if h : ∃ r n, rj P H gT n f args cM = some r then some h.choose else none
def Jy {f:Nat} {args:List SV} {cM:List (Nat×Ob)} {r:AV×List (Nat×Ob)}:run P H gT f args cM=some r↔∃n,rj P H gT n f args cM=some r:=by
 constructor
 .intro q;unfold run at q;split at q
  .rename_i l;injection q with q;rw[<-q];exact l.choose_spec
  .cases q
 .rintro⟨n,z⟩;unfold run;have l:∃r n,rj P H gT n f args cM=some r:=⟨r,n,z⟩
  rw[lC l];obtain⟨m,D⟩:=l.choose_spec;have B:=wg (vf n m) z;have w:=wg (zq n m) D;rw[B] at w;exact w.symm
def aan {S:R3} (q:Holds (run P H gT) S):∃n,Holds (rj P H gT n) S:=by induction S with
 |nil=>exact⟨0,Holds.nil⟩
 |cons s S B=>
  obtain⟨n,z⟩:=B λt l=>q t (dF _ l)
  obtain⟨m,w⟩:=Jy.1 (q s (iN ..));refine⟨max n m,λt l=> ?_⟩;cases aJ.1 l with
  |inl e=>subst e;exact wg (zq ..) w
  |inr e=>exact wg (vf ..) (z t e)
def IK {f:Nat} {fn:Func} {c:Code} {args:List SV} {cM:List (Nat×Ob)} {r:AV×List (Nat×Ob)} {n:Nat} {e:Ex} {q:St} (I:gT f args cM=none)
  (F:P.funcs[f]? =some fn) (z:fn.body=some c) (B:(Nat.ble args.length fn.ntmps&&(cM.map (·.1)).all (λi=> !(iJ i)||giv i))=true)
  (L:exec P (H f) (run P H gT) n c { env:=find (zU 0 args),ob:=find cM }=some (e,q)) (D:ach P (H f).own fn cM e q=some r):run P H gT f args cM=some r:=by
 obtain⟨S,w,k⟩:=E4 c L;obtain⟨m,G⟩:=aan w;have l:Holds (rj P H gT (max n m)) S:=λs K=>wg (zq ..) (G s K)
 refine Jy.2 ⟨max n m+1,?_⟩;simp only[rj,I,F,z,B,aj,k _ (max n m) l (vf ..)];exact D
def lS {f:Nat} {args:List SV} {cM:List (Nat×Ob)} {r:AV×List (Nat×Ob)} (l:gT f args cM=some r):run P H gT f args cM=some r:=
 Jy.2 ⟨1,by simp only[rj,l]⟩
def Ss {q:Qp} {B:Mu} (D:Ea P=true) (G:∀f fn c,P.funcs[f]? =some fn->fn.body=some c->rV q B P (H f) fn.ntmps c) (F:iD q B P gT):∀n,iD q B P (rj P H gT n):=by intro n;induction n with
 |zero=>intro g args cM r z l;simp[rj] at l
 |succ n ih=>
  intro g args cM r z l;simp only[rj] at l;split at l
  .rename_i x V;injection l with l;subst l;exact F g args cM r z V
  .split at l
   .rename_i fn K;split at l
    .rename_i c S;obtain⟨U,l⟩:=cg l;split at l
     .rename_i e st hx;refine λw μ I us L N O Q R=> .inl ⟨?_,Vv D (G g) ih K S U hx l w μ I us L N O Q R⟩
      simp only[Ea,aT] at D;have:=fD D.2;have:=(gm.1 K).1;omega
     .cases l
    .cases l
   .cases l
def Om {q:Qp} {B:Mu} (D:Ea P=true) (z:∀f fn c,P.funcs[f]? =some fn->fn.body=some c->rV q B P (H f) fn.ntmps c) (l:iD q B P gT):iD q B P (run P H gT):=by intro g args cM r w G;obtain⟨n,F⟩:=Jy.1 G;exact Ss D z l n g args cM r w F
end
