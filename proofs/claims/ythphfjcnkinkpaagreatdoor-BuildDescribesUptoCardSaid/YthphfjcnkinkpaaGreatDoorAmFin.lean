/- THE ABSTRACT MACHINE. -/
import Derived.Test.YthphfjcnkinkpaaGreatDoorAmCall
set_option linter.all false
namespace Go.AM
open Go.RowKit
def cv {R:Type} {b:Bool} {x:Option R} {r:R} (l:(bif b then x else none)=some r):b=true/\x=some r:=by grind
abbrev Rv:=List (Nat×List SV×List (Nat×Ob)×(AV×List (Nat×Ob)))
def Holds (F:eN) (S:Rv):Prop:=∀s∈S,F s.1 s.2.1 s.2.2.1=some s.2.2.2
def Holds.nil {F:eN}:Holds F []:=λ_ h=>by cases h
def Holds.append {F:eN} {S T:Rv} (h:Holds F S) (k:Holds F T):Holds F (S++T):=λs l=>(bu.1 l).elim (h s) (k s)
def Holds.left {F:eN} {S T:Rv} (h:Holds F (S++T)):Holds F S:=λs l=>h s (bu.2 (.inl l))
def Holds.right {F:eN} {S T:Rv} (h:Holds F (S++T)):Holds F T:=λs l=>h s (bu.2 (.inr l))
def Holds.one {F:eN} {g:Nat} {args:List SV} {cG:List (Nat×Ob)} {r:AV×List (Nat×Ob)} (h:F g args cG=some r):Holds F [(g,args,cG,r)]:=λs l=>by simp_all
def Holds.get {F:eN} {g:Nat} {args:List SV} {cG:List (Nat×Ob)} {r:AV×List (Nat×Ob)} (h:Holds F [(g,args,cG,r)]):F g args cG=some r:=h _ (cQ.2 rfl)
section
variable {P:Program} {h:Hint} {F0:eN}
def U3 {c:Call} {f:Operand} {w:St} {r:AV} (l:tf P h F0 w c f=some r):∃S,Holds F0 S/\∀F,Holds F S->tf P h F w c f=some r:=by
 unfold tf at l;split at l
 .rename_i g args B;obtain⟨D,l⟩:=cv l;split at l
  .rename_i cG G;split at l
   .rename_i K q I;refine⟨_,Holds.one I,λF z=> ?_⟩;simp[tf,B,D,ak,G,z.get];omega
   simp_all
  simp_all
 simp_all
def SB {o:Oper} {w:St} {v:SV} (l:ey P h F0 o w=some v):∃S,Holds F0 S/\∀F,Holds F S->ey P h F o w=some v:=by cases G:o.op with
 |call c=>cases D:c.callee with
  |value f=>
   simp only[ey,G,D] at l;cases how:o.dst.any h.owns.contains with
   |true=>simp_all
   |false=>
   rw[how] at l;simp only[aA] at l;cases z:(o.dst.any h.stay.contains&&wide w c f) with
   |true=>rw[z] at l;simp only[ak,cH] at l;obtain⟨r,I,rfl⟩:=l;simp_all[U3,ey]
   |false=>
   cases K:(wide w c f||c.args.toList.any (λx=>(pK h w x).isSome)) with
   |true=>grind
   |false=>
    split at l
    .rename_i g q O N B;split at l
     .rename_i r I;refine⟨_,Holds.one I,λF L=> ?_⟩;simp only[ey,G,D,N,B,L.get];grind
     simp_all
    simp_all
  |builtin b=>exact⟨[],Holds.nil,λF _=>by simp_all[ey]⟩
  |invoke r m=>exact⟨[],Holds.nil,λF _=>by simp_all[ey]⟩
 |makeFunc fn first q=>exact⟨[],Holds.nil,λF _=>by grind[ey]⟩
 |_=>exact⟨[],Holds.nil,λF _=>by simp_all[ey]⟩
def N8 {z:St} {g:Nat} {args:List SV} {w:Nat->Nat} {d:Option Nat} {x:St} (l:kj F0 z g args w d=some x):∃S,Holds F0 S/\∀F,Holds F S->kj F z g args w d=some x:=by
 obtain⟨D,l⟩:=cv l;split at l
 .rename_i cG G;split at l
  .rename_i r q I;refine⟨_,Holds.one I,λF B=> ?_⟩;simp only[kj,D,ak,G,B.get];omega
  simp_all
 simp_all
def Y9 {c:Call} {f:Operand} {w:St} {d:Nat} {q:List Nat} {x:St} (l:CP P h F0 w c f d q=some x):∃S,Holds F0 S/\∀F,Holds F S->CP P h F w c f d q=some x:=by
 unfold CP at l;simp at l;split at l
 .obtain⟨B,l⟩:=cv l;obtain⟨S,z,G⟩:=N8 l;refine⟨S,z,λF D=> ?_⟩;simp[CP,B];simp_all
 simp_all
def RZ {c:Call} {f:Operand} {I:St} {d:Option Nat} {x:St} (q:iI P h F0 I c f d=some x):∃S,Holds F0 S/\∀F,Holds F S->iI P h F I c f d=some x:=by
 unfold iI at q;split at q
 .split at q
  .simp_all[Y9,iI]
  rename_i l;split at q
  .rename_i g D N G w;split at q
   .rename_i e L xs B;refine⟨_,Holds.one B,λF z=> ?_⟩;simp only[iI,l,G,w,z.get];omega
   .rename_i K B;refine⟨_,Holds.one B,λF z=> ?_⟩;simp only[iI,l,G,w,z.get];omega
   simp_all
  simp_all
 simp_all
def R3 {c:Call} {f:Operand} {B:St} {d:Option Nat} {x:St} (l:qg P h F0 B c f d=some x):∃S,Holds F0 S/\∀F,Holds F S->qg P h F B c f d=some x:=by
 unfold qg at l;split at l
 .rename_i g z R id G w;split at l
  .rename_i e Q xs q;split at l
   .rename_i r O N K L I;refine⟨_,Holds.one I,λF D=> ?_⟩;simp[qg,G,w,q,D.get];omega
   simp_all
  simp_all
 simp_all
def N9 {c:Call} {f:Operand} {B:St} {d:Option Nat} {x:St} (l:jT P h F0 B c f d=some x):∃S,Holds F0 S/\∀F,Holds F S->jT P h F B c f d=some x:=by
 unfold jT at l;split at l
 .rename_i g z N I q;obtain⟨G,l⟩:=cv l;split at l
  .rename_i cG K;split at l
   .rename_i r w L;refine⟨_,Holds.one L,λF D=> ?_⟩;simp only[jT,I,q,G,ak,K,D.get];omega
   simp_all
  simp_all
 simp_all
theorem Zh {o:Oper} {l:St} (q:∀c,o.op≠ .call c) (F:eN):nC P h F o l=nC P h F0 o l:=by grind[nC]
theorem PD {F w:St} {id:Nat} (D:F.dy id=some w) {x:Operand} (z:yX F x=false) {ty:TypeId} {a:AV} (l:(bP P ty F x).bind (nX F)=some a):(bP P ty w x).bind (nX w)=some a:=by
 unfold St.dy at D;split at D
 .injection D with D;subst D;cases x with
  |tmp i=>simp[bP] at l⊢;cases G:F.env i with
   |none=>simp_all
   |some s=>rw[G] at l;simp at l⊢;cases s with
    |pv v=>assumption
    |row j=>simp[SV.dy];cases hj:Nat.beq j _ with
     |true=>simp_all[nX]
     |false=>
      have I:id≠j:=λe=>by simp_all
      simp[aA,nX,bZ _ _ I];obtain⟨R,B,N⟩:=dA.1 l;rw[B];cases R with
      |box t cells=>assumption
      |row L U K=>assumption
      |mp k' L Q V=>assumption
      |rn L S k' e2 s2 K ys'=>assumption
      |lp S=>assumption
    |ag cs=>simp[yX,G] at z
    |aq j q=>simp[yX,G] at z
    |_=>cases l
  |const v=>simp[bP] at l⊢;cases O:ofConst P _ v<;>simp[O,nX] at l⊢;omega
  |func f=>assumption
  |global g=>assumption
 simp_all
theorem NY {z w:St} {id:Nat} (l:z.dy id=some w) {x:Operand} (h:yX z x=false):yX w x=false:=by
 unfold St.dy at l;split at l
 .injection l with l;subst l;cases x with
  |tmp i=>simp[yX] at h⊢;cases B:z.env i with
   |none=>rfl
   |some s=>rw[B] at h;cases s with
    |ag D=>simp at h
    |aq j q=>simp at h
    |row j=>grind[SV.dy]
    |_=>grind[SV.dy,SV.dH]
  |_=>rfl
 simp_all
def yE:∀{xs:List Operand} {w l:St},nC.iy w xs=some l->∀{x:Operand},yX w x=false->∀{ty:TypeId} {a:AV},(bP P ty w x).bind (nX w)=some a->(bP P ty l x).bind (nX l)=some a:=by intro xs;induction xs with
 |nil=>simp_all[nC.iy]
 |cons y xs D=>intro w l z x q ty a B;cases y with
  |tmp i=>
   simp[nC.iy] at z;split at z
   .rename_i id I;cases G:w.dy id with
    |none=>simp_all
    |some F=>grind[NY,PD]
   grind
  |const v=>exact D z q B
  |func f=>exact D z q B
  |global g=>exact D z q B
def tA {q l:St} {xs:List Operand} (h:nC.jK q xs=some l):nC.iy q xs=some l/\∀x∈xs,yX q x=false:=by grind[nC.jK]
def DL {F q:St} {N:List Operand} (G:nC.jK F N=some q):∀{xs:List Operand} {z:List TypeId} {B:List AV},(∀x∈xs,yX F x=false)->jO P F xs z=some B->jO P q xs z=some B:=by intro xs;induction xs with
 |nil=>intro z B _ w;exact w
 |cons x xs L=>
  intro z B l w;simp[jO] at w⊢;split at w
  .rename_i v O I D;rw[yE (tA G).1 (l x ai) I,L (λy K=>l y (by simp[K])) D];omega
  simp_all
def Mp {B z:St} {K:List Operand} (G:nC.jK B K=some z) {f:Operand} {g:Nat} {l:List AV} (F:bP P 0 B f=some (.pv (.fn g l))):bP P 0 z f=some (.pv (.fn g l)):=by
 have:=yE (tA G).1 (x:=f) (by cases f with
  |tmp i=>simp_all[bP,yX]
  |_=>rfl) (by rw[F];rfl)
 cases D:bP P 0 _ f with
 |none=>simp_all
 |some s=>rw[D] at this;simp at this;cases s with
  |pv v=>simp_all[nX]
  |row id=>obtain⟨I,_,w⟩:=dA.1 this;cases I<;>simp[Ob.val] at w
  |ag L=>simp_all[nX]
  |aq j q=>cases q with
   |full=>cases this
   |bs n=>cases this
   |nr i=>grind[nX]
  |_=>cases this
theorem Xl {o:Oper} {q l:St} (w:nC P h F0 o q=some l):∃S,Holds F0 S/\∀F,Holds F S->nC P h F o q=some l:=by cases R:o.op with
 |call c=>cases N:c.callee with
  |value f=>
   have e1:∀F,nC P h F o q=(bif o.dst.any h.owns.contains then iI P h F q c f o.dst else bif o.dst.any h.stay.contains&&wide q c f then none else bif wide q c f then jT P h F q c f o.dst else bif c.args.toList.any (λx=>(pK h q x).isSome) then qg P h F q c f o.dst else
    match nC.jK q c.args.toList with
    |some l=>match bP P 0 l f,jO P l c.args.toList c.argTypes.toList with
     |some (.pv (.fn g z)),some K=>match F g ((K++z).map .pv) [] with
      |some (r,[])=>bif c.args.toList.any (lu l)|| !r.jJ then none else some (l.set o.dst (.pv r))
      |_=>none
     |_,_=>none
    |none=>none):=λF=>by
    cases O:o.dst<;>simp only[nC,R,N,O]<;>rfl
   rw[e1] at w;cases how:o.dst.any h.owns.contains with
   |true=>simp_all[ak,RZ]
   |false=>
   rw[how] at w;simp only[aA] at w;cases D:(o.dst.any h.stay.contains&&wide q c f) with
   |true=>simp_all
   |false=>
   rw[D] at w;simp only[aA] at w;cases I:wide q c f with
   |true=>simp_all[ak,N9,aA]
   |false=>
   rw[I] at w;simp only[aA] at w;cases B:c.args.toList.any (λx=>(pK h q x).isSome) with
   |true=>simp_all[ak,R3,aA]
   |false=>
    rw[B] at w;simp only[aA] at w;split at w
    .rename_i st1 U;split at w
     .rename_i g z K Q G;split at w
      .rename_i r V;refine⟨_,Holds.one V,λF L=> ?_⟩;rw[e1,how,D,I,B];simp only[aA,U,Q,G,L.get];omega
      simp_all
     simp_all
    simp_all
  |builtin b=>exact⟨[],Holds.nil,λF _=>by grind[nC]⟩
  |invoke r m=>simp_all[nC]
 |_=>exact⟨[],Holds.nil,λF _=>by grind[Zh]⟩
def Z6 {o:Oper} {z q:St} (D:step0 P h F0 o z=some q):∃S,Holds F0 S/\∀F,Holds F S->step0 P h F o z=some q:=by
 unfold step0 at D;split at D
 .rename_i v V;obtain⟨S,U,l⟩:=SB V;exact⟨S,U,λF K=>by simp only[step0,l F K];exact D⟩
 .rename_i V;have done:∀S,Holds F0 S->(∀F,Holds F S->ey P h F o z=none/\nC P h F o z=some q)->∃S,Holds F0 S/\∀F,Holds F S->step0 P h F o z=some q:=λS U l=>
   ⟨S,U,λF K=>by simp only[step0,(l F K).1];exact(l F K).2⟩
  have B:(∀F,ey P h F o z=ey P h F0 o z)->∃S,Holds F0 S/\∀F,Holds F S->step0 P h F o z=some q:=λhsame=>by obtain⟨S,U,l⟩:=Xl D;exact done S U λF K=>⟨by rw[hsame F];exact V,l F K⟩
  cases L:o.op with
  |call c=>cases N:c.callee with
   |value f=>
    cases how:o.dst.any h.owns.contains with
    |true=>exact B λF=>by simp only[ey,L,N,how,ak]
    |false=>
    cases G:(o.dst.any h.stay.contains&&wide z c f) with
    |true=>cases hd:o.dst<;>(simp only[nC,L,N,hd] at D;rw[hd] at G how;rw[how,G] at D;cases D)
    |false=>
    cases w:(wide z c f||c.args.toList.any (λx=>(pK h z x).isSome)) with
    |true=>obtain⟨S,U,l⟩:=Xl D;exact done S U λF K=>⟨by simp only[ey,L,N];rw[how,G,w];rfl,l F K⟩
    |false=>
     obtain⟨ZA,Q⟩:=gi.1 w
     have e1:∀F,nC P h F o z=(bif o.dst.any h.owns.contains then iI P h F z c f o.dst else bif o.dst.any h.stay.contains&&wide z c f then none else bif wide z c f then jT P h F z c f o.dst else bif c.args.toList.any (λx=>(pK h z x).isSome) then qg P h F z c f o.dst else
      match nC.jK z c.args.toList with
      |some q=>match bP P 0 q f,jO P q c.args.toList c.argTypes.toList with
       |some (.pv (.fn g I)),some vs=>match F g ((vs++I).map .pv) [] with
        |some (r,[])=>bif c.args.toList.any (lu q)|| !r.jJ then none else some (q.set o.dst (.pv r))
        |_=>none
       |_,_=>none
      |none=>none):=λF=>by
      cases hd:o.dst<;>simp only[nC,L,N,hd]<;>rfl
     rw[e1,how,G,ZA,Q] at D;simp only[aA] at D;split at D
     .rename_i st1 hp;split at D
      .rename_i g I vs hfn hvs;split at D
       .rename_i r hr;refine done _ (Holds.one hr) λF K=>⟨?_,?_⟩
        .simp only[ey,L,N];rw[how,G,w];simp only[aA];split
         .rename_i g2 caps2 vs2 O R;have k1:=Mp hp O;rw[hfn] at k1;simp only[bq,SV.pv.injEq,AV.fn.injEq] at k1;obtain⟨rfl,rfl⟩:=k1;have k2:=DL hp (tA hp).2 R;rw[hvs] at k2;injection k2 with k2;subst k2;simp only[ey,L,N] at V;rw[how,G,w] at V;simp only[aA,O,R,hr] at V;rw[K.get];exact V
         .rfl
        .rw[e1,how,G,ZA,Q];simp only[aA,hp,hfn,hvs,K.get];exact D
       .cases D
      .cases D
     .cases D
   |builtin b=>exact B λF=>by simp only[ey,L,N]
   |invoke r m=>exact B λF=>by simp only[ey,L,N]
  |makeFunc fn first I=>exact B λF=>by cases fn<;>simp only[ey,L]
  |_=>exact B λF=>by simp only[ey,L]
def Ua {o:Oper} {w l:St} (q:step P h F0 o w=some l):∃S,Holds F0 S/\∀F,Holds F S->step P h F o w=some l:=by unfold step at q;obtain⟨I,z,B⟩:=dA.1 q;obtain⟨S,G,k⟩:=Z6 B;exact⟨S,G,λF D=>by simp only[step,z,kA,k F D]⟩
def WH {z:Array Oper}:∀{l:List Oper} {B w:St},qW P h F0 z l B=some w->∃S,Holds F0 S/\∀F,Holds F S->qW P h F z l B=some w:=by intro l;induction l with
 |nil=>intro B w q;exact⟨[],Holds.nil,λF _=>q⟩
 |cons o l O=>
  intro B w q;simp only[qW] at q;split at q
  .rename_i b N;cases b with
   |true=>simp only[ak] at q;cases K:step P h F0 o B with
    |none=>rw[K] at q;cases q
    |some V=>rw[K] at q;obtain⟨Q,R,U⟩:=Ua K;obtain⟨G,I,L⟩:=O q;exact⟨Q++G,R.append I,λF D=>by simp only[qW,N,ak,U F D.left,kA];exact L F D.right⟩
   |false=>simp only[aA] at q;obtain⟨G,I,L⟩:=O q;exact⟨G,I,λF D=>by simp only[qW,N,aA];exact L F D⟩
  .cases q
def T4 {L:Array Oper}:∀{l:List Oper} {i:Nat} {w:List (Nat×gw)} {N z:St},j0 P h F0 L i l w N=some z->∃S,Holds F0 S/\∀F,Holds F S->j0 P h F L i l w N=some z:=by intro l;induction l with
 |nil=>intro i w N z q;exact⟨[],Holds.nil,λF _=>q⟩
 |cons o l V=>
  intro i w N z q;simp only[j0] at q;split at q
  .cases q
  .rename_i b U;cases b with
   |true=>simp only[ak] at q;cases O:(isF h N o&&(E7 h o).isEmpty) with
    |true=>
     simp only[O,ak] at q;split at q
     .rename_i v hf;obtain⟨I,q⟩:=cv q;obtain⟨Q,R,k1⟩:=SB hf;obtain⟨D,G,K⟩:=V q;exact⟨Q++D,R.append G,λF B=>by simp only[j0,U,ak,O,k1 F B.left,I];exact K F B.right⟩
     .cases q
    |false=>
     simp only[O,aA] at q;split at q
     .rename_i st1 hs;obtain⟨I,q⟩:=cv q;obtain⟨Q,R,k1⟩:=Ua hs;obtain⟨D,G,K⟩:=V q;exact⟨Q++D,R.append G,λF B=>by simp only[j0,U,ak,O,aA,k1 F B.left,I];exact K F B.right⟩
     .cases q
   |false=>simp only[aA] at q;obtain⟨I,q⟩:=cv q;obtain⟨D,G,K⟩:=V q;exact⟨D,G,λF B=>by simp only[j0,U,aA,I,ak];exact K F B⟩
def Ew {n:Nat}:∀(c:Code) {G:St} {x:Ex×St},exec P h F0 n c G=some x->∃S,Holds F0 S/\∀F m,Holds F S->n<=m->exec P h F m c G=some x:=by intro c;induction c with
 |skip=>intro G x w;exact⟨[],Holds.nil,λF m _ _=>w⟩
 |label l=>intro G x w;exact⟨[],Holds.nil,λF m _ _=>w⟩
 |exit id=>intro G x w;exact⟨[],Holds.nil,λF m _ _=>w⟩
 |ret=>intro G x w;exact⟨[],Holds.nil,λF m _ _=>w⟩
 |region id ops draw=>intro G x w;simp only[exec] at w;obtain⟨st1,R,w⟩:=dA.1 w;cases draw with
  |true=>simp only[ak] at w;obtain⟨hb,w⟩:=cv w;simp only[cH] at w;obtain⟨s,hr,rfl⟩:=w;obtain⟨S,I,k⟩:=T4 hr;exact⟨S,I,λF m B _=>by simp only[exec,R,kA,ak,hb,k F B,ff]⟩
  |false=>simp only[aA,cH] at w;obtain⟨s,hr,rfl⟩:=w;obtain⟨S,I,k⟩:=WH hr;exact⟨S,I,λF m B _=>by simp only[exec,R,kA,aA,k F B,ff]⟩
 |seq a b O Q=>
  intro G x w;simp only[exec] at w;cases L:find h.blk (fk a) with
  |some z=>simp only[L] at w;exact⟨[],Holds.nil,λF m _ _=>by simp only[exec,L];exact w⟩
  |none=>
  simp only[L] at w;split at w
  .rename_i st1 ha;obtain⟨V,h1,k1⟩:=O ha;obtain⟨S2,h2,k2⟩:=Q w;exact⟨V++S2,h1.append h2,λF m B D=>by simp only[exec,L,k1 F m B.left D];exact k2 F m B.right D⟩
  .rename_i N;obtain⟨V,h1,k1⟩:=O w;refine⟨V,h1,λF m B D=> ?_⟩;simp only[exec,L,k1 F m B D];obtain⟨e,s⟩:=x;cases e with
   |normal=>exact absurd w (N s)
   |exit j=>rfl
   |ret=>rfl
 |cond c a b O Q=>
  intro G x w;simp only[exec] at w;split at w
  .rename_i t hc;cases t with
   |true=>obtain⟨S,I,k⟩:=O w;exact⟨S,I,λF m B D=>by simp only[exec,hc,ak];exact k F m B D⟩
   |false=>obtain⟨S,I,k⟩:=Q w;exact⟨S,I,λF m B D=>by simp only[exec,hc,aA];exact k F m B D⟩
  .cases w
 |block id c ih=>
  intro G x w;simp only[exec] at w;split at w
  .rename_i j s hc;obtain⟨S,I,k⟩:=ih hc;exact⟨S,I,λF m B D=>by simp only[exec,k F m B D];exact w⟩
  .rename_i N;obtain⟨S,I,k⟩:=ih w;refine⟨S,I,λF m B D=> ?_⟩;simp only[exec,k F m B D];obtain⟨e,s⟩:=x;cases e with
   |normal=>rfl
   |exit j=>exact absurd w (N j s)
   |ret=>rfl
 |loop c ih=>
  intro G x w;simp only[exec] at w;have key:∀(q:Nat) {G:St} {x:Ex×St},iter h (fk c) (exec P h F0 n c) q G=some x->∃S,Holds F0 S/\∀F m U,Holds F S->n<=m->q<=U->iter h (fk c) (exec P h F m c) U G=some x:=by intro q;induction q with
   |zero=>intro G x w;simp[iter] at w
   |succ q ihq=>
    intro G x w;simp only[iter] at w;split at w
    .rename_i st1 hc;obtain⟨V,h1,k1⟩:=ih hc;obtain⟨S2,h2,k2⟩:=ihq w;refine⟨V++S2,h1.append h2,λF m U B D hq=> ?_⟩;obtain⟨K,rfl⟩:∃K,U=K+1:=⟨U-1,af⟩
     simp only[iter,k1 F m B.left D];exact k2 F m K B.right D af
    .rename_i N;obtain⟨V,h1,k1⟩:=ih w;refine⟨V,h1,λF m U B D hq=> ?_⟩;obtain⟨K,rfl⟩:∃K,U=K+1:=⟨U-1,af⟩
     simp only[iter,k1 F m B D];obtain⟨e,s⟩:=x;cases e with
     |normal=>exact absurd w (N s)
     |exit j=>rfl
     |ret=>rfl
  obtain⟨S,I,k⟩:=key n w;exact⟨S,I,λF m B D=>by simp only[exec];exact k F m m B D D⟩
 |scope c ih=>intro G x w;simp only[exec] at w;obtain⟨S,I,k⟩:=ih w;exact⟨S,I,λF m B D=>by simp only[exec];exact k F m B D⟩
 |rangeFunc f ps a b O Q=>intro G x w;simp[exec] at w
 |goto l=>intro G x w;simp[exec] at w
 |refuse s=>intro G x w;simp[exec] at w
theorem tq {n m:Nat} (w:n<=m) {c:Code} {l:St} {x:Ex×St} (z:exec P h F0 n c l=some x):exec P h F0 m c l=some x:=by obtain⟨S,q,k⟩:=Ew c z;exact k F0 m q w
end
section
variable {P:Program} {H:Nat->Hint} {gR:eN}
def U1:∀(n:Nat) {f:Nat} {args:List SV} {cG:List (Nat×Ob)} {r:AV×List (Nat×Ob)},qB P H gR n f args cG=some r->qB P H gR (n+1) f args cG=some r:=by intro n;induction n with
 |zero=>intro f args cG r l;simp[qB] at l
 |succ n K=>
  intro f args cG r l;rw[qB] at l⊢;dsimp only at l⊢;split at l
  .rename_i x w;(try simp only[w]);exact l
  .rename_i w
   (try simp only[w])
   split at l
   .rename_i fn F
    (try simp only[F])
    split at l
    .rename_i c B
     (try simp only[B])
     obtain⟨D,l⟩:=cv l;rw[D];simp only[ak];split at l
     .rename_i e L I;obtain⟨S,z,k⟩:=Ew c I;have q:Holds (qB P H gR (n+1)) S:=λs G=>K (z s G)
      rw[k _ (n+1) q af];exact l
     .cases l
    .cases l
   .cases l
def vL {n m:Nat} (l:n<=m) {f:Nat} {args:List SV} {cG:List (Nat×Ob)} {r:AV×List (Nat×Ob)} (q:qB P H gR n f args cG=some r):qB P H gR m f args cG=some r:=by induction l with
 |refl=>exact q
 |step _ w=>exact U1 _ w
noncomputable def run (P:Program) (H:Nat->Hint) (gR:eN):eN:=λf args cG=>
 open Classical in if h : ∃ r n, qB P H gR n f args cG = some r then some h.choose else none
def IQ {f:Nat} {args:List SV} {cG:List (Nat×Ob)} {r:AV×List (Nat×Ob)}:run P H gR f args cG=some r↔∃n,qB P H gR n f args cG=some r:=by
 constructor
 .intro q;unfold run at q;split at q
  .rename_i l;injection q with q;rw[<-q];exact l.choose_spec
  .cases q
 .rintro⟨n,z⟩;unfold run;have l:∃r n,qB P H gR n f args cG=some r:=⟨r,n,z⟩
  rw[kB l];obtain⟨m,D⟩:=l.choose_spec;have B:=vL (uM n m) z;have w:=vL (y8 n m) D;rw[B] at w;exact w.symm
def Zx {S:Rv} (q:Holds (run P H gR) S):∃n,Holds (qB P H gR n) S:=by induction S with
 |nil=>exact⟨0,Holds.nil⟩
 |cons s S B=>
  obtain⟨n,z⟩:=B λt l=>q t (dB _ l)
  obtain⟨m,w⟩:=IQ.1 (q s (gz ..));refine⟨max n m,λt l=> ?_⟩;cases aS.1 l with
  |inl e=>subst e;exact vL (y8 ..) w
  |inr e=>exact vL (uM ..) (z t e)
def HE {f:Nat} {fn:Func} {c:Code} {args:List SV} {cG:List (Nat×Ob)} {r:AV×List (Nat×Ob)} {n:Nat} {e:Ex} {q:St} (I:gR f args cG=none)
  (F:P.funcs[f]? =some fn) (z:fn.body=some c) (B:(Nat.ble args.length fn.ntmps&&(cG.map (·.1)).all (λi=> !(iK i)||giv i))=true)
  (L:exec P (H f) (run P H gR) n c { env:=find (zz 0 args),ob:=find cG }=some (e,q)) (D:abe P (H f).own fn cG e q=some r):run P H gR f args cG=some r:=by
 obtain⟨S,w,k⟩:=Ew c L;obtain⟨m,G⟩:=Zx w;have l:Holds (qB P H gR (max n m)) S:=λs K=>vL (y8 ..) (G s K)
 refine IQ.2 ⟨max n m+1,?_⟩;simp only[qB,I,F,z,B,ak,k _ (max n m) l (uM ..)];exact D
def tZ {f:Nat} {args:List SV} {cG:List (Nat×Ob)} {r:AV×List (Nat×Ob)} (l:gR f args cG=some r):run P H gR f args cG=some r:=
 IQ.2 ⟨1,by simp only[qB,l]⟩
def RV {q:Qp} {B:Mu} (D:DK P=true) (G:∀f fn c,P.funcs[f]? =some fn->fn.body=some c->q7 q B P (H f) fn.ntmps c) (F:iz q B P gR):∀n,iz q B P (qB P H gR n):=by intro n;induction n with
 |zero=>intro g args cG r z l;simp[qB] at l
 |succ n ih=>
  intro g args cG r z l;simp only[qB] at l;split at l
  .rename_i x V;injection l with l;subst l;exact F g args cG r z V
  .split at l
   .rename_i fn K;split at l
    .rename_i c S;obtain⟨U,l⟩:=cv l;split at l
     .rename_i e st hx;refine λw μ I us L N O Q R=> .inl ⟨?_,UU D (G g) ih K S U hx l w μ I us L N O Q R⟩
      simp only[DK,aV] at D;have:=fF D.2;have:=(mE.1 K).1;omega
     .cases l
    .cases l
   .cases l
theorem Ny {q:Qp} {B:Mu} (D:DK P=true) (z:∀f fn c,P.funcs[f]? =some fn->fn.body=some c->q7 q B P (H f) fn.ntmps c) (l:iz q B P gR):iz q B P (run P H gR):=by intro g args cG r w G;obtain⟨n,F⟩:=IQ.1 G;exact RV D z l n g args cG r w F
end
