/- THE ABSTRACT MACHINE. -/
import Derived.Test.YthphfjcnkinkpaaGreatDoorAmCall
set_option linter.all false
namespace Go.AM
open Go.RowKit
def cv {R:Type} {b:Bool} {x:Option R} {r:R} (l:(bif b then x else none)=some r):b=true/\x=some r:=by grind
abbrev RF:=List (Nat×List SV×List (Nat×Ob)×(AV×List (Nat×Ob)))
def Holds (F:eE) (S:RF):Prop:=∀s∈S,F s.1 s.2.1 s.2.2.1=some s.2.2.2
def Holds.nil {F:eE}:Holds F []:=λ_ h=>by cases h
def Holds.append {F:eE} {S T:RF} (h:Holds F S) (k:Holds F T):Holds F (S++T):=λs l=>(bu.1 l).elim (h s) (k s)
def Holds.left {F:eE} {S T:RF} (h:Holds F (S++T)):Holds F S:=λs l=>h s (bu.2 (.inl l))
def Holds.right {F:eE} {S T:RF} (h:Holds F (S++T)):Holds F T:=λs l=>h s (bu.2 (.inr l))
def Holds.one {F:eE} {g:Nat} {args:List SV} {cG:List (Nat×Ob)} {r:AV×List (Nat×Ob)} (h:F g args cG=some r):Holds F [(g,args,cG,r)]:=λs l=>by simp_all
def Holds.get {F:eE} {g:Nat} {args:List SV} {cG:List (Nat×Ob)} {r:AV×List (Nat×Ob)} (h:Holds F [(g,args,cG,r)]):F g args cG=some r:=h _ (cz.2 rfl)
section
variable {P:Program} {h:Hint} {F0:eE}
def Vb {c:Call} {f:Operand} {w:St} {r:AV} (l:s9 P h F0 w c f=some r):∃S,Holds F0 S/\∀F,Holds F S->s9 P h F w c f=some r:=by
 unfold s9 at l;split at l
 .rename_i g args B;obtain⟨D,l⟩:=cv l;split at l
  .rename_i cG G;split at l
   .rename_i K q I;refine⟨_,Holds.one I,λF z=> ?_⟩;simp[s9,B,D,au,G,z.get];omega
   simp_all
  simp_all
 simp_all
def SO {o:Oper} {w:St} {v:SV} (l:dW P h F0 o w=some v):∃S,Holds F0 S/\∀F,Holds F S->dW P h F o w=some v:=by cases G:o.op with
 |call c=>cases D:c.callee with
  |value f=>
   simp only[dW,G,D] at l;cases how:o.dst.any h.owns.contains with
   |true=>simp_all
   |false=>
   rw[how] at l;simp only[aA] at l;cases z:(o.dst.any h.stay.contains&&wide w c f) with
   |true=>rw[z] at l;simp only[au,cL] at l;obtain⟨r,I,rfl⟩:=l;simp_all[Vb,dW]
   |false=>
   cases K:(wide w c f||c.args.toList.any (λx=>(pE h w x).isSome)) with
   |true=>grind
   |false=>
    split at l
    .rename_i g q O N B;split at l
     .rename_i r I;refine⟨_,Holds.one I,λF L=> ?_⟩;simp only[dW,G,D,N,B,L.get];grind
     simp_all
    simp_all
  |builtin b=>exact⟨[],Holds.nil,λF _=>by simp_all[dW]⟩
  |invoke r m=>exact⟨[],Holds.nil,λF _=>by simp_all[dW]⟩
 |makeFunc fn first q=>exact⟨[],Holds.nil,λF _=>by grind[dW]⟩
 |_=>exact⟨[],Holds.nil,λF _=>by simp_all[dW]⟩
def Ov {z:St} {g:Nat} {args:List SV} {w:Nat->Nat} {d:Option Nat} {x:St} (l:ki F0 z g args w d=some x):∃S,Holds F0 S/\∀F,Holds F S->ki F z g args w d=some x:=by
 obtain⟨D,l⟩:=cv l;split at l
 .rename_i cG G;split at l
  .rename_i r q I;refine⟨_,Holds.one I,λF B=> ?_⟩;simp only[ki,D,au,G,B.get];omega
  simp_all
 simp_all
def Zk {c:Call} {f:Operand} {w:St} {d:Nat} {q:List Nat} {x:St} (l:Dk P h F0 w c f d q=some x):∃S,Holds F0 S/\∀F,Holds F S->Dk P h F w c f d q=some x:=by
 unfold Dk at l;simp at l;split at l
 .obtain⟨B,l⟩:=cv l;obtain⟨S,z,G⟩:=Ov l;refine⟨S,z,λF D=> ?_⟩;simp[Dk,B];simp_all
 simp_all
def R9 {c:Call} {f:Operand} {I:St} {d:Option Nat} {x:St} (q:iA P h F0 I c f d=some x):∃S,Holds F0 S/\∀F,Holds F S->iA P h F I c f d=some x:=by
 unfold iA at q;split at q
 .split at q
  .simp_all[Zk,iA]
  rename_i l;split at q
  .rename_i g D N G w;split at q
   .rename_i e L xs B;refine⟨_,Holds.one B,λF z=> ?_⟩;simp only[iA,l,G,w,z.get];omega
   .rename_i K B;refine⟨_,Holds.one B,λF z=> ?_⟩;simp only[iA,l,G,w,z.get];omega
   simp_all
  simp_all
 simp_all
def Sc {c:Call} {f:Operand} {B:St} {d:Option Nat} {x:St} (l:qe P h F0 B c f d=some x):∃S,Holds F0 S/\∀F,Holds F S->qe P h F B c f d=some x:=by
 unfold qe at l;split at l
 .rename_i g z R id G w;split at l
  .rename_i e Q xs q;split at l
   .rename_i r O N K L I;refine⟨_,Holds.one I,λF D=> ?_⟩;simp[qe,G,w,q,D.get];omega
   simp_all
  simp_all
 simp_all
def Ow {c:Call} {f:Operand} {B:St} {d:Option Nat} {x:St} (l:jT P h F0 B c f d=some x):∃S,Holds F0 S/\∀F,Holds F S->jT P h F B c f d=some x:=by
 unfold jT at l;split at l
 .rename_i g z N I q;obtain⟨G,l⟩:=cv l;split at l
  .rename_i cG K;split at l
   .rename_i r w L;refine⟨_,Holds.one L,λF D=> ?_⟩;simp only[jT,I,q,G,au,K,D.get];omega
   simp_all
  simp_all
 simp_all
theorem Zs {o:Oper} {l:St} (q:∀c,o.op≠ .call c) (F:eE):ni P h F o l=ni P h F0 o l:=by grind[ni]
theorem PX {F w:St} {id:Nat} (D:F.dr id=some w) {x:Operand} (z:zn F x=false) {ty:TypeId} {a:AV} (l:(bI P ty F x).bind (nT F)=some a):(bI P ty w x).bind (nT w)=some a:=by
 unfold St.dr at D;split at D
 .injection D with D;subst D;cases x with
  |tmp i=>simp[bI] at l⊢;cases G:F.env i with
   |none=>simp_all
   |some s=>rw[G] at l;simp at l⊢;cases s with
    |pv v=>assumption
    |row j=>simp[SV.dr];cases hj:Nat.beq j _ with
     |true=>simp_all[nT]
     |false=>
      have I:id≠j:=λe=>by simp_all
      simp[aA,nT,bS _ _ I];obtain⟨R,B,N⟩:=dy.1 l;rw[B];cases R with
      |box t cells=>assumption
      |row L U K=>assumption
      |mp k' L Q V=>assumption
      |rn L S k' e2 s2 K ys'=>assumption
      |lp S=>assumption
    |ag cs=>simp[zn,G] at z
    |aq j q=>simp[zn,G] at z
    |_=>cases l
  |const v=>simp[bI] at l⊢;cases O:ofConst P _ v<;>simp[O,nT] at l⊢;omega
  |func f=>assumption
  |global g=>assumption
 simp_all
theorem Om {z w:St} {id:Nat} (l:z.dr id=some w) {x:Operand} (h:zn z x=false):zn w x=false:=by
 unfold St.dr at l;split at l
 .injection l with l;subst l;cases x with
  |tmp i=>simp[zn] at h⊢;cases B:z.env i with
   |none=>rfl
   |some s=>rw[B] at h;cases s with
    |ag D=>simp at h
    |aq j q=>simp at h
    |row j=>grind[SV.dr]
    |_=>grind[SV.dr,SV.dG]
  |_=>rfl
 simp_all
def yY:∀{xs:List Operand} {w l:St},ni.ia w xs=some l->∀{x:Operand},zn w x=false->∀{ty:TypeId} {a:AV},(bI P ty w x).bind (nT w)=some a->(bI P ty l x).bind (nT l)=some a:=by intro xs;induction xs with
 |nil=>simp_all[ni.ia]
 |cons y xs D=>intro w l z x q ty a B;cases y with
  |tmp i=>
   simp[ni.ia] at z;split at z
   .rename_i id I;cases G:w.dr id with
    |none=>simp_all
    |some F=>grind[Om,PX]
   grind
  |const v=>exact D z q B
  |func f=>exact D z q B
  |global g=>exact D z q B
def tq {q l:St} {xs:List Operand} (h:ni.jH q xs=some l):ni.ia q xs=some l/\∀x∈xs,zn q x=false:=by grind[ni.jH]
def Ed {F q:St} {N:List Operand} (G:ni.jH F N=some q):∀{xs:List Operand} {z:List TypeId} {B:List AV},(∀x∈xs,zn F x=false)->jN P F xs z=some B->jN P q xs z=some B:=by intro xs;induction xs with
 |nil=>intro z B _ w;exact w
 |cons x xs L=>
  intro z B l w;simp[jN] at w⊢;split at w
  .rename_i v O I D;rw[yY (tq G).1 (l x ai) I,L (λy K=>l y (by simp[K])) D];omega
  simp_all
def MO {B z:St} {K:List Operand} (G:ni.jH B K=some z) {f:Operand} {g:Nat} {l:List AV} (F:bI P 0 B f=some (.pv (.fn g l))):bI P 0 z f=some (.pv (.fn g l)):=by
 have:=yY (tq G).1 (x:=f) (by cases f with
  |tmp i=>simp_all[bI,zn]
  |_=>rfl) (by rw[F];rfl)
 cases D:bI P 0 _ f with
 |none=>simp_all
 |some s=>rw[D] at this;simp at this;cases s with
  |pv v=>simp_all[nT]
  |row id=>obtain⟨I,_,w⟩:=dy.1 this;cases I<;>simp[Ob.val] at w
  |ag L=>simp_all[nT]
  |aq j q=>cases q with
   |full=>cases this
   |bs n=>cases this
   |nr i=>grind[nT]
  |_=>cases this
def Xq {o:Oper} {q l:St} (w:ni P h F0 o q=some l):∃S,Holds F0 S/\∀F,Holds F S->ni P h F o q=some l:=by cases R:o.op with
 |call c=>cases N:c.callee with
  |value f=>
   have e1:∀F,ni P h F o q=(bif o.dst.any h.owns.contains then iA P h F q c f o.dst else bif o.dst.any h.stay.contains&&wide q c f then none else bif wide q c f then jT P h F q c f o.dst else bif c.args.toList.any (λx=>(pE h q x).isSome) then qe P h F q c f o.dst else
    match ni.jH q c.args.toList with
    |some l=>match bI P 0 l f,jN P l c.args.toList c.argTypes.toList with
     |some (.pv (.fn g z)),some K=>match F g ((K++z).map .pv) [] with
      |some (r,[])=>bif c.args.toList.any (kV l)|| !r.jG then none else some (l.set o.dst (.pv r))
      |_=>none
     |_,_=>none
    |none=>none):=λF=>by
    cases O:o.dst<;>simp only[ni,R,N,O]<;>rfl
   rw[e1] at w;cases how:o.dst.any h.owns.contains with
   |true=>simp_all[au,R9]
   |false=>
   rw[how] at w;simp only[aA] at w;cases D:(o.dst.any h.stay.contains&&wide q c f) with
   |true=>simp_all
   |false=>
   rw[D] at w;simp only[aA] at w;cases I:wide q c f with
   |true=>simp_all[au,Ow,aA]
   |false=>
   rw[I] at w;simp only[aA] at w;cases B:c.args.toList.any (λx=>(pE h q x).isSome) with
   |true=>simp_all[au,Sc,aA]
   |false=>
    rw[B] at w;simp only[aA] at w;split at w
    .rename_i st1 U;split at w
     .rename_i g z K Q G;split at w
      .rename_i r V;refine⟨_,Holds.one V,λF L=> ?_⟩;rw[e1,how,D,I,B];simp only[aA,U,Q,G,L.get];omega
      simp_all
     simp_all
    simp_all
  |builtin b=>exact⟨[],Holds.nil,λF _=>by grind[ni]⟩
  |invoke r m=>simp_all[ni]
 |_=>exact⟨[],Holds.nil,λF _=>by grind[Zs]⟩
def aaj {o:Oper} {z q:St} (D:step0 P h F0 o z=some q):∃S,Holds F0 S/\∀F,Holds F S->step0 P h F o z=some q:=by
 unfold step0 at D;split at D
 .rename_i v V;obtain⟨S,U,l⟩:=SO V;exact⟨S,U,λF K=>by simp only[step0,l F K];exact D⟩
 .rename_i V;have done:∀S,Holds F0 S->(∀F,Holds F S->dW P h F o z=none/\ni P h F o z=some q)->∃S,Holds F0 S/\∀F,Holds F S->step0 P h F o z=some q:=λS U l=>
   ⟨S,U,λF K=>by simp only[step0,(l F K).1];exact(l F K).2⟩
  have B:(∀F,dW P h F o z=dW P h F0 o z)->∃S,Holds F0 S/\∀F,Holds F S->step0 P h F o z=some q:=λhsame=>by obtain⟨S,U,l⟩:=Xq D;exact done S U λF K=>⟨by rw[hsame F];exact V,l F K⟩
  cases L:o.op with
  |call c=>cases N:c.callee with
   |value f=>
    cases how:o.dst.any h.owns.contains with
    |true=>exact B λF=>by simp only[dW,L,N,how,au]
    |false=>
    cases G:(o.dst.any h.stay.contains&&wide z c f) with
    |true=>cases hd:o.dst<;>(simp only[ni,L,N,hd] at D;rw[hd] at G how;rw[how,G] at D;cases D)
    |false=>
    cases w:(wide z c f||c.args.toList.any (λx=>(pE h z x).isSome)) with
    |true=>obtain⟨S,U,l⟩:=Xq D;exact done S U λF K=>⟨by simp only[dW,L,N];rw[how,G,w];rfl,l F K⟩
    |false=>
     obtain⟨ZL,Q⟩:=fT.1 w
     have e1:∀F,ni P h F o z=(bif o.dst.any h.owns.contains then iA P h F z c f o.dst else bif o.dst.any h.stay.contains&&wide z c f then none else bif wide z c f then jT P h F z c f o.dst else bif c.args.toList.any (λx=>(pE h z x).isSome) then qe P h F z c f o.dst else
      match ni.jH z c.args.toList with
      |some q=>match bI P 0 q f,jN P q c.args.toList c.argTypes.toList with
       |some (.pv (.fn g I)),some vs=>match F g ((vs++I).map .pv) [] with
        |some (r,[])=>bif c.args.toList.any (kV q)|| !r.jG then none else some (q.set o.dst (.pv r))
        |_=>none
       |_,_=>none
      |none=>none):=λF=>by
      cases hd:o.dst<;>simp only[ni,L,N,hd]<;>rfl
     rw[e1,how,G,ZL,Q] at D;simp only[aA] at D;split at D
     .rename_i st1 hp;split at D
      .rename_i g I vs hfn hvs;split at D
       .rename_i r hr;refine done _ (Holds.one hr) λF K=>⟨?_,?_⟩
        .simp only[dW,L,N];rw[how,G,w];simp only[aA];split
         .rename_i g2 caps2 vs2 O R;have k1:=MO hp O;rw[hfn] at k1;simp only[bg,SV.pv.injEq,AV.fn.injEq] at k1;obtain⟨rfl,rfl⟩:=k1;have k2:=Ed hp (tq hp).2 R;rw[hvs] at k2;injection k2 with k2;subst k2;simp only[dW,L,N] at V;rw[how,G,w] at V;simp only[aA,O,R,hr] at V;rw[K.get];exact V
         .rfl
        .rw[e1,how,G,ZL,Q];simp only[aA,hp,hfn,hvs,K.get];exact D
       .cases D
      .cases D
     .cases D
   |builtin b=>exact B λF=>by simp only[dW,L,N]
   |invoke r m=>exact B λF=>by simp only[dW,L,N]
  |makeFunc fn first I=>exact B λF=>by cases fn<;>simp only[dW,L]
  |_=>exact B λF=>by simp only[dW,L]
def Um {o:Oper} {w l:St} (q:step P h F0 o w=some l):∃S,Holds F0 S/\∀F,Holds F S->step P h F o w=some l:=by unfold step at q;obtain⟨I,z,B⟩:=dy.1 q;obtain⟨S,G,k⟩:=aaj B;exact⟨S,G,λF D=>by simp only[step,z,kB,k F D]⟩
def WM {z:Array Oper}:∀{l:List Oper} {B w:St},qS P h F0 z l B=some w->∃S,Holds F0 S/\∀F,Holds F S->qS P h F z l B=some w:=by intro l;induction l with
 |nil=>intro B w q;exact⟨[],Holds.nil,λF _=>q⟩
 |cons o l O=>
  intro B w q;simp only[qS] at q;split at q
  .rename_i b N;cases b with
   |true=>simp only[au] at q;cases K:step P h F0 o B with
    |none=>rw[K] at q;cases q
    |some V=>rw[K] at q;obtain⟨Q,R,U⟩:=Um K;obtain⟨G,I,L⟩:=O q;exact⟨Q++G,R.append I,λF D=>by simp only[qS,N,au,U F D.left,kB];exact L F D.right⟩
   |false=>simp only[aA] at q;obtain⟨G,I,L⟩:=O q;exact⟨G,I,λF D=>by simp only[qS,N,aA];exact L F D⟩
  .cases q
theorem Ug {L:Array Oper}:∀{l:List Oper} {i:Nat} {w:List (Nat×ga)} {N z:St},jZ P h F0 L i l w N=some z->∃S,Holds F0 S/\∀F,Holds F S->jZ P h F L i l w N=some z:=by intro l;induction l with
 |nil=>intro i w N z q;exact⟨[],Holds.nil,λF _=>q⟩
 |cons o l V=>
  intro i w N z q;simp only[jZ] at q;split at q
  .cases q
  .rename_i b U;cases b with
   |true=>simp only[au] at q;cases O:(isF h N o&&(FE h o).isEmpty) with
    |true=>
     simp only[O,au] at q;split at q
     .rename_i v hf;obtain⟨I,q⟩:=cv q;obtain⟨Q,R,k1⟩:=SO hf;obtain⟨D,G,K⟩:=V q;exact⟨Q++D,R.append G,λF B=>by simp only[jZ,U,au,O,k1 F B.left,I];exact K F B.right⟩
     .cases q
    |false=>
     simp only[O,aA] at q;split at q
     .rename_i st1 hs;obtain⟨I,q⟩:=cv q;obtain⟨Q,R,k1⟩:=Um hs;obtain⟨D,G,K⟩:=V q;exact⟨Q++D,R.append G,λF B=>by simp only[jZ,U,au,O,aA,k1 F B.left,I];exact K F B.right⟩
     .cases q
   |false=>simp only[aA] at q;obtain⟨I,q⟩:=cv q;obtain⟨D,G,K⟩:=V q;exact⟨D,G,λF B=>by simp only[jZ,U,aA,I,au];exact K F B⟩
def E4 {n:Nat}:∀(c:Code) {G:St} {x:Ex×St},exec P h F0 n c G=some x->∃S,Holds F0 S/\∀F m,Holds F S->n<=m->exec P h F m c G=some x:=by intro c;induction c with
 |skip=>intro G x w;exact⟨[],Holds.nil,λF m _ _=>w⟩
 |label l=>intro G x w;exact⟨[],Holds.nil,λF m _ _=>w⟩
 |exit id=>intro G x w;exact⟨[],Holds.nil,λF m _ _=>w⟩
 |ret=>intro G x w;exact⟨[],Holds.nil,λF m _ _=>w⟩
 |region id ops draw=>intro G x w;simp only[exec] at w;obtain⟨st1,R,w⟩:=dy.1 w;cases draw with
  |true=>simp only[au] at w;obtain⟨hb,w⟩:=cv w;simp only[cL] at w;obtain⟨s,hr,rfl⟩:=w;obtain⟨S,I,k⟩:=Ug hr;exact⟨S,I,λF m B _=>by simp only[exec,R,kB,au,hb,k F B,e9]⟩
  |false=>simp only[aA,cL] at w;obtain⟨s,hr,rfl⟩:=w;obtain⟨S,I,k⟩:=WM hr;exact⟨S,I,λF m B _=>by simp only[exec,R,kB,aA,k F B,e9]⟩
 |seq a b O Q=>
  intro G x w;simp only[exec] at w;cases L:find h.blk (fk a) with
  |some z=>simp only[L] at w;exact⟨[],Holds.nil,λF m _ _=>by simp only[exec,L];exact w⟩
  |none=>
  simp only[L] at w;split at w
  .rename_i st1 ha;obtain⟨V,h1,k1⟩:=O ha;obtain⟨S2,h2,k2⟩:=Q w;exact⟨V++S2,h1.append h2,λF m B D=>by simp only[exec,L,k1 F m B.left D];exact k2 F m B.right D⟩
  .rename_i N;obtain⟨V,h1,k1⟩:=O w;refine⟨V,h1,λF m B D=> ?_⟩;simp only[exec,L,k1 F m B D];obtain⟨e,s⟩:=x;cases e with
   |normal=>exact absurd w (N s)
   |exit j=>rfl
   |ret=>rfl
 |cond c a b O Q=>
  intro G x w;simp only[exec] at w;split at w
  .rename_i t hc;cases t with
   |true=>obtain⟨S,I,k⟩:=O w;exact⟨S,I,λF m B D=>by simp only[exec,hc,au];exact k F m B D⟩
   |false=>obtain⟨S,I,k⟩:=Q w;exact⟨S,I,λF m B D=>by simp only[exec,hc,aA];exact k F m B D⟩
  .cases w
 |block id c ih=>
  intro G x w;simp only[exec] at w;split at w
  .rename_i j s hc;obtain⟨S,I,k⟩:=ih hc;exact⟨S,I,λF m B D=>by simp only[exec,k F m B D];exact w⟩
  .rename_i N;obtain⟨S,I,k⟩:=ih w;refine⟨S,I,λF m B D=> ?_⟩;simp only[exec,k F m B D];obtain⟨e,s⟩:=x;cases e with
   |normal=>rfl
   |exit j=>exact absurd w (N j s)
   |ret=>rfl
 |loop c ih=>
  intro G x w;simp only[exec] at w;have key:∀(q:Nat) {G:St} {x:Ex×St},iter h (fk c) (exec P h F0 n c) q G=some x->∃S,Holds F0 S/\∀F m U,Holds F S->n<=m->q<=U->iter h (fk c) (exec P h F m c) U G=some x:=by intro q;induction q with
   |zero=>intro G x w;simp[iter] at w
   |succ q ihq=>
    intro G x w;simp only[iter] at w;split at w
    .rename_i st1 hc;obtain⟨V,h1,k1⟩:=ih hc;obtain⟨S2,h2,k2⟩:=ihq w;refine⟨V++S2,h1.append h2,λF m U B D hq=> ?_⟩;obtain⟨K,rfl⟩:∃K,U=K+1:=⟨U-1,af⟩
     simp only[iter,k1 F m B.left D];exact k2 F m K B.right D af
    .rename_i N;obtain⟨V,h1,k1⟩:=ih w;refine⟨V,h1,λF m U B D hq=> ?_⟩;obtain⟨K,rfl⟩:∃K,U=K+1:=⟨U-1,af⟩
     simp only[iter,k1 F m B D];obtain⟨e,s⟩:=x;cases e with
     |normal=>exact absurd w (N s)
     |exit j=>rfl
     |ret=>rfl
  obtain⟨S,I,k⟩:=key n w;exact⟨S,I,λF m B D=>by simp only[exec];exact k F m m B D D⟩
 |scope c ih=>intro G x w;simp only[exec] at w;obtain⟨S,I,k⟩:=ih w;exact⟨S,I,λF m B D=>by simp only[exec];exact k F m B D⟩
 |rangeFunc f ps a b O Q=>intro G x w;simp[exec] at w
 |goto l=>intro G x w;simp[exec] at w
 |refuse s=>intro G x w;simp[exec] at w
theorem tf {n m:Nat} (w:n<=m) {c:Code} {l:St} {x:Ex×St} (z:exec P h F0 n c l=some x):exec P h F0 m c l=some x:=by obtain⟨S,q,k⟩:=E4 c z;exact k F0 m q w
end
section
variable {P:Program} {H:Nat->Hint} {gM:eE}
def U9:∀(n:Nat) {f:Nat} {args:List SV} {cG:List (Nat×Ob)} {r:AV×List (Nat×Ob)},qA P H gM n f args cG=some r->qA P H gM (n+1) f args cG=some r:=by intro n;induction n with
 |zero=>intro f args cG r l;simp[qA] at l
 |succ n K=>
  intro f args cG r l;rw[qA] at l⊢;dsimp only at l⊢;split at l
  .rename_i x w;(try simp only[w]);exact l
  .rename_i w
   (try simp only[w])
   split at l
   .rename_i fn F
    (try simp only[F])
    split at l
    .rename_i c B
     (try simp only[B])
     obtain⟨D,l⟩:=cv l;rw[D];simp only[au];split at l
     .rename_i e L I;obtain⟨S,z,k⟩:=E4 c I;have q:Holds (qA P H gM (n+1)) S:=λs G=>K (z s G)
      rw[k _ (n+1) q af];exact l
     .cases l
    .cases l
   .cases l
def vT {n m:Nat} (l:n<=m) {f:Nat} {args:List SV} {cG:List (Nat×Ob)} {r:AV×List (Nat×Ob)} (q:qA P H gM n f args cG=some r):qA P H gM m f args cG=some r:=by induction l with
 |refl=>exact q
 |step _ w=>exact U9 _ w
noncomputable def run (P:Program) (H:Nat->Hint) (gM:eE):eE:=λf args cG=>
 open Classical in if h : ∃ r n, qA P H gM n f args cG = some r then some h.choose else none
def Jj {f:Nat} {args:List SV} {cG:List (Nat×Ob)} {r:AV×List (Nat×Ob)}:run P H gM f args cG=some r↔∃n,qA P H gM n f args cG=some r:=by
 constructor
 .intro q;unfold run at q;split at q
  .rename_i l;injection q with q;rw[<-q];exact l.choose_spec
  .cases q
 .rintro⟨n,z⟩;unfold run;have l:∃r n,qA P H gM n f args cG=some r:=⟨r,n,z⟩
  rw[kC l];obtain⟨m,D⟩:=l.choose_spec;have B:=vT (uS n m) z;have w:=vT (zA n m) D;rw[B] at w;exact w.symm
def ZI {S:RF} (q:Holds (run P H gM) S):∃n,Holds (qA P H gM n) S:=by induction S with
 |nil=>exact⟨0,Holds.nil⟩
 |cons s S B=>
  obtain⟨n,z⟩:=B λt l=>q t (dz _ l)
  obtain⟨m,w⟩:=Jj.1 (q s (gm ..));refine⟨max n m,λt l=> ?_⟩;cases aN.1 l with
  |inl e=>subst e;exact vT (zA ..) w
  |inr e=>exact vT (uS ..) (z t e)
def Ih {f:Nat} {fn:Func} {c:Code} {args:List SV} {cG:List (Nat×Ob)} {r:AV×List (Nat×Ob)} {n:Nat} {e:Ex} {q:St} (I:gM f args cG=none)
  (F:P.funcs[f]? =some fn) (z:fn.body=some c) (B:(Nat.ble args.length fn.ntmps&&(cG.map (·.1)).all (λi=> !(iC i)||giv i))=true)
  (L:exec P (H f) (run P H gM) n c { env:=find (zW 0 args),ob:=find cG }=some (e,q)) (D:abv P (H f).own fn cG e q=some r):run P H gM f args cG=some r:=by
 obtain⟨S,w,k⟩:=E4 c L;obtain⟨m,G⟩:=ZI w;have l:Holds (qA P H gM (max n m)) S:=λs K=>vT (zA ..) (G s K)
 refine Jj.2 ⟨max n m+1,?_⟩;simp only[qA,I,F,z,B,au,k _ (max n m) l (uS ..)];exact D
def ua {f:Nat} {args:List SV} {cG:List (Nat×Ob)} {r:AV×List (Nat×Ob)} (l:gM f args cG=some r):run P H gM f args cG=some r:=
 Jj.2 ⟨1,by simp only[qA,l]⟩
def R5 {q:Qp} {B:Mu} (D:Ec P=true) (G:∀f fn c,P.funcs[f]? =some fn->fn.body=some c->qW q B P (H f) fn.ntmps c) (F:ic q B P gM):∀n,ic q B P (qA P H gM n):=by intro n;induction n with
 |zero=>intro g args cG r z l;simp[qA] at l
 |succ n ih=>
  intro g args cG r z l;simp only[qA] at l;split at l
  .rename_i x V;injection l with l;subst l;exact F g args cG r z V
  .split at l
   .rename_i fn K;split at l
    .rename_i c S;obtain⟨U,l⟩:=cv l;split at l
     .rename_i e st hx;refine λw μ I us L N O Q R=> .inl ⟨?_,U4 D (G g) ih K S U hx l w μ I us L N O Q R⟩
      simp only[Ec,aU] at D;have:=fF D.2;have:=(mu.1 K).1;omega
     .cases l
    .cases l
   .cases l
def NY {q:Qp} {B:Mu} (D:Ec P=true) (z:∀f fn c,P.funcs[f]? =some fn->fn.body=some c->qW q B P (H f) fn.ntmps c) (l:ic q B P gM):ic q B P (run P H gM):=by intro g args cG r w G;obtain⟨n,F⟩:=Jj.1 G;exact R5 D z l n g args cG r w F
end
