/- THE ABSTRACT MACHINE. -/
import Derived.Test.YthphfjcnkinkpaaGreatDoorAmPure
set_option linter.all false
namespace Go.AM
open Go.RowKit
def Y0 {q:Type} (k:Ask q):∀w:World,w.drawn<=(w.ask k).2.drawn:=by induction k with
 |done a=>intro w;exact aZ _
 |ask l range k z=>unfold World.ask;grind
theorem aaa (w:World) (c:Sys):w.drawn<=(w.sys c).2.drawn:=by unfold World.sys;have h:=Y0 (Kernel.perform c w.os) w;grind
theorem JN {p:Program} {w z:World} {a:Addr} {v:Value} {q:Bool} {l:List Addr} (h:w.farStore p a v q= .ok (z,l)):z.drawn=w.drawn:=by
 unfold World.farStore at h;split at h
 .split at h
  .rename_i u r e;unfold World.viewStore at e;simp[bind,Except.bind,pure,Except.pure] at e
   repeat' split at e
   all_goals first|(cases e;done)|skip
   all_goals grind
  grind
 grind
def Gs {B:Type} {p:Program}:∀{m:Sem B} {w z:World} {v:B},m.run p w= .ok v z->w.drawn<=z.drawn:=by intro m;induction m with
 |pure a=>simp
 |load m a k l=>grind[Sem.run]
 |store m a x k l=>
  intro w z v h;cases x<;>simp[Sem.run] at h
  all_goals
   grind[World.setCell,JN]
 |new o k l=>grind[Sem.run]
 |shape r k l=>grind[Sem.run]
 |freeze a n k l=>grind[Sem.run,World.freeze]
 |frozen a k l=>grind[Sem.run]
 |getObj r k l=>grind[Sem.run]
 |setObj r o k l=>grind[Sem.run]
 |choose q k l=>intro w z v h;simp only[Sem.run] at h;grind
 |sys c k l=>grind[Sem.run,aaa]
 |program k l=>grind[Sem.run]
 |mark m k l=>assumption
 |halt D=>simp
theorem beq_iff {a b:Nat}:Nat.beq a b=true↔a=b:=by simp
def aaI {a b:Nat} (h:a≠b):Nat.beq a b=false:=by grind[beq_iff]
theorem de {l:Type} (m:Nat->Option l) (d:Nat) (v:Option l):put m d v d=v:=by simp[put]
theorem bZ {l:Type} (m:Nat->Option l) {d i:Nat} (v:Option l) (h:d≠i):put m d v i=m i:=by simp[put,aaI h]
def qN (loc:Nat->Value) (id:Nat) (v:Value):Nat->Value:=λi=>if i=id then v else loc i
theorem di (loc:Nat->Value) (id:Nat) (v:Value):qN loc id v id=v:=by simp[qN]
theorem dh (loc:Nat->Value) {id i:Nat} (v:Value) (h:i≠id):qN loc id v i=loc i:=by simp[qN,h]
section
variable {μ μ':Mu} {loc loc':Nat->Value}
def zY (h:μ.le μ'):∀(q:List oJ) (l:List Value),kK μ loc q l->kK μ' loc q l
 |[],l=>λh=>h
 |c::q,l=>λ⟨u,D,e,z,B⟩=>⟨u,D,e,by cases c<;>first|exact yG h _ _ z|exact z,zY h _ _ B⟩
theorem Gm (h:μ.le μ') {s:SV} {v:Value} (k:fW μ loc s v):fW μ' loc s v:=by induction s generalizing v with
 |two s t H l=>obtain⟨x,y,e,k,K⟩:=k;exact⟨x,y,e,H k,l K⟩
 |three s t r H l I=>obtain⟨x,y,z,e,k,K,S⟩:=k;exact⟨x,y,z,e,H k,l K,I S⟩
 |undef=>exact k
 |any=>exact k
 |pv x=>exact yG h _ _ k
 |ptr id B=>exact k
 |row id=>exact k
 |rp id U i B=>exact k
 |sub id U lo hi=>exact k
 |cp V=>obtain⟨b,B,G,e,F,Q⟩:=k;exact⟨b,B,G,e,F.mono h,λj u R=>h _ _ _ (Q j u R)⟩
 |cl f D=>obtain⟨G,e,F⟩:=k;exact⟨G,e,zY h _ _ F⟩
 |ag D=>obtain⟨G,e,F,O⟩:=k;exact⟨G,e,zY h _ _ F,O⟩
 |aq id q=>exact k
def KT (h:μ.le μ'):∀(q:List SV) (l:List Value),gY μ loc q l->gY μ' loc q l
 |[],l=>λh=>h
 |c::q,l=>λ⟨u,D,e,z,B⟩=>⟨u,D,e,Gm h z,KT h _ _ B⟩
def BX {id:Nat} {x:Value}:∀(l:List oJ) (q:List Value),l.any (oJ.mentions id)=false->kK μ loc l q->kK μ (qN loc id x) l q
 |[],q=>λ_ h=>h
 |c::l,q=>λB ⟨u,G,e,z,D⟩=>by simp only[wL,gi] at B;refine⟨u,G,e,?_,BX _ _ B.2 D⟩;cases c with
  |v a=>exact z
  |p j=>
   have:j≠id:=λe=>by simp_all[oJ.mentions]
   obtain⟨b,H,F⟩:=z;exact⟨b,by simp_all[dh],F⟩
  |r j=>
   have:j≠id:=λe=>by simp_all[oJ.mentions]
   show u=gp _;rw[dh _ _ this];exact z
def TZ {id:Nat} {x:Value} {s:SV} {v:Value} (B:s.mentions id=false) (k:fW μ loc s v):fW μ (qN loc id x) s v:=by
 have ne:∀{j:Nat},Nat.beq j id=false->j≠id:=λh e=>by simp_all
 induction s generalizing v with
 |undef=>exact k
 |any=>exact k
 |pv y=>exact k
 |ptr j Q=>obtain⟨b,l,D⟩:=k;exact⟨b,by rw[dh _ _ (ne B)];omega,D⟩
 |row j=>show v=gp _;rw[dh _ _ (ne B)];exact k
 |rp j sz i Q=>obtain⟨g,n,c,l,D⟩:=k;exact⟨g,n,c,by rw[dh _ _ (ne B)];omega,D⟩
 |sub j sz lo hi=>obtain⟨A,n,c,S,c',l,D⟩:=k;exact⟨A,n,c,S,c',by rw[dh _ _ (ne B)];omega,D⟩
 |cp cs=>exact k
 |cl f G=>obtain⟨R,e,H⟩:=k;exact⟨R,e,BX _ _ B H⟩
 |ag G=>obtain⟨R,e,H,l⟩:=k;exact⟨R,e,BX _ _ B H,l⟩
 |aq j q=>simp[SV.mentions,gi] at B;show BV q _ v;rw[dh _ _ (ne B.1)];exact k
 |two s t I F=>obtain⟨x,y,e,k,O⟩:=k;obtain⟨l,D⟩:=gi.1 B;exact⟨x,y,e,I l k,F D O⟩
 |three s t r I F K=>obtain⟨x,y,z,e,k,O,V⟩:=k;obtain⟨l,U⟩:=gi.1 B;obtain⟨l,D⟩:=gi.1 l;exact⟨x,y,z,e,I l k,F D O,K U V⟩
theorem zZ {id:Nat} {x:Value} {s:SV} {v:Value} (k:fW μ loc s v):fW μ (qN loc id x) (s.dH id) v:=by unfold SV.dH;cases l:s.mentions _ with
 |true=>trivial
 |false=>exact TZ l k
def xu {id:Nat} {x:Value}:∀(q:List SV) (l:List Value),gY μ loc q l->gY μ (qN loc id x) (q.map (SV.dH id)) l
 |[],l=>λh=>h
 |c::q,l=>λ⟨u,D,e,z,B⟩=>⟨u,D,e,zZ z,xu _ _ B⟩
end
section
variable {P:Program} {N:Nat} {w0:World} {μ0:Mu} {L:s8} {μ:Mu} {loc:Nat->Value} {st:St} {a:Act} {w:World}
def Rel.set (l:Rel N w0 μ0 L μ loc st a w) {d:Option Nat} {sv:SV} {v:Value} (B:∀i,d=some i->i<N) (D:fW μ loc sv v):
  Rel N w0 μ0 L μ loc (st.set d sv) (a.put d v) w:=by
 cases d with
 |none=>exact l
 |some d=>
  have z:=B d rfl;refine⟨l.small,l.names,l.fix,by simp[Act.put,l.size],by simp[Act.put,l.defers],?_,l.yc,l.base,l.obs,l.apart,l.keep,l.os,l.tape,l.output,l.grown,l.drawn⟩;intro i s q;by_cases e:d=i
  .subst e;simp[St.set,de,bq] at q;subst q;exact⟨v,by simp[Act.put,l.size,z],D⟩
  .simp[St.set,bZ _ _ e] at q;obtain⟨u,G,F⟩:=l.env i s q;simp_all[Act.put]
theorem Rel.drop (l:Rel N w0 μ0 L μ loc st a w) (id:Nat):Rel N w0 μ0 L μ loc { st with ob:=put st.ob id none } a w:=by
 have q:∀i o,put st.ob id none i=some o->st.ob i=some o/\i≠id:=λi o h=>by grind[de,bZ]
 exact⟨l.small,l.names,l.fix,l.size,l.defers,l.env,l.yc,l.base,λi o h=>l.obs i o (q i o h).1,λi j D F z B=>l.apart i j _ _ (q i _ z).1 (q j _ B).1,l.keep,l.os,l.tape,l.output,l.grown,l.drawn⟩
theorem EJ {b l g:Nat}:mG (.pointer (some ⟨b,l,none⟩)) g↔g=b:=by simp[mG,cu,eq_comm]
theorem zN {b g:Nat}:mG (.map (some b)) g↔g=b:=by simp[mG,cu,eq_comm]
theorem iS {A:Option Addr} {n c g:Nat}:mG (.slice A n c) g↔cu (.slice A n c)=some g:=by simp[mG]
theorem kg {m:Value} {q:List Value} {g:Nat}:mG (.tuple (m::q).toArray) g↔cu m=some g\/∃u∈q,cu u=some g:=by
 constructor
 .rintro (h|⟨z,e,u,l,h⟩)
  .simp[cu] at h
  grind
 .rintro (h|⟨u,l,h⟩)
  .exact .inr ⟨_,rfl,m,by simp,h⟩
  .exact .inr ⟨_,rfl,u,by simp[l],h⟩
def mr_mem {z:Type} {l:List Value} {q:List (Option z)} (I:l.length=q.length) (B:∀i:Nat,q[i]? =some none->l[i]? =some undef) {u:Value} (D:u∈l) {g:Nat} (G:cu u=some g):∃(i:Nat) (xs:z),q[i]? =some (some xs)/\l[i]? =some u:=by
 obtain⟨i,H,e⟩:=jw.1 D;have F:l[i]? =some u:=by grind
 cases K:q[i]? with
 |none=>simp_all
 |some o=>cases o with
  |none=>grind[undef,cu]
  |some xs=>grind
def xZ {w:World} {e:TypeId} {B:Nat} {u:Value} {n:Nat} {cells:List Value} (h:w.ownsRow 0 e B u n cells) {g:Nat} (F:cu u=some g):g<w.heap.size:=by
 rcases h.2 with⟨e1,_⟩|⟨D,l,q,e1,_,z,_⟩
 .simp_all[cu]
 grind[cu]
def tJ {μ':Mu} {z:Nat} (l:μ.le μ'):∀{xs:List (List AV)} {q:List Value},dc μ z xs q->dc μ' z xs q
 |[],q,h=>h
 |x::xs,q,⟨G,ws,e,B,D,F⟩=>⟨G,ws,e,B.mono l,D,tJ l F⟩
def qk {w z:World} {e:TypeId} {q:Nat} {u:Value} {n:Nat} {cells:List Value} (h:w.ownsRow 0 e q u n cells) (G:∀g,cu u=some g->z.heap[g]? =w.heap[g]?):z.ownsRow 0 e q u n cells:=by
 refine⟨h.1,?_⟩;rcases h.2 with I|⟨g,B,D,e1,F,H,l⟩
 .simp_all
 .exact .inr ⟨g,_,_,e1,F,(G g (by rw[e1];rfl)).trans H,l⟩
def nY.block {I:Nat} {id:Nat} {o:Ob} (h:nY I L μ loc w id o):∀b,mG (loc id) b->Ib I L id b/\b<w.heap.size/\∀j,μ b j=none:=by intro b H;cases o with
 |box t cells=>obtain⟨O,K,B,ho,V,z,_⟩:=h;grind[EJ]
 |row e sz xs=>
  obtain⟨K,l,_,z⟩:=h;rcases l.2 with⟨e1,_⟩|⟨g,Q,R,e1,_,q,_⟩
  .simp_all[mG,cu]
  grind[mG,cu]
 |mp k e ks es=>obtain⟨O,eS,F,B,ho,V,z,_⟩:=h;grind[zN]
 |lp xs=>obtain⟨us,B,h1,G⟩:=h;simp_all
 |rn e sz k e' sz' xs ys=>
  obtain⟨m,us,K,B,z,l,hrc,hk,G,h3,S,U,h6,h7⟩:=h;rw[B] at H;rcases kg.1 H with q|⟨u,hu,q⟩
  .exact⟨(z b q).1,xZ l q,(z b q).2⟩
  .obtain⟨i,zs,k1,k2⟩:=mr_mem G U hu q;obtain⟨u',cells,D,_,k5,k6,k7⟩:=S i _ k1;rw[k2] at D;injection D with D;subst D;exact⟨(k7 b q).1,xZ k5 q,(k7 b q).2⟩
def nY.keep {n0:Nat} {id:Nat} {o:Ob} {w':World} {μ':Mu} (h:nY n0 L μ loc w id o) (q:μ.le μ')
  (B:∀b,mG (loc id) b->w'.heap[b]? =w.heap[b]? /\∀j,μ' b j=none):nY n0 L μ' loc w' id o:=by
 cases o with
 |box t cells=>obtain⟨b,S,D,ho,V,R,hs,I⟩:=h;obtain⟨e,G⟩:=B b (by rw[D];exact EJ.2 rfl);exact⟨b,S,D,ho,e.trans V,G,KT q _ _ hs,I⟩
 |row e sz xs=>obtain⟨S,z,H,R⟩:=h;exact⟨S,qk z (λg l=>(B g (.inl l)).1),tJ q H,λg l=>⟨(R g l).1,(B g l).2⟩⟩
 |mp k e ks es=>obtain⟨b,eS,F,D,ho,V,R,I,K,hB⟩:=h;obtain⟨e,G⟩:=B b (by rw[D];exact zN.2 rfl);exact⟨b,eS,F,D,ho,e.trans V,G,gF q _ _ I,gF q _ _ K,hB⟩
 |lp xs=>obtain⟨U,D,I,K⟩:=h;refine⟨U,D,λg l=>⟨(I g l).1,?_,(B g l).2⟩,L.q.mono q (L.q.keep (λb hu=>(B b (by rw[D];exact .inr ⟨U,rfl,hu⟩)).1) K)⟩;grind
 |rn e sz k e' sz' xs ys=>
  obtain⟨m,U,S,D,R,z,H,hk,K,h3,h4,h5,h6,h7⟩:=h;have O:∀g,cu m=some g->mG (loc id) g:=λg l=>by simp_all[kg]
  refine⟨m,U,S,D,λg l=>⟨(R g l).1,(B g (O g l)).2⟩,qk z (λg l=>(B g (O g l)).1),tJ q H,hk,K,h3,λi zs hi=> ?_,h5,h6,h7⟩;obtain⟨u,cells,k1,k2,k3,k4,k5⟩:=h4 i _ hi;have Q:∀g,cu u=some g->mG (loc id) g:=λg l=>by grind[kg]
  exact⟨u,_,k1,k2,qk k3 (λg l=>(B g (Q g l)).1),tJ q k4,λg l=>⟨(k5 g l).1,(B g (Q g l)).2⟩⟩
def DJ {R:Nat} {L:s8} {loc:Nat->Value} {i id:Nat} {x:Value} {o:Ob} (h:nY R L μ loc w i o) (V:i≠id):nY R L μ (qN loc id x) w i (o.dH id):=by cases o with
 |box t cells=>obtain⟨b,B,H,I,G,q,hs,l⟩:=h;exact⟨b,B,by simp_all[dh],I,G,q,xu _ _ hs,l⟩
 |row e sz xs=>obtain⟨B,Q,K,q⟩:=h;refine⟨B,by simp_all[dh],K,λg U=>q g (by simp_all[dh])⟩
 |mp k e ks es=>obtain⟨b,eS,D,H,I,G,q,l,F,S⟩:=h;exact⟨b,_,_,by simp_all[dh],I,G,q,l,F,S⟩
 |lp xs=>obtain⟨O,H,l,F⟩:=h;exact⟨O,by simp_all[dh],λg U=>l g (by simp_all[dh]),F⟩
 |rn e sz k e' sz' xs ys=>obtain⟨m,O,B,H,z⟩:=h;exact⟨m,O,B,by simp_all[dh],z⟩
def Rel.world (l:Rel N w0 μ0 L μ loc st a w) {w':World} {μ':Mu} (F:μ.le μ') (D:∀b j v,μ' b j=some v->μ b j=some v\/w0.heap.size<=b\/Zt L b) (I:∀b j v,μ' b j=some v->HF w' b j=some v)
  (G:∀id o,st.ob id=some o->∀b,mG (loc id) b->w'.heap[b]? =w.heap[b]? /\∀j,μ' b j=none)
  (z:∀b,b<w0.heap.size->¬Nb L b->w'.heap[b]? =w.heap[b]?)
  (O:w'.os=w.os) (B:w'.tape=w.tape) (H:w'.output=w.output) (Q:w.heap.size<=w'.heap.size) (K:L.q->w.drawn<=w'.drawn:=by exact λ_=>aZ _):Rel N w0 μ0 L μ' loc st a w':=by
 refine⟨l.small,l.names,l.fix,l.size,l.defers,?_,I,⟨l.base.1.trans F,?_⟩,?_,l.apart,λb R S=>(z b R S).trans (l.keep b R S),O.trans l.os,B.trans l.tape,H.trans l.output,fU l.grown Q,λq=>fU (l.drawn q) (K q)⟩
 .intro i s V;obtain⟨v,hv,hr⟩:=l.env i s V;grind[Gm]
 .intro b j v h;rcases D b j v h with h|h
  .exact l.base.2 b j v h
  simp_all
 .intro id o U;exact(l.obs _ o U).keep F (G _ o U)
def Rel.grow (D:Rel N w0 μ0 L μ loc st a w) {w':World} {μ':Mu} (l:μ.ext w.heap.size μ') (B:∀b j v,μ' b j=some v->HF w' b j=some v) (z:Below w.heap.size w w') (G:L.q->w.drawn<=w'.drawn:=by exact λ_=>aZ _):Rel N w0 μ0 L μ' loc st a w':=by
 refine D.world l.1 (λb j v h=> ?_) B (λid o K b F=> ?_) (λb q O=>z.block b (fH q D.grown)) z.os z.tape z.output z.size G
 .rcases l.2 b j v h with h|h
  .simp_all
  .exact .inr (.inl (fU D.grown h))
 .obtain⟨_,q,I⟩:=(D.obs _ o K).block b F;refine⟨z.block b q,λj=> ?_⟩;cases H:μ' b j with
  |none=>rfl
  |some v=>
   rcases l.2 b j v H with h|h
   .simp_all
   omega
def Rel.TK (z:Rel N w0 μ0 L μ loc st a w) {q:World} (B:Below w.heap.size w q):∀b j v,μ b j=some v->HF q b j=some v:=λb j v h=>by have D:=z.yc b j v h;have l:=sO D;rw[ji (B.block b l)];omega
def Rel.abz (z:Rel N w0 μ0 L μ loc st a w) {q:World} (B:Below w.heap.size w q) (l:L.q->w.drawn<=q.drawn:=by exact λ_=>aZ _):Rel N w0 μ0 L μ loc st a q:=
 z.grow ⟨Mu.le.refl _,λ_ _ _ h=> .inl h⟩ (z.TK B) B l
def Rel.new (l:Rel N w0 μ0 L μ loc st a w) {id:Nat} {val:Value} {o:Ob} (hid:id<10000\/20000<=id) (R:nY w0.heap.size L μ (qN loc id val) w id o)
  (hap:∀j D,st.ob j=some D->j≠id->∀g,mG val g->¬mG (loc j) g):Rel N w0 μ0 L μ (qN loc id val) (st.new id o) a w:=by
 have q:∀i F,(st.new id o).ob i=some F->(i=id/\F=o)\/(i≠id/\∃D,st.ob i=some D/\F=D.dH id):=λi F h=>by
  by_cases e:id=i
  .subst e;simp[St.new,de] at h;simp_all
  .simp[St.new,St.dH,bZ _ _ e] at h;cases ho:st.ob i with
   |none=>simp_all
   |some D=>grind
 refine⟨l.small,l.names,?_,l.size,l.defers,?_,l.yc,l.base,?_,?_,l.keep,l.os,l.tape,l.output,l.grown,l.drawn⟩
 .intro i v hv h9 z;have B:i≠id:=λe=>by
   omega
  rw[dh _ _ B];exact l.fix i v hv h9 z
 .intro i s z;simp[St.new,St.dH] at z;cases U:st.env i with
  |none=>simp_all
  |some s'=>simp[U] at z;subst z;obtain⟨v,hv,hr⟩:=l.env i _ U;simp_all[zZ]
 .intro i F z;rcases q i _ z with⟨rfl,rfl⟩|⟨B,D,I,rfl⟩
  .exact R
  .exact DJ (l.obs i _ I) B
 .intro i j F D z I O g V;rcases q i _ z with⟨rfl,rfl⟩|⟨Q,oi',K,rfl⟩
  .rcases q j _ I with⟨rfl,_⟩|⟨H,S,G,rfl⟩
   .omega
   simp_all[di,dh]
  .rcases q j _ I with⟨rfl,rfl⟩|⟨H,S,G,rfl⟩
   .grind[dh,di]
   .rw[dh _ _ Q] at V;rw[dh _ _ H];exact l.apart i j _ _ K G O g V
def Rel.write (B:Rel N w0 μ0 L μ loc st a w) {id:Nat} {o o':Ob} (ho:st.ob id=some o) {g:Nat} (V:mG (loc id) g) {w':World}
  (D:∀b,b≠g->w'.heap[b]? =w.heap[b]?) (S:w'.os=w.os) (z:w'.tape=w.tape) (F:w'.output=w.output) (hsz:w'.heap.size=w.heap.size)
  (sY:nY w0.heap.size L μ loc w' id o') (I:L.q->w.drawn<=w'.drawn:=by exact λ_=>aZ _):Rel N w0 μ0 L μ loc { st with ob:=put st.ob id (some o') } a w':=by
 obtain⟨G,hlt,IA⟩:=(B.obs _ o ho).block g V
 have l:=(B.drop id).world (Mu.le.refl _) (λ_ _ _ h=> .inl h) (λb j v h=>by
   have:=B.yc b j v h
   grind[ji]) (λi oi q b H=>by
   by_cases e:id=i
   .subst e;simp[de] at q
   .simp[bZ _ _ e] at q;have R:b≠g:=λe'=>by subst e';exact B.apart _ i o _ ho q e b V H
    exact⟨D b R,((B.obs i _ q).block b H).2.2⟩) (λb H hl=>by
   refine D b (λe=> ?_);subst e;rcases G with h|h|⟨v,hv,h⟩
   .omega
   .exact hl h.cG
   .exact hl ⟨id,v,hv,h⟩) S z F af I
 refine⟨l.small,l.names,l.fix,l.size,l.defers,l.env,l.yc,l.base,?_,?_,l.keep,l.os,l.tape,l.output,l.grown,l.drawn⟩
 .intro i oi q;by_cases e:id=i
  .simp_all[de]
  .exact l.obs i _ (by simp_all[bZ])
 .intro i j oi oj q hj O;have get:∀k ok,put st.ob id (some o') k=some ok->∃U,st.ob k=some U:=λk ok h=>by
   grind[bZ]
  obtain⟨oi',K⟩:=get i _ q;obtain⟨oj',Q⟩:=get j _ hj;exact B.apart i j _ _ K Q O
end
