/- THE ABSTRACT MACHINE. -/
import Derived.Test.YthppjmoncapdfaaGreatDoorAmPure
set_option linter.all false
namespace Go.AM
open Go.RowKit
def Ml {z:Type} (k:Ask z):∀w:World,w.drawn<=(w.ask k).2.drawn:=by induction k with
 |done a=>intro w;exact aJ _
 |ask q range k l=>
  intro w;unfold World.ask;dsimp only;split
  .exact l 0 w
  .exact cV (uM _) (l _ { w with drawn:=w.drawn+1 })
def Nl (w:World) (c:Sys):w.drawn<=(w.sys c).2.drawn:=by
 unfold World.sys;have h:=Ml (Kernel.perform c w.os) w;split
 .exact aJ _
 .rename_i e;rw[e] at h;exact h
def BL {p:Program} {w z:World} {a:Addr} {v:Value} {q:Bool} {l:List Addr} (h:w.farStore p a v q= .ok (z,l)):z.drawn=w.drawn:=by
 unfold World.farStore at h;split at h
 .split at h
  .rename_i u r e;injection h with h;subst h;unfold World.viewStore at e;simp only[bind,Except.bind,pure,Except.pure,throw,throwThe,MonadExceptOf.throw] at e
   repeat' split at e
   all_goals first|(cases e;done)|skip
   all_goals (injection e with e;simp only[aQ] at e;rw[<-e.1])
  .cases h
 .cases h
def zz {B:Type} {p:Program}:∀{m:Sem B} {w z:World} {v:B},m.run p w= .ok v z->w.drawn<=z.drawn:=by intro m;induction m with
 |pure a=>intro w z v h;simp only[Sem.run] at h;injection h with _ h;subst h;exact aJ _
 |load m a k l=>
  intro w z v h;simp only[Sem.run] at h;split at h
  .exact l _ h
  .split at h
   .exact l _ h
   .cases h
 |store m a x k l=>
  intro w z v h;cases x<;>simp only[Sem.run] at h
  all_goals first|(cases h;done)|skip
  all_goals
   split at h
   .split at h
    .cases h
    .have:=l h;rename_i x _ _ _;have e:∀y,(w.setCell a y).drawn=w.drawn:=λy=>by unfold World.setCell;split<;>rfl
     rw[e] at this;exact this
   .split at h
    .rename_i e;have:=l h;have:=BL e;omega
    .cases h
 |new o k l=>intro w z v h;simp only[Sem.run] at h;have:=l _ h;exact this
 |shape r k l=>intro w z v h;simp only[Sem.run] at h;exact l _ h
 |freeze a n k l=>
  intro w z v h;simp only[Sem.run] at h;have:=l h;have e:(w.freeze a n).drawn=w.drawn:=by unfold World.freeze;split<;>rfl
  omega
 |frozen a k l=>intro w z v h;simp only[Sem.run] at h;exact l _ h
 |getObj r k l=>
  intro w z v h;simp only[Sem.run] at h;split at h
  .cases h
  .exact l _ h
  .cases h
 |setObj r o k l=>
  intro w z v h;simp only[Sem.run] at h;split at h
  .cases h
  .have:=l h;exact this
  .cases h
 |choose q k l=>
  intro w z v h;simp only[Sem.run] at h;split at h
  .exact l _ h
  .exact cV (uM _) (l _ h)
 |sys c k l=>intro w z v h;simp only[Sem.run] at h;exact cV (Nl w c) (l _ h)
 |program k l=>intro w z v h;simp only[Sem.run] at h;exact l _ h
 |mark m k l=>intro w z v h;simp only[Sem.run] at h;exact l h
 |halt D=>intro w z v h;simp only[Sem.run] at h;cases h
theorem beq_iff {a b:Nat}:Nat.beq a b=true↔a=b:=by
 constructor
 .exact eN
 .rintro rfl;exact eu a
def N2 {a b:Nat} (h:a≠b):Nat.beq a b=false:=by cases e:Nat.beq a b with
 |false=>rfl
 |true=>exact absurd (beq_iff.1 e) h
theorem br {l:Type} (m:Nat->Option l) (d:Nat) (v:Option l):put m d v d=v:=by simp[put,eu]
theorem aM {l:Type} (m:Nat->Option l) {d i:Nat} (v:Option l) (h:d≠i):put m d v i=m i:=by simp[put,N2 h]
def nZ (loc:Nat->Value) (id:Nat) (v:Value):Nat->Value:=λi=>if i=id then v else loc i
theorem bu (loc:Nat->Value) (id:Nat) (v:Value):nZ loc id v id=v:=by simp[nZ]
theorem bB (loc:Nat->Value) {id i:Nat} (v:Value) (h:i≠id):nZ loc id v i=loc i:=by simp[nZ,h]
section
variable {μ μ':Mu} {loc loc':Nat->Value}
def tY (h:μ.le μ'):∀(l:List l8) (q:List Value),gW μ loc l q->gW μ' loc l q
 |[],q=>λh=>h
 |c::l,q=>λ⟨u,B,e,z,D⟩=>⟨u,B,e,by cases c<;>first|exact qP h _ _ z|exact z,tY h l B D⟩
def zx (h:μ.le μ') {s:SV} {v:Value} (k:eV μ loc s v):eV μ' loc s v:=by induction s generalizing v with
 |two s b I=>obtain⟨x,e,k⟩:=k;exact⟨x,e,I k⟩
 |undef=>exact k
 |any=>exact k
 |pv x=>exact qP h _ _ k
 |ptr id l=>exact k
 |row id=>exact k
 |rp id K i l=>exact k
 |sub id K R Q=>exact k
 |cp O=>obtain⟨b,l,D,e,B,G⟩:=k;exact⟨b,l,D,e,B.mono h,λj u H=>h _ _ _ (G j u H)⟩
 |cl f z=>obtain⟨D,e,B⟩:=k;exact⟨D,e,tY h _ _ B⟩
 |ag z=>obtain⟨D,e,B,F⟩:=k;exact⟨D,e,tY h _ _ B,F⟩
 |aq id q=>exact k
def Ch (h:μ.le μ'):∀(l:List SV) (q:List Value),fK μ loc l q->fK μ' loc l q
 |[],q=>λh=>h
 |c::l,q=>λ⟨u,z,e,B,D⟩=>⟨u,z,e,zx h B,Ch h l z D⟩
def vn {id:Nat} {x:Value}:∀(l:List l8) (z:List Value),l.any (l8.mentions id)=false->gW μ loc l z->gW μ (nZ loc id x) l z
 |[],z=>λ_ h=>h
 |c::l,z=>λq ⟨u,D,e,B,F⟩=>by simp only[List.any_cons,jR] at q;refine⟨u,D,e,?_,vn l D q.2 F⟩;cases c with
  |v a=>exact B
  |p j=>
   have:j≠id:=λe=>by subst e;simp[l8.mentions,eu] at q
   obtain⟨b,G,H⟩:=B;exact⟨b,by rw[bB _ _ this];exact G,H⟩
  |r j=>
   have:j≠id:=λe=>by subst e;simp[l8.mentions,eu] at q
   show u=dO (nZ loc id x j);rw[bB _ _ this];exact B
def ID {id:Nat} {x:Value} {s:SV} {v:Value} (l:s.mentions id=false) (k:eV μ loc s v):eV μ (nZ loc id x) s v:=by
 have ne:∀{j:Nat},Nat.beq j id=false->j≠id:=λh e=>by subst e;simp[eu] at h
 induction s generalizing v with
 |undef=>exact k
 |any=>exact k
 |pv y=>exact k
 |ptr j G=>obtain⟨b,z,D⟩:=k;exact⟨b,by rw[bB _ _ (ne l)];exact z,D⟩
 |row j=>show v=dO (nZ loc id x j);rw[bB _ _ (ne l)];exact k
 |rp j O i G=>obtain⟨g,n,c,z,D⟩:=k;exact⟨g,n,c,by rw[bB _ _ (ne l)];exact z,D⟩
 |sub j O S R=>obtain⟨A,n,c,I,c',z,D⟩:=k;exact⟨A,n,c,I,c',by rw[bB _ _ (ne l)];exact z,D⟩
 |cp Q=>exact k
 |cl f B=>obtain⟨H,e,F⟩:=k;exact⟨H,e,vn _ _ l F⟩
 |ag B=>obtain⟨H,e,F,z⟩:=k;exact⟨H,e,vn _ _ l F,z⟩
 |aq j q=>simp only[SV.mentions,jR] at l;show sK q (nZ loc id x j) v;rw[bB _ _ (ne l.1)];exact k
 |two s b K=>obtain⟨y,e,k⟩:=k;exact⟨y,e,K l k⟩
theorem tZ {id:Nat} {x:Value} {s:SV} {v:Value} (k:eV μ loc s v):eV μ (nZ loc id x) (s.bX id) v:=by unfold SV.bX;cases l:s.mentions id with
 |true=>trivial
 |false=>exact ID l k
def vo {id:Nat} {x:Value}:∀(l:List SV) (q:List Value),fK μ loc l q->fK μ (nZ loc id x) (l.map (SV.bX id)) q
 |[],q=>λh=>h
 |c::l,q=>λ⟨u,z,e,B,D⟩=>⟨u,z,e,tZ B,vo l z D⟩
end
section
variable {P:Program} {N:Nat} {w0:World} {μ0:Mu} {L:nV} {μ:Mu} {loc:Nat->Value} {st:St} {a:Act} {w:World}
def Rel.set (l:Rel N w0 μ0 L μ loc st a w) {d:Option Nat} {sv:SV} {v:Value} (B:∀i,d=some i->i<N) (F:eV μ loc sv v):
  Rel N w0 μ0 L μ loc (st.set d sv) (a.put d v) w:=by
 cases d with
 |none=>exact l
 |some d=>
  have z:=B d rfl;refine⟨l.small,l.names,l.fix,by simp[Act.put,l.size],by simp[Act.put,l.defers],?_,l.qk,l.base,l.obs,l.apart,l.keep,l.os,l.tape,l.output,l.grown,l.drawn⟩;intro i s q;by_cases e:d=i
  .subst e;simp only[St.set,br,aB] at q;subst q;exact⟨v,by simp[Act.put,l.size,z],F⟩
  .simp only[St.set,aM _ _ e] at q;obtain⟨u,G,D⟩:=l.env i s q;exact⟨u,by simp only[Act.put];rw[qW e];exact G,D⟩
theorem Rel.drop (l:Rel N w0 μ0 L μ loc st a w) (id:Nat):Rel N w0 μ0 L μ loc { st with ob:=put st.ob id none } a w:=by
 have q:∀i o,put st.ob id none i=some o->st.ob i=some o/\i≠id:=λi o h=>by
  by_cases e:id=i
  .subst e;simp[br] at h
  .rw[aM _ _ e] at h;exact⟨h,λD=>e D.symm⟩
 exact⟨l.small,l.names,l.fix,l.size,l.defers,l.env,l.qk,l.base,λi o h=>l.obs i o (q i o h).1,λi j z B F G=>l.apart i j z B (q i z F).1 (q j B G).1,l.keep,l.os,l.tape,l.output,l.grown,l.drawn⟩
def mq {b l g:Nat}:gE (.pointer (some ⟨b,l,none⟩)) g↔g=b:=by simp[gE,aP,eq_comm]
def qh {b g:Nat}:gE (.map (some b)) g↔g=b:=by simp[gE,aP,eq_comm]
def fz {A:Option Addr} {n c g:Nat}:gE (.slice A n c) g↔aP (.slice A n c)=some g:=by simp[gE]
theorem kP {b:Nat} {q:List Value} {g:Nat}:gE (.tuple (.map (some b)::q).toArray) g↔g=b\/∃u∈q,aP u=some g:=by
 constructor
 .rintro (h|⟨z,e,u,l,h⟩)
  .simp[aP] at h
  .injection e with e
   have:z= .map (some b)::q:=by have:=aC Array.toList e;simpa using this.symm
   subst this;rcases aD.1 l with rfl|l
   .left;simpa[aP,eq_comm] using h
   .exact .inr ⟨u,l,h⟩
 .rintro (rfl|⟨u,l,h⟩)
  .exact .inr ⟨_,rfl, .map (some g),by simp,rfl⟩
  .exact .inr ⟨_,rfl,u,by simp[l],h⟩
theorem gO {m:Value} {q:List Value} {g:Nat}:gE (.tuple (m::q).toArray) g↔aP m=some g\/∃u∈q,aP u=some g:=by
 constructor
 .rintro (h|⟨z,e,u,l,h⟩)
  .simp[aP] at h
  .injection e with e
   have:z=m::q:=by have:=aC Array.toList e;simpa using this.symm
   subst this;rcases aD.1 l with rfl|l
   .exact .inl h
   .exact .inr ⟨u,l,h⟩
 .rintro (h|⟨u,l,h⟩)
  .exact .inr ⟨_,rfl,m,by simp,h⟩
  .exact .inr ⟨_,rfl,u,by simp[l],h⟩
def Kw {F:Type} {l:List Value} {q:List (Option F)} (K:l.length=q.length) (z:∀i:Nat,q[i]? =some none->l[i]? =some undef) {u:Value} (I:u∈l) {g:Nat} (G:aP u=some g):∃(i:Nat) (xs:F),q[i]? =some (some xs)/\l[i]? =some u:=by
 obtain⟨i,H,e⟩:=uN.1 I;have D:l[i]? =some u:=by rw[aW H,e]
 cases B:q[i]? with
 |none=>rw[zN] at B;omega
 |some o=>cases o with
  |none=>have:=z i B;rw[D] at this;injection this with this;subst this;simp[undef,aP] at G
  |some xs=>exact⟨i,xs,B,D⟩
def oD {w:World} {e:TypeId} {F:Nat} {u:Value} {n:Nat} {cells:List Value} (h:w.ownsRow 0 e F u n cells) {g:Nat} (l:aP u=some g):g<w.heap.size:=by
 rcases h.2 with⟨q,_⟩|⟨G,B,D,q,_,z,_⟩
 .rw[q] at l;simp[aP] at l
 .rw[q] at l;simp[aP] at l;subst l;exact(cO.1 z).1
def mh {μ':Mu} {z:Nat} (l:μ.le μ'):∀{xs:List (List AV)} {q:List Value},bS μ z xs q->bS μ' z xs q
 |[],q,h=>h
 |x::xs,q,⟨G,ws,e,B,D,F⟩=>⟨G,ws,e,B.mono l,D,mh l F⟩
def jo {w F:World} {e:TypeId} {D:Nat} {u:Value} {n:Nat} {cells:List Value} (h:w.ownsRow 0 e D u n cells) (H:∀g,aP u=some g->F.heap[g]? =w.heap[g]?):F.ownsRow 0 e D u n cells:=by
 refine⟨h.1,?_⟩;rcases h.2 with K|⟨g,q,z,B,G,I,l⟩
 .exact .inl K
 .exact .inr ⟨g,q,z,B,G,(H g (by rw[B];rfl)).trans I,l⟩
def jC.block {n0:Nat} {id:Nat} {o:Ob} (h:jC n0 L μ loc w id o):∀b,gE (loc id) b->zq n0 L id b/\b<w.heap.size/\∀j,μ b j=none:=by intro b l;cases o with
 |box t cells=>obtain⟨R,vs,D,F,I,z,_⟩:=h;rw[D] at l;rw[mq] at l;subst l;exact⟨F,(cO.1 I).1,z⟩
 |row e sz xs=>
  obtain⟨vs,B,_,z⟩:=h;obtain⟨F,W⟩:=z b l;refine⟨F,?_,W⟩;rcases B.2 with⟨S,_⟩|⟨g,cap,cur,S,_,q,_⟩
  .rw[S] at l;simp[gE,aP] at l
  .rw[S] at l;simp[gE,aP] at l;subst l;exact(cO.1 q).1
 |mp k e ks es=>obtain⟨R,K,H,D,F,I,z,_⟩:=h;rw[D] at l;rw[qh] at l;subst l;exact⟨F,(cO.1 I).1,z⟩
 |mr k e sz ks vs=>
  obtain⟨R,K,H,us,D,F,I,z,h1,Q,h3,U,V,h6⟩:=h;rw[D] at l;rcases kP.1 l with rfl|⟨u,hu,q⟩
  .exact⟨.inl F,(cO.1 I).1,z⟩
  .obtain⟨i,xs,k1,k2⟩:=Kw Q V hu q;obtain⟨u',cells,G,k4,k5,k6,O⟩:=U i xs k1;rw[k2] at G;injection G with G;subst G;exact⟨.inl (O b q).1,oD k5 q,(O b q).2⟩
 |it s pos=>obtain⟨R,D,F,I,z⟩:=h;rw[D] at l;rw[mq] at l;subst l;exact⟨F,(cO.1 I).1,z⟩
 |lp xs=>obtain⟨us,D,h1,Q⟩:=h;exact h1 b l
 |rn e sz k e' sz' xs ys=>
  obtain⟨m,us,vs,D,z,B,hrc,hk,Q,h3,U,V,h6,h7⟩:=h;rw[D] at l;rcases gO.1 l with q|⟨u,hu,q⟩
  .exact⟨(z b q).1,oD B q,(z b q).2⟩
  .obtain⟨i,zs,k1,k2⟩:=Kw Q V hu q;obtain⟨u',cells,G,_,k5,k6,O⟩:=U i zs k1;rw[k2] at G;injection G with G;subst G;exact⟨(O b q).1,oD k5 q,(O b q).2⟩
def jC.keep {n0:Nat} {id:Nat} {o:Ob} {w':World} {μ':Mu} (h:jC n0 L μ loc w id o) (z:μ.le μ')
  (D:∀b,gE (loc id) b->w'.heap[b]? =w.heap[b]? /\∀j,μ' b j=none):jC n0 L μ' loc w' id o:=by
 cases o with
 |box t cells=>obtain⟨b,vs,q,S,Q,R,hs,K⟩:=h;obtain⟨e,F⟩:=D b (by rw[q];exact mq.2 rfl);exact⟨b,vs,q,S,e.trans Q,F,Ch z _ _ hs,K⟩
 |row e sz xs=>obtain⟨vs,I,U,R⟩:=h;exact⟨vs,jo I (λg l=>(D g (.inl l)).1),mh z U,λg l=>⟨(R g l).1,(D g l).2⟩⟩
 |mp k e ks es=>obtain⟨b,G,B,q,S,Q,R,K,O,hB⟩:=h;obtain⟨e,F⟩:=D b (by rw[q];exact qh.2 rfl);exact⟨b,G,B,q,S,e.trans Q,F,dK z _ _ K,dK z _ _ O,hB⟩
 |mr k e sz ks vs=>
  obtain⟨b,G,B,W,q,S,Q,R,K,O,h3,V,h5,h6⟩:=h;obtain⟨e,F⟩:=D b (by rw[q];exact kP.2 (.inl rfl));refine⟨b,G,B,W,q,S,e.trans Q,F,dK z _ _ K,O,h3,λi xs hi=> ?_,h5,h6⟩;obtain⟨u,cells,k1,k2,k3,k4,k5⟩:=V i xs hi;have H:∀g,aP u=some g->gE (loc id) g:=λg l=>by rw[q];exact kP.2 (.inr ⟨u,aS k1,l⟩)
  exact⟨u,cells,k1,k2,jo k3 (λg l=>(D g (H g l)).1),mh z k4,λg l=>⟨(k5 g l).1,(D g (H g l)).2⟩⟩
 |it s pos=>obtain⟨b,q,S,Q,R⟩:=h;obtain⟨e,F⟩:=D b (by rw[q];exact mq.2 rfl);exact⟨b,q,S,e.trans Q,F⟩
 |lp xs=>obtain⟨W,q,K,O⟩:=h;refine⟨W,q,λg l=>⟨(K g l).1,?_,(D g l).2⟩,L.q.mono z (L.q.keep (λb hu=>(D b (by rw[q];exact .inr ⟨W,rfl,hu⟩)).1) O)⟩;have h3:=(K g l).2.1;have V:=(D g l).1;rw[qX h3] at V;exact(cO.1 V).1
 |rn e sz k e' sz' xs ys=>
  obtain⟨m,W,vs,q,R,I,U,hk,O,h3,V,h5,h6,h7⟩:=h;have him:∀g,aP m=some g->gE (loc id) g:=λg l=>by rw[q];exact gO.2 (.inl l)
  refine⟨m,W,vs,q,λg l=>⟨(R g l).1,(D g (him g l)).2⟩,jo I (λg l=>(D g (him g l)).1),mh z U,hk,O,h3,λi zs hi=> ?_,h5,h6,h7⟩;obtain⟨u,cells,k1,k2,k3,k4,k5⟩:=V i zs hi;have H:∀g,aP u=some g->gE (loc id) g:=λg l=>by rw[q];exact gO.2 (.inr ⟨u,aS k1,l⟩)
  exact⟨u,cells,k1,k2,jo k3 (λg l=>(D g (H g l)).1),mh z k4,λg l=>⟨(k5 g l).1,(D g (H g l)).2⟩⟩
def xu {V:Nat} {L:nV} {loc:Nat->Value} {i id:Nat} {x:Value} {o:Ob} (h:jC V L μ loc w i o) (l:i≠id):jC V L μ (nZ loc id x) w i (o.bX id):=by cases o with
 |box t cells=>obtain⟨b,F,D,S,R,I,hs,G⟩:=h;exact⟨b,F,by rw[bB _ _ l];exact D,S,R,I,vo _ _ hs,G⟩
 |row e W xs=>obtain⟨F,K,U,I⟩:=h;refine⟨F,by rw[bB _ _ l];exact K,U,λg H=>I g (by rw[bB _ _ l] at H;exact H)⟩
 |mp k e ks es=>obtain⟨b,B,z,D,S,R,I,G,Q,hB⟩:=h;exact⟨b,B,z,by rw[bB _ _ l];exact D,S,R,I,G,Q,hB⟩
 |mr k e W ks F=>obtain⟨b,B,z,O,D,q⟩:=h;exact⟨b,B,z,O,by rw[bB _ _ l];exact D,q⟩
 |it s pos=>obtain⟨b,D,q⟩:=h;exact⟨b,by rw[bB _ _ l];exact D,q⟩
 |lp xs=>obtain⟨O,D,G,Q⟩:=h;exact⟨O,by rw[bB _ _ l];exact D,λg H=>G g (by rw[bB _ _ l] at H;exact H),Q⟩
 |rn e W k e' sz' xs ys=>obtain⟨m,O,F,D,q⟩:=h;exact⟨m,O,F,by rw[bB _ _ l];exact D,q⟩
def Rel.world (l:Rel N w0 μ0 L μ loc st a w) {w':World} {μ':Mu} (B:μ.le μ') (F:∀b j v,μ' b j=some v->μ b j=some v\/w0.heap.size<=b) (I:∀b j v,μ' b j=some v->y5 w' b j=some v)
  (G:∀id o,st.ob id=some o->∀b,gE (loc id) b->w'.heap[b]? =w.heap[b]? /\∀j,μ' b j=none)
  (z:∀b,b<w0.heap.size->¬DJ L b->w'.heap[b]? =w.heap[b]?)
  (O:w'.os=w.os) (D:w'.tape=w.tape) (H:w'.output=w.output) (Q:w.heap.size<=w'.heap.size) (K:L.q->w.drawn<=w'.drawn:=by exact λ_=>aJ _):Rel N w0 μ0 L μ' loc st a w':=by
 refine⟨l.small,l.names,l.fix,l.size,l.defers,?_,I,⟨l.base.1.trans B,?_⟩,?_,l.apart,λb R S=>(z b R S).trans (l.keep b R S),O.trans l.os,D.trans l.tape,H.trans l.output,cV l.grown Q,λq=>cV (l.drawn q) (K q)⟩
 .intro i s V;obtain⟨v,hv,W⟩:=l.env i s V;exact⟨v,hv,zx B W⟩
 .intro b j v h;rcases F b j v h with h|h
  .exact l.base.2 b j v h
  .exact .inr h
 .intro id o U;exact(l.obs id o U).keep B (G id o U)
def Rel.grow (D:Rel N w0 μ0 L μ loc st a w) {w':World} {μ':Mu} (l:μ.ext w.heap.size μ') (B:∀b j v,μ' b j=some v->y5 w' b j=some v) (z:Below w.heap.size w w') (G:L.q->w.drawn<=w'.drawn:=by exact λ_=>aJ _):Rel N w0 μ0 L μ' loc st a w':=by
 refine D.world l.1 (λb j v h=> ?_) B (λid o K b F=> ?_) (λb q O=>z.block b (dH q D.grown)) z.os z.tape z.output z.size G
 .rcases l.2 b j v h with h|h
  .exact .inl h
  .exact .inr (cV D.grown h)
 .obtain⟨_,q,H⟩:=(D.obs id o K).block b F;refine⟨z.block b q,λj=> ?_⟩;cases I:μ' b j with
  |none=>rfl
  |some v=>
   rcases l.2 b j v I with h|h
   .rw[H j] at h;cases h
   .omega
def Rel.Ij (B:Rel N w0 μ0 L μ loc st a w) {z:World} (D:Below w.heap.size w z):∀b j v,μ b j=some v->y5 z b j=some v:=λb j v h=>by have q:=B.qk b j v h;have l:=jx q;rw[dW (D.block b l)];exact q
def Rel.HB (z:Rel N w0 μ0 L μ loc st a w) {q:World} (B:Below w.heap.size w q) (l:L.q->w.drawn<=q.drawn:=by exact λ_=>aJ _):Rel N w0 μ0 L μ loc st a q:=
 z.grow ⟨Mu.le.refl _,λ_ _ _ h=> .inl h⟩ (z.Ij B) B l
def Rel.new (l:Rel N w0 μ0 L μ loc st a w) {id:Nat} {val:Value} {o:Ob} (hid:id<10000\/20000<=id) (qq:jC w0.heap.size L μ (nZ loc id val) w id o)
  (R:∀j z,st.ob j=some z->j≠id->∀g,gE val g->¬gE (loc j) g):Rel N w0 μ0 L μ (nZ loc id val) (st.new id o) a w:=by
 have q:∀i F,(st.new id o).ob i=some F->(i=id/\F=o)\/(i≠id/\∃z,st.ob i=some z/\F=z.bX id):=λi F h=>by
  by_cases e:id=i
  .subst e;simp only[St.new,br,aB] at h;exact .inl ⟨rfl,h.symm⟩
  .simp only[St.new,St.bX,aM _ _ e] at h;cases ho:st.ob i with
   |none=>simp[ho] at h
   |some z=>simp[ho] at h;exact .inr ⟨λe'=>e e'.symm,z,rfl,h.symm⟩
 refine⟨l.small,l.names,?_,l.size,l.defers,?_,l.qk,l.base,?_,?_,l.keep,l.os,l.tape,l.output,l.grown,l.drawn⟩
 .intro i v K B;have H:i≠id:=λe=>by
   subst e;rcases hid with h|h
   .rw[l.names i h] at K;cases K
   .omega
  rw[bB _ _ H];exact l.fix i v K B
 .intro i s B;simp only[St.new,St.bX] at B;cases he:st.env i with
  |none=>simp[he] at B
  |some s'=>simp[he] at B;subst B;obtain⟨v,K,hr⟩:=l.env i s' he;exact⟨v,K,tZ hr⟩
 .intro i F B;rcases q i F B with⟨rfl,rfl⟩|⟨H,z,W,rfl⟩
  .exact qq
  .exact xu (l.obs i z W) H
 .intro i j F z B W U g Q;rcases q i F B with⟨rfl,rfl⟩|⟨I,V,S,rfl⟩
  .rcases q j z W with⟨rfl,_⟩|⟨D,O,G,rfl⟩
   .exact absurd rfl U
   .rw[bu] at Q;rw[bB _ _ D];exact R j O G D g Q
  .rcases q j z W with⟨rfl,rfl⟩|⟨D,O,G,rfl⟩
   .rw[bB _ _ I] at Q;rw[bu];intro K;exact R i V S I g K Q
   .rw[bB _ _ I] at Q;rw[bB _ _ D];exact l.apart i j V O S G U g Q
def Rel.write (F:Rel N w0 μ0 L μ loc st a w) {id:Nat} {o o':Ob} (V:st.ob id=some o) {g:Nat} (hg:gE (loc id) g) {w':World}
  (z:∀b,b≠g->w'.heap[b]? =w.heap[b]?) (hos:w'.os=w.os) (D:w'.tape=w.tape) (H:w'.output=w.output) (hsz:w'.heap.size=w.heap.size)
  (W:jC w0.heap.size L μ loc w' id o') (O:L.q->w.drawn<=w'.drawn:=by exact λ_=>aJ _):Rel N w0 μ0 L μ loc { st with ob:=put st.ob id (some o') } a w':=by
 obtain⟨I,hlt,U⟩:=(F.obs id o V).block g hg
 have l:=(F.drop id).world (w':=w') (Mu.le.refl _) (λ_ _ _ h=> .inl h) (λb j v h=>by
   have B:b≠g:=λe=>by subst e;rw[U j] at h;cases h
   have:=F.qk b j v h
   rw[dW (z b B)];exact this) (λi G q b K=>by
   by_cases e:id=i
   .subst e;simp[br] at q
   .simp only[aM _ _ e] at q;have B:b≠g:=λe'=>by subst e';exact F.apart id i o G V q e b hg K
    exact⟨z b B,((F.obs i G q).block b K).2.2⟩) (λb K hl=>by
   refine z b (λe=> ?_);subst e;rcases I with h|⟨v,hv,h⟩
   .omega
   .exact hl ⟨id,v,hv,h⟩) hos D H af O
 refine⟨l.small,l.names,l.fix,l.size,l.defers,l.env,l.qk,l.base,?_,?_,l.keep,l.os,l.tape,l.output,l.grown,l.drawn⟩
 .intro i G q;by_cases e:id=i
  .subst e;simp only[br,aB] at q;subst q;exact W
  .exact l.obs i G (by simpa only[aM _ _ e] using q)
 .intro i j G oj q hj R;have get:∀k ok,put st.ob id (some o') k=some ok->∃ok',st.ob k=some ok':=λk ok h=>by
   by_cases e:id=k
   .subst e;exact⟨o,V⟩
   .exact⟨ok,by simpa only[aM _ _ e] using h⟩
  obtain⟨oi',Q⟩:=get i G q;obtain⟨WJ,S⟩:=get j oj hj;exact F.apart i j oi' WJ Q S R
end
