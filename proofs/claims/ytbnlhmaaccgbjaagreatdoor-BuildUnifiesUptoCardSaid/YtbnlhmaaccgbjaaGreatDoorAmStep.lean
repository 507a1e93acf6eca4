/- THE ABSTRACT MACHINE. -/
import Derived.Test.YtbnlhmaaccgbjaaGreatDoorAmPure
set_option linter.all false
namespace Go.AM
open Go.RowKit
def Y2 {z:Type} (k:Ask z):∀w:World,w.drawn<=(w.ask k).2.drawn:=by induction k with
 |done a=>intro w;exact aU _
 |ask q range k l=>
  intro w;unfold World.ask;dsimp only;split
  .exact l 0 w
  .exact e7 (Nat.le_succ _) (l _ { w with drawn:=w.drawn+1 })
def aac (w:World) (c:Sys):w.drawn<=(w.sys c).2.drawn:=by
 unfold World.sys;have h:=Y2 (Kernel.perform c w.os) w;split
 .exact aU _
 .rename_i e;rw[e] at h;exact h
def J8 {p:Program} {w z:World} {a:Addr} {v:Value} {q:Bool} {l:List Addr} (h:w.farStore p a v q= .ok (z,l)):z.drawn=w.drawn:=by
 unfold World.farStore at h;split at h
 .split at h
  .rename_i u r e;injection h with h;subst h;unfold World.viewStore at e;simp only[bind,Except.bind,pure,Except.pure,throw,throwThe,MonadExceptOf.throw] at e
   repeat' split at e
   all_goals first|(cases e;done)|skip
   all_goals (injection e with e;simp only[ck] at e;rw[<-e.1])
  .cases h
 .cases h
def GI {B:Type} {p:Program}:∀{m:Sem B} {w z:World} {v:B},m.run p w= .ok v z->w.drawn<=z.drawn:=by intro m;induction m with
 |pure a=>intro w z v h;simp only[Sem.run] at h;injection h with _ h;subst h;exact aU _
 |load m a k l=>
  intro w z v h;simp only[Sem.run] at h;split at h
  .exact l _ h
  .split at h
   .exact l _ h
   .cases h
 |store m a x k l=>
  intro w z v h;cases x<;>simp only[Sem.run] at h
  all_goals first|(cases h;done)|skip
  all_goals
   split at h
   .split at h
    .cases h
    .have:=l h;rename_i x _ _ _;have e:∀y,(w.setCell a y).drawn=w.drawn:=λy=>by unfold World.setCell;split<;>rfl
     rw[e] at this;exact this
   .split at h
    .rename_i e;have:=l h;have:=J8 e;omega
    .cases h
 |new o k l=>intro w z v h;simp only[Sem.run] at h;have:=l _ h;exact this
 |shape r k l=>intro w z v h;simp only[Sem.run] at h;exact l _ h
 |freeze a n k l=>
  intro w z v h;simp only[Sem.run] at h;have:=l h;have e:(w.freeze a n).drawn=w.drawn:=by unfold World.freeze;split<;>rfl
  omega
 |frozen a k l=>intro w z v h;simp only[Sem.run] at h;exact l _ h
 |getObj r k l=>
  intro w z v h;simp only[Sem.run] at h;split at h
  .cases h
  .exact l _ h
  .cases h
 |setObj r o k l=>
  intro w z v h;simp only[Sem.run] at h;split at h
  .cases h
  .have:=l h;exact this
  .cases h
 |choose q k l=>
  intro w z v h;simp only[Sem.run] at h;split at h
  .exact l _ h
  .exact e7 (Nat.le_succ _) (l _ h)
 |sys c k l=>intro w z v h;simp only[Sem.run] at h;exact e7 (aac w c) (l _ h)
 |program k l=>intro w z v h;simp only[Sem.run] at h;exact l _ h
 |mark m k l=>intro w z v h;simp only[Sem.run] at h;exact l h
 |halt D=>intro w z v h;simp only[Sem.run] at h;cases h
theorem beq_iff {a b:Nat}:Nat.beq a b=true↔a=b:=by
 constructor
 .exact tI
 .rintro rfl;exact jW a
def aaT {a b:Nat} (h:a≠b):Nat.beq a b=false:=by cases e:Nat.beq a b with
 |false=>rfl
 |true=>exact absurd (beq_iff.1 e) h
theorem cZ {l:Type} (m:Nat->Option l) (d:Nat) (v:Option l):put m d v d=v:=by simp[put,jW]
theorem bR {l:Type} (m:Nat->Option l) {d i:Nat} (v:Option l) (h:d≠i):put m d v i=m i:=by simp[put,aaT h]
def qG (loc:Nat->Value) (id:Nat) (v:Value):Nat->Value:=λi=>if i=id then v else loc i
theorem cI (loc:Nat->Value) (id:Nat) (v:Value):qG loc id v id=v:=by simp[qG]
theorem cQ (loc:Nat->Value) {id i:Nat} (v:Value) (h:i≠id):qG loc id v i=loc i:=by simp[qG,h]
section
variable {μ μ':Mu} {loc loc':Nat->Value}
def zZ (h:μ.le μ'):∀(l:List oE) (q:List Value),kT μ loc l q->kT μ' loc l q
 |[],q=>λh=>h
 |c::l,q=>λ⟨u,B,e,z,D⟩=>⟨u,B,e,by cases c<;>first|exact yE h _ _ z|exact z,zZ h l B D⟩
def GD (h:μ.le μ') {s:SV} {v:Value} (k:fU μ loc s v):fU μ' loc s v:=by induction s generalizing v with
 |two s t K F=>obtain⟨x,y,e,k,O⟩:=k;exact⟨x,y,e,K k,F O⟩
 |undef=>exact k
 |any=>exact k
 |pv x=>exact yE h _ _ k
 |ptr id l=>exact k
 |row id=>exact k
 |rp id Q i l=>exact k
 |sub id Q U S=>exact k
 |cp R=>obtain⟨b,l,D,e,B,H⟩:=k;exact⟨b,l,D,e,B.mono h,λj u I=>h _ _ _ (H j u I)⟩
 |cl f z=>obtain⟨D,e,B⟩:=k;exact⟨D,e,zZ h _ _ B⟩
 |ag z=>obtain⟨D,e,B,G⟩:=k;exact⟨D,e,zZ h _ _ B,G⟩
 |aq id q=>exact k
def Lb (h:μ.le μ'):∀(l:List SV) (q:List Value),ig μ loc l q->ig μ' loc l q
 |[],q=>λh=>h
 |c::l,q=>λ⟨u,z,e,B,D⟩=>⟨u,z,e,GD h B,Lb h l z D⟩
def BV {id:Nat} {x:Value}:∀(l:List oE) (z:List Value),l.any (oE.mentions id)=false->kT μ loc l z->kT μ (qG loc id x) l z
 |[],z=>λ_ h=>h
 |c::l,z=>λq ⟨u,D,e,B,F⟩=>by simp only[qZ,jX] at q;refine⟨u,D,e,?_,BV l D q.2 F⟩;cases c with
  |v a=>exact B
  |p j=>
   have:j≠id:=λe=>by subst e;simp[oE.mentions,jW] at q
   obtain⟨b,G,H⟩:=B;exact⟨b,by rw[cQ _ _ this];exact G,H⟩
  |r j=>
   have:j≠id:=λe=>by subst e;simp[oE.mentions,jW] at q
   show u=fS (qG loc id x j);rw[cQ _ _ this];exact B
def TK {id:Nat} {x:Value} {s:SV} {v:Value} (z:s.mentions id=false) (k:fU μ loc s v):fU μ (qG loc id x) s v:=by
 have ne:∀{j:Nat},Nat.beq j id=false->j≠id:=λh e=>by subst e;simp[jW] at h
 induction s generalizing v with
 |undef=>exact k
 |any=>exact k
 |pv y=>exact k
 |ptr j H=>obtain⟨b,l,B⟩:=k;exact⟨b,by rw[cQ _ _ (ne z)];exact l,B⟩
 |row j=>show v=fS (qG loc id x j);rw[cQ _ _ (ne z)];exact k
 |rp j R i H=>obtain⟨g,n,c,l,B⟩:=k;exact⟨g,n,c,by rw[cQ _ _ (ne z)];exact l,B⟩
 |sub j R V U=>obtain⟨A,n,c,K,c',l,B⟩:=k;exact⟨A,n,c,K,c',by rw[cQ _ _ (ne z)];exact l,B⟩
 |cp S=>exact k
 |cl f D=>obtain⟨I,e,F⟩:=k;exact⟨I,e,BV _ _ z F⟩
 |ag D=>obtain⟨I,e,F,l⟩:=k;exact⟨I,e,BV _ _ z F,l⟩
 |aq j q=>simp only[SV.mentions,jX] at z;show yD q (qG loc id x j) v;rw[cQ _ _ (ne z.1)];exact k
 |two s t O G=>obtain⟨x,y,e,k,Q⟩:=k;obtain⟨l,B⟩:=jX.1 z;exact⟨x,y,e,O l k,G B Q⟩
theorem z6 {id:Nat} {x:Value} {s:SV} {v:Value} (k:fU μ loc s v):fU μ (qG loc id x) (s.dw id) v:=by unfold SV.dw;cases l:s.mentions id with
 |true=>trivial
 |false=>exact TK l k
def xm {id:Nat} {x:Value}:∀(l:List SV) (q:List Value),ig μ loc l q->ig μ (qG loc id x) (l.map (SV.dw id)) q
 |[],q=>λh=>h
 |c::l,q=>λ⟨u,z,e,B,D⟩=>⟨u,z,e,z6 B,xm l z D⟩
end
section
variable {P:Program} {N:Nat} {w0:World} {μ0:Mu} {L:sQ} {μ:Mu} {loc:Nat->Value} {st:St} {a:Act} {w:World}
def Rel.set (l:Rel N w0 μ0 L μ loc st a w) {d:Option Nat} {sv:SV} {v:Value} (B:∀i,d=some i->i<N) (F:fU μ loc sv v):
  Rel N w0 μ0 L μ loc (st.set d sv) (a.put d v) w:=by
 cases d with
 |none=>exact l
 |some d=>
  have z:=B d rfl;refine⟨l.small,l.names,l.fix,by simp[Act.put,l.size],by simp[Act.put,l.defers],?_,l.xZ,l.base,l.obs,l.apart,l.keep,l.os,l.tape,l.output,l.grown,l.drawn⟩;intro i s q;by_cases e:d=i
  .subst e;simp only[St.set,cZ,aW] at q;subst q;exact⟨v,by simp[Act.put,l.size,z],F⟩
  .simp only[St.set,bR _ _ e] at q;obtain⟨u,G,D⟩:=l.env i s q;exact⟨u,by simp only[Act.put];rw[wK e];exact G,D⟩
theorem Rel.drop (l:Rel N w0 μ0 L μ loc st a w) (id:Nat):Rel N w0 μ0 L μ loc { st with ob:=put st.ob id none } a w:=by
 have q:∀i o,put st.ob id none i=some o->st.ob i=some o/\i≠id:=λi o h=>by
  by_cases e:id=i
  .subst e;simp[cZ] at h
  .rw[bR _ _ e] at h;exact⟨h,λD=>e D.symm⟩
 exact⟨l.small,l.names,l.fix,l.size,l.defers,l.env,l.xZ,l.base,λi o h=>l.obs i o (q i o h).1,λi j z B F G=>l.apart i j z B (q i z F).1 (q j B G).1,l.keep,l.os,l.tape,l.output,l.grown,l.drawn⟩
def tj {b l g:Nat}:lI (.pointer (some ⟨b,l,none⟩)) g↔g=b:=by simp[lI,bH,eq_comm]
def wZ {b g:Nat}:lI (.map (some b)) g↔g=b:=by simp[lI,bH,eq_comm]
def ia {A:Option Addr} {n c g:Nat}:lI (.slice A n c) g↔bH (.slice A n c)=some g:=by simp[lI]
theorem pg {b:Nat} {q:List Value} {g:Nat}:lI (.tuple (.map (some b)::q).toArray) g↔g=b\/∃u∈q,bH u=some g:=by
 constructor
 .rintro (h|⟨z,e,u,l,h⟩)
  .simp[bH] at h
  .injection e with e
   have:z= .map (some b)::q:=by have:=aP Array.toList e;simpa using this.symm
   subst this;rcases aJ.1 l with rfl|l
   .left;simpa[bH,eq_comm] using h
   .exact .inr ⟨u,l,h⟩
 .rintro (rfl|⟨u,l,h⟩)
  .exact .inr ⟨_,rfl, .map (some g),by simp,rfl⟩
  .exact .inr ⟨_,rfl,u,by simp[l],h⟩
theorem kA {m:Value} {q:List Value} {g:Nat}:lI (.tuple (m::q).toArray) g↔bH m=some g\/∃u∈q,bH u=some g:=by
 constructor
 .rintro (h|⟨z,e,u,l,h⟩)
  .simp[bH] at h
  .injection e with e
   have:z=m::q:=by have:=aP Array.toList e;simpa using this.symm
   subst this;rcases aJ.1 l with rfl|l
   .exact .inl h
   .exact .inr ⟨u,l,h⟩
 .rintro (h|⟨u,l,h⟩)
  .exact .inr ⟨_,rfl,m,by simp,h⟩
  .exact .inr ⟨_,rfl,u,by simp[l],h⟩
def V1 {F:Type} {l:List Value} {q:List (Option F)} (K:l.length=q.length) (z:∀i:Nat,q[i]? =some none->l[i]? =some undef) {u:Value} (I:u∈l) {g:Nat} (G:bH u=some g):∃(i:Nat) (xs:F),q[i]? =some (some xs)/\l[i]? =some u:=by
 obtain⟨i,H,e⟩:=iV.1 I;have D:l[i]? =some u:=by rw[aK H,e]
 cases B:q[i]? with
 |none=>rw[Hg] at B;omega
 |some o=>cases o with
  |none=>have:=z i B;rw[D] at this;injection this with this;subst this;simp[undef,bH] at G
  |some xs=>exact⟨i,xs,B,D⟩
def tu {w:World} {e:TypeId} {D:Nat} {u:Value} {n:Nat} {cells:List Value} (h:w.ownsRow 0 e D u n cells) {g:Nat} (l:bH u=some g):g<w.heap.size:=by
 rcases h.2 with⟨e1,_⟩|⟨F,z,B,e1,_,q,_⟩
 .rw[e1] at l;simp[bH] at l
 .rw[e1] at l;simp[bH] at l;subst l;exact(gx.1 q).1
def qF {μ':Mu} {z:Nat} (l:μ.le μ'):∀{xs:List (List AV)} {q:List Value},cT μ z xs q->cT μ' z xs q
 |[],q,h=>h
 |x::xs,q,⟨G,ws,e,B,D,F⟩=>⟨G,ws,e,B.mono l,D,qF l F⟩
def mo {w D:World} {e:TypeId} {B:Nat} {u:Value} {n:Nat} {cells:List Value} (h:w.ownsRow 0 e B u n cells) (G:∀g,bH u=some g->D.heap[g]? =w.heap[g]?):D.ownsRow 0 e B u n cells:=by
 refine⟨h.1,?_⟩;rcases h.2 with I|⟨g,q,z,e1,F,H,l⟩
 .exact .inl I
 .exact .inr ⟨g,q,z,e1,F,(G g (by rw[e1];rfl)).trans H,l⟩
def nv.block {n0:Nat} {id:Nat} {o:Ob} (h:nv n0 L μ loc w id o):∀b,lI (loc id) b->Gz n0 L id b/\b<w.heap.size/\∀j,μ b j=none:=by intro b l;cases o with
 |box t cells=>obtain⟨O,vs,D,F,I,z,_⟩:=h;rw[D] at l;rw[tj] at l;subst l;exact⟨F,(gx.1 I).1,z⟩
 |row e sz xs=>
  obtain⟨vs,B,_,z⟩:=h;obtain⟨F,S⟩:=z b l;refine⟨F,?_,S⟩;rcases B.2 with⟨e1,_⟩|⟨g,cap,cur,e1,_,q,_⟩
  .rw[e1] at l;simp[lI,bH] at l
  .rw[e1] at l;simp[lI,bH] at l;subst l;exact(gx.1 q).1
 |mp k e ks es=>obtain⟨O,dM,H,D,F,I,z,_⟩:=h;rw[D] at l;rw[wZ] at l;subst l;exact⟨F,(gx.1 I).1,z⟩
 |mr k e sz ks vs=>
  obtain⟨O,dM,H,us,D,F,I,z,h1,K,h3,Q,R,h6⟩:=h;rw[D] at l;rcases pg.1 l with rfl|⟨u,U,q⟩
  .exact⟨.inl F,(gx.1 I).1,z⟩
  .obtain⟨i,xs,V,k2⟩:=V1 K R U q;obtain⟨u',cells,G,k4,k5,k6,k7⟩:=Q i xs V;rw[k2] at G;injection G with G;subst G;exact⟨(k7 b q).1.imp (λh=>h) .inl,tu k5 q,(k7 b q).2⟩
 |it s pos=>obtain⟨O,D,F,I,z⟩:=h;rw[D] at l;rw[tj] at l;subst l;exact⟨F,(gx.1 I).1,z⟩
 |lp xs=>obtain⟨us,D,h1,K⟩:=h;exact h1 b l
 |rn e sz k e' sz' xs ys=>
  obtain⟨m,us,vs,D,z,B,hrc,hk,K,h3,Q,R,h6,h7⟩:=h;rw[D] at l;rcases kA.1 l with q|⟨u,U,q⟩
  .exact⟨(z b q).1,tu B q,(z b q).2⟩
  .obtain⟨i,zs,V,k2⟩:=V1 K R U q;obtain⟨u',cells,G,_,k5,k6,k7⟩:=Q i zs V;rw[k2] at G;injection G with G;subst G;exact⟨(k7 b q).1,tu k5 q,(k7 b q).2⟩
def nv.keep {n0:Nat} {id:Nat} {o:Ob} {w':World} {μ':Mu} (h:nv n0 L μ loc w id o) (z:μ.le μ')
  (D:∀b,lI (loc id) b->w'.heap[b]? =w.heap[b]? /\∀j,μ' b j=none):nv n0 L μ' loc w' id o:=by
 cases o with
 |box t cells=>obtain⟨b,vs,q,R,O,Q,hs,I⟩:=h;obtain⟨e,F⟩:=D b (by rw[q];exact tj.2 rfl);exact⟨b,vs,q,R,e.trans O,F,Lb z _ _ hs,I⟩
 |row e sz xs=>obtain⟨vs,H,S,Q⟩:=h;exact⟨vs,mo H (λg l=>(D g (.inl l)).1),qF z S,λg l=>⟨(Q g l).1,(D g l).2⟩⟩
 |mp k e ks es=>obtain⟨b,dM,B,q,R,O,Q,I,K,hB⟩:=h;obtain⟨e,F⟩:=D b (by rw[q];exact wZ.2 rfl);exact⟨b,dM,B,q,R,e.trans O,F,gj z _ _ I,gj z _ _ K,hB⟩
 |mr k e sz ks vs=>
  obtain⟨b,dM,B,V,q,R,O,Q,I,K,h3,U,h5,h6⟩:=h;obtain⟨e,F⟩:=D b (by rw[q];exact pg.2 (.inl rfl));refine⟨b,dM,B,V,q,R,e.trans O,F,gj z _ _ I,K,h3,λi xs hi=> ?_,h5,h6⟩;obtain⟨u,cells,k1,k2,k3,k4,k5⟩:=U i xs hi;have G:∀g,bH u=some g->lI (loc id) g:=λg l=>by rw[q];exact pg.2 (.inr ⟨u,aZ k1,l⟩)
  exact⟨u,cells,k1,k2,mo k3 (λg l=>(D g (G g l)).1),qF z k4,λg l=>⟨(k5 g l).1,(D g (G g l)).2⟩⟩
 |it s pos=>obtain⟨b,q,R,O,Q⟩:=h;obtain⟨e,F⟩:=D b (by rw[q];exact tj.2 rfl);exact⟨b,q,R,e.trans O,F⟩
 |lp xs=>obtain⟨V,q,I,K⟩:=h;refine⟨V,q,λg l=>⟨(I g l).1,?_,(D g l).2⟩,L.q.mono z (L.q.keep (λb hu=>(D b (by rw[q];exact .inr ⟨V,rfl,hu⟩)).1) K)⟩;have h3:=(I g l).2.1;have U:=(D g l).1;rw[Ba h3] at U;exact(gx.1 U).1
 |rn e sz k e' sz' xs ys=>
  obtain⟨m,V,vs,q,Q,H,S,hk,K,h3,U,h5,h6,h7⟩:=h;have him:∀g,bH m=some g->lI (loc id) g:=λg l=>by rw[q];exact kA.2 (.inl l)
  refine⟨m,V,vs,q,λg l=>⟨(Q g l).1,(D g (him g l)).2⟩,mo H (λg l=>(D g (him g l)).1),qF z S,hk,K,h3,λi zs hi=> ?_,h5,h6,h7⟩;obtain⟨u,cells,k1,k2,k3,k4,k5⟩:=U i zs hi;have G:∀g,bH u=some g->lI (loc id) g:=λg l=>by rw[q];exact kA.2 (.inr ⟨u,aZ k1,l⟩)
  exact⟨u,cells,k1,k2,mo k3 (λg l=>(D g (G g l)).1),qF z k4,λg l=>⟨(k5 g l).1,(D g (G g l)).2⟩⟩
def DU {U:Nat} {L:sQ} {loc:Nat->Value} {i id:Nat} {x:Value} {o:Ob} (h:nv U L μ loc w i o) (l:i≠id):nv U L μ (qG loc id x) w i (o.dw id):=by cases o with
 |box t cells=>obtain⟨b,D,B,R,Q,H,hs,F⟩:=h;exact⟨b,D,by rw[cQ _ _ l];exact B,R,Q,H,xm _ _ hs,F⟩
 |row e V xs=>obtain⟨D,I,S,H⟩:=h;refine⟨D,by rw[cQ _ _ l];exact I,S,λg G=>H g (by rw[cQ _ _ l] at G;exact G)⟩
 |mp k e ks es=>obtain⟨b,dM,z,B,R,Q,H,F,O,hB⟩:=h;exact⟨b,dM,z,by rw[cQ _ _ l];exact B,R,Q,H,F,O,hB⟩
 |mr k e V ks D=>obtain⟨b,dM,z,K,B,q⟩:=h;exact⟨b,dM,z,K,by rw[cQ _ _ l];exact B,q⟩
 |it s pos=>obtain⟨b,B,q⟩:=h;exact⟨b,by rw[cQ _ _ l];exact B,q⟩
 |lp xs=>obtain⟨K,B,F,O⟩:=h;exact⟨K,by rw[cQ _ _ l];exact B,λg G=>F g (by rw[cQ _ _ l] at G;exact G),O⟩
 |rn e V k e' sz' xs ys=>obtain⟨m,K,D,B,q⟩:=h;exact⟨m,K,D,by rw[cQ _ _ l];exact B,q⟩
def Rel.world (l:Rel N w0 μ0 L μ loc st a w) {w':World} {μ':Mu} (B:μ.le μ') (F:∀b j v,μ' b j=some v->μ b j=some v\/w0.heap.size<=b\/Vi L b) (I:∀b j v,μ' b j=some v->H7 w' b j=some v)
  (G:∀id o,st.ob id=some o->∀b,lI (loc id) b->w'.heap[b]? =w.heap[b]? /\∀j,μ' b j=none)
  (z:∀b,b<w0.heap.size->¬Nj L b->w'.heap[b]? =w.heap[b]?)
  (O:w'.os=w.os) (D:w'.tape=w.tape) (H:w'.output=w.output) (Q:w.heap.size<=w'.heap.size) (K:L.q->w.drawn<=w'.drawn:=by exact λ_=>aU _):Rel N w0 μ0 L μ' loc st a w':=by
 refine⟨l.small,l.names,l.fix,l.size,l.defers,?_,I,⟨l.base.1.trans B,?_⟩,?_,l.apart,λb R S=>(z b R S).trans (l.keep b R S),O.trans l.os,D.trans l.tape,H.trans l.output,e7 l.grown Q,λq=>e7 (l.drawn q) (K q)⟩
 .intro i s V;obtain⟨v,hv,hr⟩:=l.env i s V;exact⟨v,hv,GD B hr⟩
 .intro b j v h;rcases F b j v h with h|h
  .exact l.base.2 b j v h
  .exact .inr h
 .intro id o U;exact(l.obs id o U).keep B (G id o U)
def Rel.grow (D:Rel N w0 μ0 L μ loc st a w) {w':World} {μ':Mu} (l:μ.ext w.heap.size μ') (B:∀b j v,μ' b j=some v->H7 w' b j=some v) (z:Below w.heap.size w w') (G:L.q->w.drawn<=w'.drawn:=by exact λ_=>aU _):Rel N w0 μ0 L μ' loc st a w':=by
 refine D.world l.1 (λb j v h=> ?_) B (λid o K b F=> ?_) (λb q O=>z.block b (e8 q D.grown)) z.os z.tape z.output z.size G
 .rcases l.2 b j v h with h|h
  .exact .inl h
  .exact .inr (.inl (e7 D.grown h))
 .obtain⟨_,q,H⟩:=(D.obs id o K).block b F;refine⟨z.block b q,λj=> ?_⟩;cases I:μ' b j with
  |none=>rfl
  |some v=>
   rcases l.2 b j v I with h|h
   .rw[H j] at h;cases h
   .omega
def Rel.Tv (B:Rel N w0 μ0 L μ loc st a w) {z:World} (D:Below w.heap.size w z):∀b j v,μ b j=some v->H7 z b j=some v:=λb j v h=>by have q:=B.xZ b j v h;have l:=sF q;rw[jx (D.block b l)];exact q
def Rel.Xn (z:Rel N w0 μ0 L μ loc st a w) {q:World} (B:Below w.heap.size w q) (l:L.q->w.drawn<=q.drawn:=by exact λ_=>aU _):Rel N w0 μ0 L μ loc st a q:=
 z.grow ⟨Mu.le.refl _,λ_ _ _ h=> .inl h⟩ (z.Tv B) B l
def Rel.new (l:Rel N w0 μ0 L μ loc st a w) {id:Nat} {val:Value} {o:Ob} (hid:id<10000\/20000<=id) (qQ:nv w0.heap.size L μ (qG loc id val) w id o)
  (Q:∀j z,st.ob j=some z->j≠id->∀g,lI val g->¬lI (loc j) g):Rel N w0 μ0 L μ (qG loc id val) (st.new id o) a w:=by
 have q:∀i F,(st.new id o).ob i=some F->(i=id/\F=o)\/(i≠id/\∃z,st.ob i=some z/\F=z.dw id):=λi F h=>by
  by_cases e:id=i
  .subst e;simp only[St.new,cZ,aW] at h;exact .inl ⟨rfl,h.symm⟩
  .simp only[St.new,St.dw,bR _ _ e] at h;cases ho:st.ob i with
   |none=>simp[ho] at h
   |some z=>simp[ho] at h;exact .inr ⟨λe'=>e e'.symm,z,rfl,h.symm⟩
 refine⟨l.small,l.names,?_,l.size,l.defers,?_,l.xZ,l.base,?_,?_,l.keep,l.os,l.tape,l.output,l.grown,l.drawn⟩
 .intro i v U h9 B;have H:i≠id:=λe=>by
   subst e;rcases hid with h|h<;>omega
  rw[cQ _ _ H];exact l.fix i v U h9 B
 .intro i s B;simp only[St.new,St.dw] at B;cases he:st.env i with
  |none=>simp[he] at B
  |some s'=>simp[he] at B;subst B;obtain⟨v,U,hr⟩:=l.env i s' he;exact⟨v,U,z6 hr⟩
 .intro i F B;rcases q i F B with⟨rfl,rfl⟩|⟨H,z,hj,rfl⟩
  .exact qQ
  .exact DU (l.obs i z hj) H
 .intro i j F z B hj S g O;rcases q i F B with⟨rfl,rfl⟩|⟨I,V,R,rfl⟩
  .rcases q j z hj with⟨rfl,_⟩|⟨D,K,G,rfl⟩
   .exact absurd rfl S
   .rw[cI] at O;rw[cQ _ _ D];exact Q j K G D g O
  .rcases q j z hj with⟨rfl,rfl⟩|⟨D,K,G,rfl⟩
   .rw[cQ _ _ I] at O;rw[cI];intro U;exact Q i V R I g U O
   .rw[cQ _ _ I] at O;rw[cQ _ _ D];exact l.apart i j V K R G S g O
def Rel.write (F:Rel N w0 μ0 L μ loc st a w) {id:Nat} {o o':Ob} (V:st.ob id=some o) {g:Nat} (hg:lI (loc id) g) {w':World}
  (z:∀b,b≠g->w'.heap[b]? =w.heap[b]?) (hos:w'.os=w.os) (D:w'.tape=w.tape) (H:w'.output=w.output) (hsz:w'.heap.size=w.heap.size)
  (qQ:nv w0.heap.size L μ loc w' id o') (O:L.q->w.drawn<=w'.drawn:=by exact λ_=>aU _):Rel N w0 μ0 L μ loc { st with ob:=put st.ob id (some o') } a w':=by
 obtain⟨I,hlt,U⟩:=(F.obs id o V).block g hg
 have l:=(F.drop id).world (w':=w') (Mu.le.refl _) (λ_ _ _ h=> .inl h) (λb j v h=>by
   have B:b≠g:=λe=>by subst e;rw[U j] at h;cases h
   have:=F.xZ b j v h
   rw[jx (z b B)];exact this) (λi G q b K=>by
   by_cases e:id=i
   .subst e;simp[cZ] at q
   .simp only[bR _ _ e] at q;have B:b≠g:=λe'=>by subst e';exact F.apart id i o G V q e b hg K
    exact⟨z b B,((F.obs i G q).block b K).2.2⟩) (λb K hl=>by
   refine z b (λe=> ?_);subst e;rcases I with h|h|⟨v,hv,h⟩
   .omega
   .exact hl h.cL
   .exact hl ⟨id,v,hv,h⟩) hos D H af O
 refine⟨l.small,l.names,l.fix,l.size,l.defers,l.env,l.xZ,l.base,?_,?_,l.keep,l.os,l.tape,l.output,l.grown,l.drawn⟩
 .intro i G q;by_cases e:id=i
  .subst e;simp only[cZ,aW] at q;subst q;exact qQ
  .exact l.obs i G (by simpa only[bR _ _ e] using q)
 .intro i j G oj q hj R;have get:∀k ok,put st.ob id (some o') k=some ok->∃ok',st.ob k=some ok':=λk ok h=>by
   by_cases e:id=k
   .subst e;exact⟨o,V⟩
   .exact⟨ok,by simpa only[bR _ _ e] using h⟩
  obtain⟨oi',Q⟩:=get i G q;obtain⟨oj',S⟩:=get j oj hj;exact F.apart i j oi' oj' Q S R
end
