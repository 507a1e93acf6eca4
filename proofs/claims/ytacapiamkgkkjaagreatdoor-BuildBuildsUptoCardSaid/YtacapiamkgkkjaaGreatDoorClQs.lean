/- Build. -/
import Derived.Test.YtacapiamkgkkjaaGreatDoorClUc
import Derived.Test.YtacapiamkgkkjaaGreatDoorClUq
import Derived.Test.YtacapiamkgkkjaaGreatDoorClUd
import Derived.Test.YtacapiamkgkkjaaGreatDoorClT
import Derived.Test.YtacapiamkgkkjaaGreatDoorClXb
import Derived.Test.YtacapiamkgkkjaaGreatDoorRows
import Derived.ProofKit
set_option linter.all false
namespace Go.Proofs.YtacapiamkgkkjaaGreatDoor.cl.pf
open Go Go.AM
abbrev Nmd (P:cr->Prop) (d:bV):Prop:=lN (λd=>d.Op=2->P d.Name) d
def h548 {d:bV} (hl:d.Kids.length<=256) (z:∀k∈d.Kids,∀w:List (List UInt8),w.length+wk k<=1000000->∃q,f548 k w=some q/\q.length<=w.length+wk k/\∀P,Nmd P k->(∀s∈w,P s)->∀s∈q,P s):∀(xs:List bV) (i:Nat) (w:List (List UInt8)),d.Kids.drop i=xs->w.length+gY xs<=1000000->∃q,Gq i d w=some q/\q.length<=w.length+gY xs/\∀P,(∀k∈xs,Nmd P k)->(∀s∈w,P s)->∀s∈q,P s:=by intro xs;induction xs with
 |nil=>intro i w hd G;exact⟨w,abO (by rw[bp hd,au]),by omega,λP _ h=>h⟩
 |cons x xs K=>
  intro i w hd G;have I:x∈d.Kids:=by
   have:x∈d.Kids.drop i:=by rw[hd];exact fN ..
   exact iK this
  have U:gY (x::xs)=wk x+gY xs:=by rw[gY]
  obtain⟨O,e,R,L⟩:=z x I w af;obtain⟨Q,D,S,N⟩:=K (i+1) O (aJ hd) af;exact⟨Q,abO (by rw[aT hd,aj,aP hd,e,ak,aQ hd af];exact D),by omega,λP B h=>N P (λk z=>B k (dF _ z)) (L P (B x ai) h)⟩
def c548 (d:bV):lN Fm d->∀w:List (List UInt8),w.length+wk d<=1000000->∃q,f548 d w=some q/\q.length<=w.length+wk d/\∀P,Nmd P d->(∀s∈w,P s)->∀s∈q,P s:=by induction d using tA with
 |h d L=>
  intro I w K;have hl:=I.here.kl;have B:=λk B=>L k B (I.kids k B)
  have N:=NB d;by_cases D:d.Op=2
  .cases G:(w.any λx=>x==d.Name) with
   |true=>obtain⟨q,e,h,p⟩:=h548 hl B d.Kids 0 w rfl af;exact⟨q,e548 (by rw[cond_pos (by simpa using D),c555 _ _ af,G,ak,di,au];exact e),by omega,λP z=>p P z.kids⟩
   |false=>
    obtain⟨q,e,h,p⟩:=h548 hl B d.Kids 0 (w++[d.Name]) rfl (by rw[cM,c8];omega);rw[cM,c8] at h;exact⟨q,e548 (by rw[cond_pos (by simpa using D),c555 _ _ af,G,ak,eB,aj,nW ⟨by simp only[c8];omega,by simp only[c8];omega⟩];exact e),by omega,λP z K=>p P z.kids λs hs=>(bA.1 hs).elim (K s) λhs=>by rw[bS.1 hs];exact z.here D⟩
  .obtain⟨q,e,h,p⟩:=h548 hl B d.Kids 0 w rfl af;exact⟨q,e548 (by rw[cond_neg (by simpa using D)];exact e),by omega,λP z=>p P z.kids⟩
def h546 {x:Def} (B:XI x):∀(xs:List bV) (i:Nat) (w:List (List UInt8)),x.eP.drop i=xs->w.length+12 *xs.length<=1000000->∃D,PZ i x w=some D/\D.length<=w.length+12 *xs.length:=by intro xs;induction xs with
 |nil=>intro i w hd z;exact⟨w,abM (by rw[bp hd,au]),af⟩
 |cons y xs L=>
  intro i w hd z;have K:y∈x.eP:=by
   have:y∈x.eP.drop i:=by rw[hd];exact fN ..
   exact iK this
  have q:=B.df y K;have:=q.cnt;have I:=B.dl;rw[bw] at z⊢;obtain⟨N,e,P,_⟩:=c548 y q.fm w af;obtain⟨O,G,Q⟩:=L (i+1) N (aJ hd) af;exact⟨O,abM (by rw[aT hd,aj,aP hd,e,ak,aQ hd af];exact G),af⟩
def c546 {x:Def} (q:XI x):∃w,f546 x=some w/\w.length<=48:=by have G:=q.st.cnt;have B:=q.dl;obtain⟨w,e,h,_⟩:=c548 x.jR q.st.fm [] (by rw[eS];omega);rw[eS] at h;obtain⟨D,z,I⟩:=h546 q x.eP 0 w rfl af;exact⟨D,e546 (by rw[e,ak];exact z),af⟩
def rdy (q:List cr) (w:List cr):Bool:=w.all λs=>q.any λn=>n==s
theorem Ki {D:Type} (p:D->Bool) (l:List D) (i:Nat):decide (sB p l i<0)= !(l.any p):=by
 rcases sO p l i with⟨q,z⟩|⟨k,x,q,z,G,_⟩
 .rw[q,show l.any p=false from by
   rw[Bool.eq_false_iff];intro h;obtain⟨x,I,B⟩:=jI.1 h
   rw[z x I] at B;cases B]
  rfl
 .rw[q,show l.any p=true from jI.2 ⟨x,bf z,G⟩,p7 af];rfl
def h547 {t:List Template} (ht:t.length<=1000) {l:List cr} (hl:l.length<=1000):∀(xs:List cr) (i:Nat),l.drop i=xs->P0 t l i=some (rdy (t.map (·.Name)) xs):=by intro xs;induction xs with
 |nil=>intro i hd;refine abN ?_;rw[bp hd,au];rfl
 |cons x xs q=>intro i hd;refine abN ?_;rw[aT hd,aj,aP hd,XW _ _ af,ak,Ki,aQ hd af,q (i+1) (aJ hd)];unfold rdy;rw[gH,List.any_map];cases h:(t.any λy=>y.Name==x) with
  |true=>rw[show(t.any ((λn=>n==x)∘λy=>y.Name))=true from h,di,au,gq]
  |false=>rw[show(t.any ((λn=>n==x)∘λy=>y.Name))=false from h,eB,aj,pX]
def c547 {t:List Template} (ht:t.length<=1000) {x:Def} (q:XI x):∃w,f546 x=some w/\f547 t x=some (rdy (t.map (·.Name)) w):=by obtain⟨w,e,h⟩:=c546 q;refine⟨w,e,e547 ?_⟩;rw[e,ak];exact h547 ht af w 0 rfl
noncomputable def nd (x:Def):List cr:=(f546 x).getD []
noncomputable def Y7 (ns:List cr) (l:List Def):List Def->Nat->Int->Int
 |[],_,q=>q
 |x::xs,i,q=>Y7 ns l xs (i+1) (if(!(ns.any λn=>n==x.Name))&&(rdy ns (nd x)&&(decide (q<0)||Op.bytesLess x.Name ((l[q.toNat]?.map (·.Name)).getD []))) then(i:Int) else q)
def h526 {t:List Template} (ht:t.length<=1000) {l:List Def} (hl:l.length<=1000) (hd:∀x∈l,XI x):∀(xs:List Def) (i:Nat) (q:Int),l.drop i=xs->(q= -1\/∃b:Nat,q=b/\b<l.length)->
  sw t l q i=some (Y7 (t.map (·.Name)) l xs i q)/\(Y7 (t.map (·.Name)) l xs i q= -1\/∃b:Nat,Y7 (t.map (·.Name)) l xs i q=b/\b<l.length):=by
 intro xs;induction xs with
 |nil=>intro i q z B;exact⟨abK (by rw[bp z,au];rfl),B⟩
 |cons x xs ih=>
  intro i q z B;have N:i<l.length:=by have:=aR List.length z;simp only[gB,bw] at this;omega
  have hx:x∈l:=by
   have:x∈l.drop i:=by rw[z];exact fN ..
   exact iK this
  obtain⟨w,e,hr⟩:=c547 ht (hd x hx);have O:nd x=w:=by unfold nd;rw[e];rfl
  have D:((t.map (·.Name)).any λn=>n==x.Name)=t.any λy=>y.Name==x.Name:=List.any_map
  obtain⟨i1,i2⟩:=ih (i+1) i (aJ z) (.inr ⟨i,rfl,N⟩);obtain⟨Q,R⟩:=ih (i+1) q (aJ z) B;have pre:∀r,(bif decide (sB (λy=>y.Name==x.Name) t 0<0) then(bif rdy (t.map (·.Name)) w then(bif decide (q<0) then sw t l i ((i+1:Nat):Int) else bB l i λI=>bB l q λK=>bif Op.bytesLess I.Name K.Name then sw t l i ((i+1:Nat):Int) else sw t l q ((i+1:Nat):Int)) else sw t l q ((i+1:Nat):Int)) else sw t l q ((i+1:Nat):Int))=some r->sw t l q i=some r:=λr h=>by refine abK ?_;rw[aT z,aj,aP z,XW _ _ af,ak,aP z,hr,ak,aQ z af];exact h
  simp only[Y7,D,O];rw[Ki] at pre;cases S:(t.any λy=>y.Name==x.Name) with
  |true=>rw[S] at pre;refine⟨pre _ (by rw[di,au];rw[aA ai];exact Q),?_⟩;rw[aA ai];exact R
  |false=>rw[S,eB,aj] at pre;cases V:rdy (t.map (·.Name)) w with
   |false=>rw[V,au] at pre;refine⟨pre _ (by rw[aA ai];exact Q),?_⟩;rw[aA ai];exact R
   |true=>
    rw[V,aj] at pre;rcases B with B|⟨b,B,G⟩
    .subst B;refine⟨pre _ (by rw[cond_pos (by rfl),aB ai];exact i1),?_⟩;rw[aB ai];exact i2
    .subst B;rw[cond_neg (by rw[aS];omega),cQ N,cQ G] at pre;have P:l[i]=x:=by
      have:=aR List.head? z;rw[List.head?_drop] at this;rw[aN N] at this;simpa using this
     rw[P] at pre;have L:((l[((b:Nat):Int).toNat]?.map (·.Name)).getD [])=l[b].Name:=by rw[aV,aN G];rfl
     rw[L,p7 (by omega:¬((b:Nat):Int)<0)];cases U:Op.bytesLess x.Name l[b].Name with
     |true=>rw[U,aj] at pre;refine⟨pre _ (by rw[aB ai];exact i1),?_⟩;rw[aB ai];exact i2
     |false=>rw[U,au] at pre;refine⟨pre _ (by rw[aA ai];exact Q),?_⟩;rw[aA ai];exact R
def c526 {t:List Template} (ht:t.length<=1000) {l:List Def} (hl:l.length<=1000) (hd:∀x∈l,XI x):f526 t l=some (Y7 (t.map (·.Name)) l l 0 (-1))/\(Y7 (t.map (·.Name)) l l 0 (-1)= -1\/∃b:Nat,Y7 (t.map (·.Name)) l l 0 (-1)=b/\b<l.length):=by obtain⟨q,z⟩:=h526 ht hl hd l 0 (-1) rfl (.inl rfl);exact⟨e526 q,z⟩
end Go.Proofs.YtacapiamkgkkjaaGreatDoor.cl.pf
namespace Go.Proofs.YtacapiamkgkkjaaGreatDoor.cl.pf
open Go Go.AM
inductive Seq (l:List Def):List cr->Prop
 |fin {ns:List cr}:l.length<=ns.length->Seq l ns
 |step {ns:List cr} {b:Nat} (x:Def):ns.length<l.length->Y7 ns l l 0 (-1)=b->l[b]? =some x->Seq l (ns++[x.Name])->Seq l ns
section
variable {l:List Def} (hl:l.length<=4) (hd:∀x∈l,XI x)
include hl hd
theorem h512_16:∀(n:Nat) (t:List Template),l.length<=t.length+n->t.length<=l.length->∃r,IC l t=some r/\(r=0->Seq l (t.map (·.Name))):=by intro n;induction n with
 |zero=>intro t G I;exact⟨0,H6 (by rw[cond_neg (by rw[aS];omega)]),λ_=> .fin (by rw[bC];omega)⟩
 |succ n K=>
  intro t G I;by_cases L:t.length<l.length
  .obtain⟨e,q⟩:=c526 (t:=t) af af hd;rcases q with q|⟨b,q,z⟩
   .exact⟨6,H6 (by rw[cond_pos (by rw[bz];omega),e,ak,cond_pos (by rw[bz];omega)]),λh=>by omega⟩
   .obtain⟨r,B,h⟩:=K (t++[⟨l[b].Name,⟨[]⟩,[]⟩]) (by rw[cM,c8];omega) (by rw[cM,c8];omega);refine⟨r,H6 ?_,λD=> ?_⟩
    .rw[cond_pos (by rw[bz];omega),e,ak,q,cond_neg (by rw[aS];omega),cQ z,nW ⟨by simp only[c8];omega,by simp only[c8];omega⟩];exact B
    .have:=h D;rw[bZ] at this;exact .step l[b] (by rw[bC];omega) q (aN z) this
  .exact⟨0,H6 (by rw[cond_neg (by rw[aS];omega)]),λ_=> .fin (by rw[bC];omega)⟩
theorem h512_11 {i:Nat} {w:List cr} (I:w.length<=1000) (B:∃r,K8 l ((i+1:Nat):Int)=some r/\(r=0->Seq l [])) (G:i<l.length):∀(xs:List cr) (k:Nat),w.drop k=xs->∃r,IB l i w k=some r/\(r=0->Seq l []):=by intro xs;induction xs with
 |nil=>intro k q;obtain⟨r,e,h⟩:=B;exact⟨r,Oj (by rw[bp q,au,bQ af];exact e),h⟩
 |cons x xs D=>
  intro k q;obtain⟨r,e,h⟩:=D (k+1) (aJ q);by_cases z:sB (λy=>y.Name==x) l 0<0
  .exact⟨5,Oj (by rw[aT q,aj,aP q,c539 _ _ af,ak,cond_pos (by rw[bz];exact z)]),λh=>by omega⟩
  .exact⟨r,Oj (by rw[aT q,aj,aP q,c539 _ _ af,ak,cond_neg (by rw[aS];exact z),aQ q af];exact e),h⟩
theorem h512_7:∀(xs:List Def) (i:Nat),l.drop i=xs->∃r,K8 l i=some r/\(r=0->Seq l []):=by intro xs;induction xs with
 |nil=>intro i q;obtain⟨r,e,h⟩:=h512_16 hl hd l.length [] ai ai;exact⟨r,abG (by rw[bp q,au];exact e),h⟩
 |cons x xs G=>
  intro i q;have B:i<l.length:=by have:=aR List.length q;simp only[gB,bw] at this;omega
  have D:x∈l:=by
   have:x∈l.drop i:=by rw[q];exact fN ..
   exact iK this
  obtain⟨w,e,I⟩:=c546 (hd x D);obtain⟨r,z,h⟩:=h512_11 hl hd af (G (i+1) (aJ q)) B w 0 rfl;exact⟨r,abG (by rw[aT q,aj,aP q,e,ak];exact z),h⟩
theorem h512_2:∀(xs:List Def) (i:Nat),l.drop i=xs->∃r,PS l i=some r/\(r=0->Seq l []/\∀j,i<=j->∀x,l[j]? =some x->sB (λy=>y.Name==x.Name) l 0=(j:Int)):=by intro xs;induction xs with
 |nil=>
  intro i q;obtain⟨r,e,h⟩:=h512_7 hl hd l 0 rfl;refine⟨r,Uy (by rw[bp q,au];exact e),λz=>⟨h z,λj L x K=> ?_⟩⟩;have O:l.length<=i:=by have:=aR List.length q;simp only[gB,eS] at this;omega
  rw[gu af] at K;cases K
 |cons x xs N=>
  intro i q;obtain⟨r,e,h⟩:=N (i+1) (aJ q);by_cases G:sB (λy=>y.Name==x.Name) l 0=(i:Int)
  .refine⟨r,Uy (by rw[aT q,aj,aP q,c539 _ _ af,ak,G,cond_neg (by rw[bne_self_eq_false]),aQ q af];exact e),λz=>⟨(h z).1,λj L y B=> ?_⟩⟩;by_cases D:j=i
   .subst D;have I:l[j]? =some x:=by
     have:=aR List.head? q;rw[List.head?_drop] at this;exact this
    have B:=fB (I.symm.trans B);rw[<-B];exact G
   .exact(h z).2 j af y B
  .exact⟨4,Uy (by rw[aT q,aj,aP q,c539 _ _ af,ak,cond_pos (by rw[kJ];exact G)]),λh=>absurd h (by decide)⟩
theorem c512:∃r,f512 l=some r/\(r=0->Seq l []/\∀(j:Nat) (x:Def),l[j]? =some x->sB (λy=>y.Name==x.Name) l 0=(j:Int)):=by obtain⟨r,e,h⟩:=h512_2 hl hd l 0 rfl;exact⟨r,e512 e,λq=>⟨(h q).1,λj x z=>(h q).2 j (c4 _) x z⟩⟩
end
end Go.Proofs.YtacapiamkgkkjaaGreatDoor.cl.pf
namespace Go.Proofs.YtacapiamkgkkjaaGreatDoor.cl.pf
open Go Go.AM
abbrev yu (t:List Template):List cr:=t.map (·.Name)
def Qo {t:List Template} {s:cr}:(t.any λx=>x.Name==s)=true↔s∈yu t:=by rw[jI,aD];exact⟨λ⟨x,q,z⟩=>⟨x,q,by simpa using z⟩,λ⟨x,q,z⟩=>⟨x,q,by simpa using z⟩⟩
def h504_14 {t o:List Template} (ht:t.length<=1000) (ho:o.length<=1000) (hex:∃x∈t,x.Name∉yu o):∀(xs:List Template) (i:Nat) (q:Int),t.drop i=xs->
  ((q= -1/\∀(j:Nat) (x:Template),j<i->t[j]? =some x->x.Name∈yu o)\/∃(b:Nat) (y:Template),q=b/\t[b]? =some y/\y.Name∉yu o/\∀(j:Nat) (x:Template),j<i->t[j]? =some x->x.Name∉yu o->Op.bytesLess x.Name y.Name=false)->
  ∃(b:Nat) (y:Template),t[b]? =some y/\y.Name∉yu o/\(∀x∈t,x.Name∉yu o->Op.bytesLess x.Name y.Name=false)/\∀r,Fl t (o++[y])=some r->zJ q i t o=some r:=by
 intro xs;induction xs with
 |nil=>
  intro i q hd N;have hge:=mh hd;rcases N with⟨_,N⟩|⟨b,y,rfl,I,Q,L⟩
  .obtain⟨x,K,G⟩:=hex;obtain⟨j,O⟩:=jJ.1 K;exact(G (N j x (by have:=(bP.1 O).1;omega) O)).elim
  .refine⟨b,y,I,Q,λx K G=> ?_,λr R=>EB ?_⟩
   .obtain⟨j,O⟩:=jJ.1 K;exact L j x (by have:=(bP.1 O).1;omega) O G
   .obtain⟨D,hy⟩:=bP.1 I;rw[bp hd,au,AX D,aV,u9 D,hy,cH _ af ai af];exact R
 |cons x xs ih=>intro i q hd N;have hil:=eC hd;have K:=cn hd;have f1:f515 o x.Name=some (tpos o x.Name):=XW _ _ af;have f2:decide (tpos o x.Name<0)= !(o.any λy=>y.Name==x.Name):=Ki _ _ _;cases e:o.any λy=>y.Name==x.Name with
  |true=>
   have U:=Qo.1 e
   obtain⟨b,y,I,Q,L,h4⟩:=ih (i+1) q (aJ hd) (by
    rcases N with⟨S,N⟩|⟨b,y,S,I,Q,L⟩
    .refine .inl ⟨S,λj z O B=> ?_⟩;by_cases P:j=i
     .subst P;rw[K] at B;cases B;exact U
     .exact N j z af B
    .refine .inr ⟨b,y,S,I,Q,λj z O B G=> ?_⟩;by_cases P:j=i
     .subst P;rw[K] at B;cases B;exact(G U).elim
     .exact L j z af B G)
   refine⟨b,y,I,Q,L,λr R=>EB ?_⟩;rw[aT hd,aj,mc hd,mb hd,f1,ak,f2,e,di,au,aQ hd af];exact h4 r R
  |false=>
   have U:x.Name∉yu o:=λh=>by rw[Qo.2 h] at e;cases e
   rcases N with⟨S,N⟩|⟨b,y,S,I,Q,L⟩
   .obtain⟨b,y,I,Q,L,h4⟩:=ih (i+1) i (aJ hd) (.inr ⟨i,x,rfl,K,U,λj z O B G=>by
     by_cases P:j=i
     .subst P;rw[K] at B;cases B;exact BU _
     .exact(G (N j z af B)).elim⟩)
    refine⟨b,y,I,Q,L,λr R=>EB ?_⟩;rw[aT hd,aj,mc hd,mb hd,f1,ak,f2,e,eB,aj,S,cond_pos (by rfl),aQ hd af];exact h4 r R
   .obtain⟨D,hy⟩:=bP.1 I;cases V:Op.bytesLess x.Name y.Name with
    |true=>
     obtain⟨c,z,g1,g2,g3,g4⟩:=ih (i+1) i (aJ hd) (.inr ⟨i,x,rfl,K,U,λj z O B G=>by
      by_cases P:j=i
      .subst P;rw[K] at B;cases B;exact BU _
      .have:=L j z af B G;cases e3:Op.bytesLess z.Name x.Name with
       |false=>rfl
       |true=>rw[vq _ _ _ e3 V] at this;cases this⟩)
     refine⟨c,z,g1,g2,g3,λr R=>EB ?_⟩;rw[aT hd,aj,mc hd,mb hd,f1,ak,f2,e,eB,aj,S,cond_neg (by rw[aS];omega),mc hd,mb hd,AX D,aV,u9 D,hy,V,aj,aQ hd af];exact g4 r R
    |false=>
     obtain⟨c,z,g1,g2,g3,g4⟩:=ih (i+1) b (aJ hd) (.inr ⟨b,y,rfl,I,Q,λj z O B G=>by
      by_cases P:j=i
      .subst P;rw[K] at B;cases B;exact V
      .exact L j z af B G⟩)
     refine⟨c,z,g1,g2,g3,λr R=>EB ?_⟩;rw[aT hd,aj,mc hd,mb hd,f1,ak,f2,e,eB,aj,S,cond_neg (by rw[aS];omega),mc hd,mb hd,AX D,aV,u9 D,hy,V,au,aQ hd af];exact g4 r R
def h504_11 {t:List Template} (ht:t.length<=1000) (R:(yu t).Nodup):∀(k:Nat) (o:List Template),t.length=o.length+k->Lr o->(∀x∈o,x∈t)->(∀x∈t,x.Name∉yu o->∀y∈o,Op.bytesLess y.Name x.Name=true)->
  ∃m,Fl t o=some (m,0)/\Lr m/\m.length=t.length/\∀x∈m,x∈t:=by
 intro k;induction k with
 |zero=>intro o hl K O _;exact⟨o,WH (by rw[cond_neg (by rw[aS];omega)]),K,by omega,O⟩
 |succ k ih=>
  intro o hl K O B;have N:∃x∈t,x.Name∉yu o:=by
   by_cases h:∃x∈t,x.Name∉yu o
   .exact h
   .exfalso;have:=jy (m:=yu o) R λs hs=>by
     obtain⟨x,q,rfl⟩:=aD.1 hs;by_cases I:x.Name∈yu o
     .exact I
     .exact(h ⟨x,q,I⟩).elim
    rw[bC,bC] at this;omega
  obtain⟨b,y,V,I,h3,h4⟩:=h504_14 ht af N t 0 (-1) rfl (.inl ⟨rfl,λj x hj=>by omega⟩);have G:=bf V;have L:yu (o++[y])=yu o++[y.Name]:=ai
  obtain⟨m,S,U⟩:=ih (o++[y]) aH (by
   unfold Lr;rw[rD]
   exact⟨K,uR _ _,λa z c h6=>by rw[bS.1 h6];exact B y G I a z⟩) (λx q=>by
   rcases bA.1 q with q|q
   .exact O x q
   .rw[bS.1 q];exact G) λx q P a z=>by
    rw[L] at P;have D:x.Name∉yu o:=λh=>P (cT _ h)
    have Q:x.Name≠y.Name:=λh=>P (by rw[h];simp)
    rcases bA.1 z with z|z
    .exact B x q D a z
    .rw[bS.1 z];exact AL _ _ (h3 x q D) Q
  exact⟨m,WH (by rw[cond_pos (by rw[bz];omega)];exact h4 _ S),U⟩
def WX {ns:List cr} {l:List Def}:∀(xs:List Def) (i:Nat) (q:Int),l.drop i=xs->Y7 ns l xs i q=q\/∃(j:Nat) (x:Def),Y7 ns l xs i q=(j:Int)/\l[j]? =some x/\x.Name∉ns
 |[],_,q,_=> .inl rfl
 |x::xs,i,q,hd=>by
  unfold Y7;have key:=λb=>WX (ns:=ns) (l:=l) xs (i+1) b (aJ hd)
  split
  .rename_i h;rcases key (i:Int) with z|z
   .refine .inr ⟨i,x,z,cn hd,λB=> ?_⟩;rw[aK] at h
    have:(ns.any λn=>n==x.Name)=true:=jI.2 ⟨_,B,ai⟩
    rw[this] at h;simp at h
   .exact .inr z
  .exact key q
section
variable {h:aU} {T F:Nat} {sb:Int->Int->Prop} {cD:Int->Int} {val:Int->Int->Int} (H:HX h T F sb cD val) (hT:T<=1000) (hF:F<=300) (wH:0<T)
include H hT hF wH
section
variable {t:List Template} (ht:t.length<=1000) (hs:XK T F t)
include ht hs
theorem h527_14 {l:List cr} (hl:l.length<=1000) {o6:Template} {o8:FSt} {nm:cr} {a b d:List Node} {c:List FSt} {M:Nat} (R:M<=10000000) (I:∀x∈t,x.eP.length<=M) (L:∀s∈l,∃(i:Nat) (x:Template),tpos t s=(i:Int)/\t[i]? =some x):∀(xs:List cr) (i:Nat) (w:List FSt),l.drop i=xs->w.length+M *xs.length<=1000000000->
  ∃q,Fs l i o6 o8 nm a b c d w t=some ((⟨nm,⟨a⟩,q⟩,0),t)/\q.length<=w.length+M *xs.length:=by
 intro xs;induction xs with
 |nil=>intro i w hd N;exact⟨w,WJ (by rw[bp hd,au]),af⟩
 |cons s xs P=>
  intro i w hd N;obtain⟨j,x,Q,B⟩:=L s (bf (cn hd));obtain⟨z,O⟩:=bP.1 B;have K:=I x (bf B);have S:M *(s::xs).length=M *xs.length+M:=by rw[bw,Nat.mul_succ]
  obtain⟨q,D,G⟩:=P (i+1) (w++x.eP) (aJ hd) (by rw[cM];omega);rw[cM] at G;refine⟨q,WJ ?_,af⟩;rw[aT hd,aj,aP hd,(XW _ _ af).trans (aR some Q),ak,AX z,aV,u9 z,O,cH _ af af af,aQ hd af];exact D
theorem h527_6 {x:Def} (I:XI x) {r8 o6:Template} {o8:FSt} {nm:cr} {a b d:List Node} {c:List FSt} {Q:(Template×Int)×List Template->Prop} (N:∀e,e≠0->Q ((⟨[],⟨[]⟩,[]⟩,e),t)):∀(xs:List bV) (i:Nat) (w:List FSt),x.eP.drop i=xs->w.length+xs.length<=3->
  (∀K,K.length<=3->∃r,(Option.bind (f548 x.jR ([]:List cr)) λq=>Fs q 0 o6 o8 nm a b c d K t)=some r/\Q r)->∃r,K9 i h x o6 o8 nm a b c d w t=some r/\Q r:=by
 have O:=I.dl;intro xs;induction xs with
 |nil=>intro i w hd G D;obtain⟨r,L,z⟩:=D w (by simp at G;omega);exact⟨r,UB (by rw[bp hd,au];exact L),z⟩
 |cons y xs P=>
  intro i w hd G D;rw[bw] at G;obtain⟨f,e,_,z,_⟩:=C8 (u:=[]) H hT hF ht hs wH (I.df y (bf (cn hd)));by_cases B:e=0
  .obtain⟨r,R,S⟩:=P (i+1) (w++[f]) (aJ hd) aH D;refine⟨r,UB ?_,S⟩;rw[aT hd,aj,aP hd,z,mC,cond_neg (by simp[B]),cH _ af ai af,aQ hd af];exact R
  .refine⟨_,UB ?_,N e B⟩;rw[aT hd,aj,aP hd,z,mC,cond_pos (by simpa using B)]
theorem c527 {x:Def} (B:XI x) {M:Nat} (hM:M<=1000000) (R:∀y∈t,y.eP.length<=M):∃c e,f527 h x t=some ((c,e),t)/\(e=0->c.Name=x.Name/\(Can T F c.jR/\c.jR.az.length<=4096)/\c.eP.length<=3+12 *M):=by
 obtain⟨f,e,_,L,_,O,P⟩:=C8 (u:=[]) H hT hF ht hs wH B.st;by_cases z:e=0
 .have G:Can T F f/\f.az.length<=4096:=by
   rcases O with⟨_,D,Q⟩|⟨D,_⟩
   .exact⟨D,Q⟩
   .exact(D z).elim
  have S:=B.st.cnt;obtain⟨l,w1,K,w3⟩:=c548 x.jR B.st.fm [] aH;have U:∀s∈l,∃(i:Nat) (y:Template),tpos t s=(i:Int)/\t[i]? =some y:=w3 (λs=>∃(i:Nat) (y:Template),tpos t s=(i:Int)/\t[i]? =some y) ((P z).imp λd q V=>q.tm V) (λs hs=>by cases hs);have I:l.length<=12:=by simp at K;omega
  obtain⟨r,j1,j2⟩:=h527_6 H hT hF wH ht hs B (o6:=⟨[],⟨[]⟩,[]⟩) (o8:=f) (nm:=x.Name) (a:=f.az) (b:=[]) (c:=[]) (d:=[]) (r8:=⟨[],⟨[]⟩,[]⟩)
   (Q:=λr=>∃c e,r=((c,e),t)/\(e=0->c.Name=x.Name/\(Can T F c.jR/\c.jR.az.length<=4096)/\c.eP.length<=3+12 *M)) (λe z=>⟨_,e,rfl,λh=>(z h).elim⟩) x.eP 0 [] rfl (by simpa using B.dl) (λw' hw'=>by
    have hm:M *l.length<=M *12:=Az _ I;obtain⟨K,v1,v2⟩:=h527_14 H hT hF wH ht hs af (o6:=⟨[],⟨[]⟩,[]⟩) (o8:=f) (nm:=x.Name) (a:=f.az) (b:=[]) (c:=[]) (d:=[]) (M:=M) af R U l 0 w' rfl af
    exact⟨_,by rw[w1,ak];exact v1,_,0,rfl,λ_=>⟨rfl,G,by show K.length<=_;omega⟩⟩)
  obtain⟨c,N,rfl,j3⟩:=j2;refine⟨c,N,e527 ?_,j3⟩;rw[L,mC,cond_neg (by simp[z])];exact j1
 .refine⟨⟨[],⟨[]⟩,[]⟩,e,e527 ?_,λh=>(z h).elim⟩;rw[L,mC,cond_pos (by simpa using z)]
end
structure TOk (T F:Nat) (t:List Template):Prop where
 Aj:Lr t
 len:t.length<=4
 str:XK T F t
theorem h504_5 {l:List Def} (hl:l.length<=4) (hd:∀x∈l,XI x) {ns:List cr} (hq:Seq l ns):∀(t:List Template),yu t=ns->t.length<=4->XK T F t->(yu t).Nodup->(∀x∈t,x.eP.length<=50^ t.length)->
  ∃m e,K7 l h t=some (m,e)/\(e=0->TOk T F m):=by
 induction hq with
 | @fin ns hln=>
  intro t G ht4 hs z U;have Uk:t.length=ns.length:=by rw[<-G,bC]
  obtain⟨m,O,Q,g3,R⟩:=h504_11 (t:=t) af z t.length [] ai List.Pairwise.nil (λx I=>by cases I) (λx _ _ y q=>by cases q);refine⟨m,0,Uw ?_,λ_=>⟨Q,by omega,λx I=>hs x (R x I)⟩⟩;rw[cond_neg (by rw[aS];omega)];exact O
 | @step ns b x hlt D B _ ih=>
  intro t G ht4 hs z U;have Uk:t.length=ns.length:=by rw[<-G,bC]
  obtain⟨e1,_⟩:=c526 (t:=t) af af hd;rw[show t.map (·.Name)=ns from G,D] at e1;obtain⟨K,I⟩:=bP.1 B;have hp:50^ t.length<=50^ 3:=uK af af;obtain⟨c,e,O,Q⟩:=c527 H hT hF wH af hs (hd x (bf B)) (M:=50^ t.length) af U;by_cases P:e=0
  .obtain⟨g3,R,g5⟩:=Q P;have L:x.Name∉ns:=by
    rcases WX (ns:=ns) (l:=l) l 0 (-1) rfl with S|⟨j,y,S,h2,h3⟩
    .rw[D] at S;omega
    .rw[D] at S
     have:b=j:=af
     subst this;rw[B] at h2;cases h2;exact h3
   have N:yu (t++[c])=ns++[x.Name]:=by simp[G,g3]
   have V:50^ (t.length+1)=50 *50^ t.length:=by rw[Nat.pow_succ,Nat.mul_comm]
   have h1p:1<=50^ t.length:=Nat.one_le_pow _ _ af
   obtain⟨m,e3,j1,j2⟩:=ih (t++[c]) N aH (λy q=>by
    rcases bA.1 q with q|q
    .exact hs y q
    .rw[bS.1 q];exact R) (by
    rw[N,iE];rw[G] at z
    exact⟨z,by simp,λa ha b hb=>by rw[bS.1 hb];exact λe=>L (e▸ha)⟩) (λy q=>by
    rw[cM,c8,V];rcases bA.1 q with q|q
    .have:=U y q;omega
    .rw[bS.1 q];omega)
   refine⟨m,e3,Uw ?_,j2⟩;rw[cond_pos (by rw[bz];omega),e1,ak,cQ K,I,O,mC,cond_neg (by simp[P]),cH _ af ai af];exact j1
  .refine⟨[],e,Uw ?_,λh=>(P h).elim⟩;rw[cond_pos (by rw[bz];omega),e1,ak,cQ K,I,O,mC,cond_pos (by simpa using P)]
theorem c504 {l:List Def} (hl:l.length<=4) (hd:∀x∈l,XI x):∃m e,f504 h l=some (m,e)/\(e=0->TOk T F m):=by
 obtain⟨r,B,D⟩:=c512 hl hd;by_cases q:r=0
 .obtain⟨m,e,G,I⟩:=h504_5 H hT hF wH hl hd (D q).1 [] rfl ai (λx z=>by cases z) ai (λx z=>by cases z);exact⟨m,e,e504 (by rw[B,ak,cond_neg (by simp[q])];exact G),I⟩
 .exact⟨[],r,e504 (by rw[B,ak,cond_pos (by simpa using q)]),λh=>(q h).elim⟩
end
section
variable {h:aU} {T F:Nat} {sb:Int->Int->Prop} {cD:Int->Int} {val:Int->Int->Int} (H:HX h T F sb cD val) (hT:T<=1000) (hF:F<=300) (wH:0<T)
include H hT hF wH
theorem c498 (c:Case):∃t b,f498 h c=some (t,b)/\(b=true->TOk T F t/\LD c.X/\LD c.Y):=by obtain⟨D,e1,B⟩:=c502 c.Defs;obtain⟨G,q,O⟩:=c503 c.X;obtain⟨I,z,P⟩:=c503 c.Y;cases D with
 |false=>exact⟨[],false,e498 (by rw[e1,ak,cond_pos (by rfl)]),λh=>by cases h⟩
 |true=>cases G with
  |false=>exact⟨[],false,e498 (by rw[e1,ak,cond_neg (by rfl),q,ak,cond_pos (by rfl)]),λh=>by cases h⟩
  |true=>cases I with
   |false=>exact⟨[],false,e498 (by rw[e1,ak,cond_neg (by rfl),q,ak,cond_neg (by rfl),z,ak,cond_pos (by rfl)]),λh=>by cases h⟩
   |true=>obtain⟨m,e,K,L⟩:=c504 H hT hF wH (B rfl).1 (B rfl).2;refine⟨m,e==0,e498 ?_,λN=>⟨L (by simpa using N),O rfl,P rfl⟩⟩;rw[e1,ak,cond_neg (by rfl),q,ak,cond_neg (by rfl),z,ak,cond_neg (by rfl),K,ak]
theorem UH {c:Case} (I:f403 c.Decls=some h) (q:f499=some true):f497 c=some true:=by obtain⟨t,b,G,K⟩:=c498 H hT hF wH c;cases b with
 |false=>exact e497 (by rw[I,ak,G,ak,cond_pos (by rfl),q,ak])
 |true=>
  obtain⟨D,L,_⟩:=K rfl;have R:=D.len;obtain⟨f,e,P,_,B,Q,_⟩:=C8 (u:=t) H hT hF af D.str wH L;have B:=B (.refl D.Aj af);have z:Sm f:=by
   rcases Q with⟨_,N,S⟩|⟨_,rfl⟩
   .exact N.sm af af
   .exact⟨ai,λx O=>by cases O⟩
  refine e497 ?_;rw[I,ak,G,ak,cond_neg (by rfl),B,ak,P,ak,cond_pos ai,c407_eq z,ak,aj,q,ak]
end
end Go.Proofs.YtacapiamkgkkjaaGreatDoor.cl.pf
namespace Go.Proofs.YtacapiamkgkkjaaGreatDoor.cl.pf
open Go Go.AM
def law500 {c:Case} (z:Sz c.Decls) (G:Fz c.Decls) (B:f499=some true):f497 c=some true:=by obtain⟨h,t,D,q⟩:=c403 z G;have:=q.F;exact UH q.hx q.T af q.P D B
end Go.Proofs.YtacapiamkgkkjaaGreatDoor.cl.pf
set_option maxRecDepth 100000
namespace Go.Proofs.YtacapiamkgkkjaaGreatDoor.cl
open Go Go.AM Go.RowKit Go.ChangeShapes Go.WideShapes Go.ChangeAt
def zb {T:Type} {q:T->List AV}:∀{xs:List (List AV)},(∀x∈xs,∃y:T,x=q y)->∃l:List T,xs=l.map q:=by intro xs;induction xs with
 |nil=>intro _;exact⟨[],rfl⟩
 |cons x xs D=>
  intro h;obtain⟨y,rfl⟩:=h x ai;obtain⟨l,rfl⟩:=D λz B=>h z (by simp[B])
  exact⟨y::l,rfl⟩
section
variable {H:Type} {enc:TypeId×Value->H} {w:World}
def oS:vo (H:=H) Rows.uptoBulk Rows.uptoBulkAll where
 str:=λ_=>rfl
 lit:=λl=>by cases l<;>simp[Rows.uptoBulk]
 nil:=by simp[Rows.uptoBulk]
 slice:=λ_ _=>by simp[Rows.uptoBulk]
 agg:=λ_=>by simp[Rows.uptoBulk]
 nilA:=by simp[Rows.uptoBulkAll]
 ZV:=λ_ _=>by simp[Rows.uptoBulkAll]
def rd57 (n:Nat):zU enc P w Rows.uptoBulk n 57 λq=>∃x:cB,q=x.enc:=by cases n with
 |zero=>exact zU.zero
 |succ n=>
  refine(ri oS (Qs:=[λa=>∃x,a=dX .i64 x,λa=>∃x,a=dX .i64 x]) Tryz.underlying57 (by kernel_rfl) (by kernel_rfl) ?_).mono ?_
  .exact⟨OX oS Tryz.underlying3,OX oS Tryz.underlying3,trivial⟩
  .rintro a ⟨_,_,rfl,⟨z,rfl⟩,_,_,rfl,⟨B,rfl⟩,rfl⟩;exact⟨⟨z,B⟩,rfl⟩
def rd58 (n:Nat):zU enc P w Rows.uptoBulk n 58 λq=>∃l:List cB,q=[.dy 2 (l.map cB.enc)]:=by cases n with
 |zero=>exact zU.zero
 |succ n=>refine(EZ oS (sz:=2) Tryz.underlying58 (by kernel_rfl) (by decide) (rd57 n)).mono ?_;rintro a ⟨xs,rfl,z⟩;obtain⟨l,rfl⟩:=zb z;exact⟨l,rfl⟩
def rd60 (n:Nat):zU enc P w Rows.uptoBulk n 60 λq=>∃x:Node,q=x.enc:=by cases n with
 |zero=>exact zU.zero
 |succ n=>
  refine(ri oS (Qs:=[λa=>∃x,a=dX .i64 x,λa=>∃l:List cB,a=[.dy 2 (l.map cB.enc)]]) Tryz.underlying60 (by kernel_rfl) (by kernel_rfl) ?_).mono ?_
  .exact⟨OX oS Tryz.underlying3,rd58 n,trivial⟩
  .rintro a ⟨_,_,rfl,⟨z,rfl⟩,_,_,rfl,⟨B,rfl⟩,rfl⟩;exact⟨⟨z,B⟩,rfl⟩
def rd28 (n:Nat):zU enc P w Rows.uptoBulk n 28 λq=>∃l:List Node,q=[.dy 2 (l.map Node.enc)]:=by cases n with
 |zero=>exact zU.zero
 |succ n=>refine(EZ oS (sz:=2) Tryz.underlying28 (by kernel_rfl) (by decide) (rd60 n)).mono ?_;rintro a ⟨xs,rfl,z⟩;obtain⟨l,rfl⟩:=zb z;exact⟨l,rfl⟩
def rd30 (n:Nat):zU enc P w Rows.uptoBulk n 30 λq=>∃x:FSt,q=x.enc:=by cases n with
 |zero=>exact zU.zero
 |succ n=>
  refine(ri oS (Qs:=[λa=>∃l:List Node,a=[.dy 2 (l.map Node.enc)]]) Tryz.underlying30 (by kernel_rfl) (by kernel_rfl) ?_).mono ?_
  .exact⟨rd28 n,trivial⟩
  .rintro a ⟨_,_,rfl,⟨z,rfl⟩,rfl⟩;exact⟨⟨z⟩,rfl⟩
def Kq {T:Type} {z:T->List AV} {t e sz:Nat} (hs:P.underlying t=some (.slice e)) (D:P.cellsOf e=sz) (B:0<sz) {n:Nat} (h:∀n,zU enc P w Rows.uptoBulk n e λq=>∃x:T,q=z x):zU enc P w Rows.uptoBulk n t λq=>∃l:List T,q=[.dy sz (l.map z)]:=by cases n with
 |zero=>exact zU.zero
 |succ n=>refine(EZ oS (sz:=sz) hs D B (h n)).mono ?_;rintro a ⟨xs,rfl,G⟩;obtain⟨l,rfl⟩:=zb G;exact⟨l,rfl⟩
def rd167 (n:Nat):zU enc P w Rows.uptoBulk n 167 λq=>∃x:ec,q=x.enc:=by cases n with
 |zero=>exact zU.zero
 |succ n=>
  refine(ri oS (Qs:=[λa=>∃x,a=oV x,λa=>∃x,a=oV x]) Tryz.underlying167 (by kernel_rfl) (by kernel_rfl) ?_).mono ?_
  .exact⟨DA oS Tryz.underlying9,DA oS Tryz.underlying9,trivial⟩
  .rintro a ⟨_,_,rfl,⟨s,rfl⟩,_,_,rfl,⟨v,rfl⟩,rfl⟩;exact⟨⟨s,v⟩,rfl⟩
def rd116 (n:Nat):zU enc P w Rows.uptoBulk n 116 λq=>∃x:aC,q=x.enc:=by cases n with
 |zero=>exact zU.zero
 |succ n=>
  refine(ri oS (Qs:=[λa=>∃x,a=oV x,λa=>∃l:List (List UInt8),a=[.dy 1 (l.map oV)],λa=>∃l:List ec,a=[.dy 2 (l.map ec.enc)]]) Tryz.underlying116 (by kernel_rfl) (by kernel_rfl) ?_).mono ?_
  .exact⟨DA oS Tryz.underlying9,Kq Tryz.underlying24 (by kernel_rfl) (by decide) λn=>DA oS (n:=n) Tryz.underlying9,Kq Tryz.underlying114 (by kernel_rfl) (by decide) rd167,trivial⟩
  .rintro a ⟨_,_,rfl,⟨s,rfl⟩,_,_,rfl,⟨l,rfl⟩,_,_,rfl,⟨m,rfl⟩,rfl⟩;exact⟨⟨s,l,m⟩,rfl⟩
def rd27:∀n:Nat,(zU enc P w Rows.uptoBulk n 27 λq=>∃x:bV,q=x.iX)/\zU enc P w Rows.uptoBulk n 25 λq=>∃l:List bV,q=[.dy 4 (l.map bV.iX)]:=by intro n;induction n with
 |zero=>exact⟨zU.zero,zU.zero⟩
 |succ n z=>
  constructor
  .refine(ri oS (Qs:=[λa=>∃x,a=dX .i64 x,λa=>∃x,a=oV x,λa=>∃l:List (List UInt8),a=[.dy 1 (l.map oV)],λa=>∃l:List bV,a=[.dy 4 (l.map bV.iX)]]) Tryz.underlying27 (by kernel_rfl) (by kernel_rfl) ?_).mono ?_
   .exact⟨OX oS Tryz.underlying3,DA oS Tryz.underlying9,Kq Tryz.underlying24 (by kernel_rfl) (by decide) λn=>DA oS (n:=n) Tryz.underlying9,z.2,trivial⟩
   .rintro a ⟨_,_,rfl,⟨o,rfl⟩,_,_,rfl,⟨s,rfl⟩,_,_,rfl,⟨p,rfl⟩,_,_,rfl,⟨k,rfl⟩,rfl⟩;refine⟨.mk o s p k,?_⟩;rw[bV.iX,bV.Ra];rfl
  .refine(EZ oS (sz:=4) Tryz.underlying25 (by kernel_rfl) (by decide) z.1).mono ?_;rintro a ⟨xs,rfl,B⟩;obtain⟨l,rfl⟩:=zb B;exact⟨l,rfl⟩
def Vf (n:Nat):zU enc P w Rows.uptoBulk n 27 λq=>∃x:bV,q=x.enc:=(rd27 n).1.mono λa ⟨x,z⟩=>⟨x,by rw[z,bV.mj]⟩
def rd62 (n:Nat):zU enc P w Rows.uptoBulk n 62 λq=>∃x:Def,q=x.enc:=by cases n with
 |zero=>exact zU.zero
 |succ n=>
  refine(ri oS (Qs:=[λa=>∃x,a=oV x,λa=>∃x:bV,a=x.enc,λa=>∃l:List bV,a=[.dy 4 (l.map bV.iX)]]) Tryz.underlying62 (by kernel_rfl) (by kernel_rfl) ?_).mono ?_
  .exact⟨DA oS Tryz.underlying9,Vf n,(rd27 n).2,trivial⟩
  .rintro a ⟨_,_,rfl,⟨s,rfl⟩,_,_,rfl,⟨d,rfl⟩,_,_,rfl,⟨l,rfl⟩,rfl⟩;exact⟨⟨s,d,l⟩,rfl⟩
def rd32 (n:Nat):zU enc P w Rows.uptoBulk n 32 λq=>∃x:Case,q=x.enc:=by cases n with
 |zero=>exact zU.zero
 |succ n=>
  refine(ri oS (Qs:=[λa=>∃l:List aC,a=[.dy 3 (l.map aC.enc)],λa=>∃l:List Def,a=[.dy 6 (l.map Def.enc)],λa=>∃x:bV,a=x.enc,λa=>∃x:bV,a=x.enc,λa=>∃x:FSt,a=x.enc]) Tryz.underlying32 (by kernel_rfl) (by kernel_rfl) ?_).mono ?_
  .exact⟨Kq Tryz.underlying22 (by kernel_rfl) (by decide) rd116,Kq Tryz.underlying23 (by kernel_rfl) (by decide) rd62,Vf n,Vf n,rd30 n,trivial⟩
  .rintro a ⟨_,_,rfl,⟨d,rfl⟩,_,_,rfl,⟨l,rfl⟩,_,_,rfl,⟨x,rfl⟩,_,_,rfl,⟨y,rfl⟩,_,_,rfl,⟨f,rfl⟩,rfl⟩;exact⟨⟨d,l,x,y,f⟩,rfl⟩
end
def D8 {T:Type} {en:T->List AV} (h:∀x,1<=mO (en x)):∀l:List T,l.length<=AQ (l.map en)
 |[]=>by simp
 |x::l=>by have q:=D8 h l;have z:=h x;simp only[bu,bw,AQ];omega
def sz_of {d:List aC} (h:AQ (d.map aC.enc)<=1048576):Sz d/\Fz d:=by
 have key:∀t∈d,t.dQ.length<=1048576/\t.bN.length<=1048576:=λt ht=>by have q:=XU (iH (f:=aC.enc) ht);have z:=D8 (en:=oV) (λx=>by simp only[oV,mO,AV.bulk];omega) t.dQ;have B:=D8 (en:=ec.enc) (λx=>by simp only[ec.enc,mO,AV.bulk];omega) t.bN;simp only[aC.enc,mO,AV.bulk] at q;omega
 have D:=D8 (en:=aC.enc) (λx=>by simp only[aC.enc,mO,AV.bulk];omega) d;exact⟨⟨af,λt ht=>(key t ht).1⟩,λt ht=>(key t ht).2⟩
def sz_case {x:Case} (h:mO x.enc<=1048576):Sz x.Decls/\Fz x.Decls:=by refine sz_of ?_;simp only[Case.enc,mO,AV.bulk] at h;omega
end Go.Proofs.YtacapiamkgkkjaaGreatDoor.cl
namespace Go.Proofs.YtacapiamkgkkjaaGreatDoor.cl
open Go Go.AM Go.RowKit
def SJ {r:AV} {v:Value} {P:Mu} {B:Nat->Value} {w N:World} {e O g n D:Nat} {ys:List (List AV)} {us:List Value} {cur z:Array Value}
  (oE:Lq P w) (G:B 10000= .slice (some ⟨g,0,none⟩) n D) (Q:n<=D) (R:D<=maxLen) (L:cur.size=D *O) (V:F6 w.heap.size (gZ False B [10000]) 10000 g) (S:∀j,P g j=none)
  (hg:N.heap[g]? =some (.cells z e (0,0))) (hs:z.size=cur.size) (Ag:z.toList.take (n *O)=us) (G3:us.length=n *O) (K:∀b,b<w.heap.size->b≠g->N.heap[b]? =w.heap[b]?)
  (hos:N.os=w.os) (ht:N.tape=w.tape) (U:N.output=w.output) (hgr:w.heap.size<=N.heap.size) (I:ys.length=n) (hrc:cW P O ys us) (hres:rep P r v\/∃n A m c,r= .self n/\B 10000= .slice A m c/\n<=m/\v= .slice A n c):
  fF False P B [10000] r [(10000, .row e O ys)] w v P B N where
 ext:=Mu.ext.toL ⟨Mu.le.refl _,λ_ _ _ h=> .inl h⟩
 xI:=λb j x hx=>by
  have h:=oE b j x hx;have hne:b≠g:=λe=>by subst e;rw[S j] at hx;cases hx
  rw[jq (K b (sr h) hne) j];exact h
 res:=hres.imp id λ⟨n,A,m,c,h1,h2,h3,h4⟩=> .inl ⟨n,A,m,c,h1,by simp,h2,h3,h4⟩
 obs:=λid o h=>by
  have hid:=tC h;subst hid;have ho:Ob.row e O ys=o:=by simpa[find] using h
  subst ho;refine⟨us,⟨by rw[G3,I], .inr ⟨g,D,z,by rw[G,I],c4 _,hg,by rw[I];exact Q,R,by rw[hs,L],by rw[I];exact Ag⟩⟩,hrc,λq hq=> ?_⟩
  have:q=g:=by rw[G] at hq;have h2:some g=some q:=gU.1 hq;exact(fB h2).symm
  subst this;exact⟨V,S⟩
 apart:=λi j oi oj hi hj hij=>absurd ((tC hi).trans (tC hj).symm) hij
 keep:=λb hlt hl=>K b hlt (λe=>by
  subst e
  exact hl ⟨10000,B 10000,by simp[gZ],by rw[G];exact gU.2 rfl⟩)
 fix:=λ_ _ _ _=>rfl
 os:=hos
 tape:=ht
 output:=U
 grown:=hgr
 drawn:=λh=>h.elim
def M1 {S:Mu} {B:Nat->Value} {w G:World} {e R g n z:Nat} {ys:List (List AV)} {us:List Value} {cur q:Array Value}
  (Q:Lq S w) (K:B 10000= .slice (some ⟨g,0,none⟩) n z) (I:n<=z) (L:z<=maxLen) (D:cur.size=z *R) (P:F6 w.heap.size (gZ False B [10000]) 10000 g) (V:∀j,S g j=none)
  (hg:G.heap[g]? =some (.cells q e (0,0))) (hs:q.size=cur.size) (Ag:q.toList.take (n *R)=us) (G3:us.length=n *R) (N:∀b,b<w.heap.size->b≠g->G.heap[b]? =w.heap[b]?)
  (hos:G.os=w.os) (ht:G.tape=w.tape) (O:G.output=w.output) (U:w.heap.size<=G.heap.size) (hyl:ys.length=n) (hrc:cW S R ys us):
  fF False S B [10000] (.gM []) [(10000, .row e R ys)] w (.tuple #[]) S B G:=
 SJ Q K I L D P V hg hs Ag G3 N hos ht O U hyl hrc (.inl (by rw[rep.eq_def];exact⟨[],rfl,rfl⟩))
end Go.Proofs.YtacapiamkgkkjaaGreatDoor.cl
namespace Go.Proofs.YtacapiamkgkkjaaGreatDoor.cl
open Go Go.AM Go.RowKit
def Hx {K:Type} {lt:K->K->Bool}:∀{l q:List K},l.Perm q->mN lt l->mN lt q->(∀x∈l,∀y∈l,lt x y=false->lt y x=false->x=y)->l=q:=by intro l;induction l with
 |nil=>intro q h _ _ _;exact(List.nil_perm.1 h).symm
 |cons x l U=>intro q h O P L;cases q with
  |nil=>exact absurd h.symm ai
  |cons y q=>
   have z:=dO.1 O;have B:=dO.1 P;have G:x=y:=by
    have N:y∈x::l:=h.mem_iff.2 ai;have S:x∈y::q:=h.mem_iff.1 ai;rcases aI.1 N with e|I
    .exact e.symm
    .rcases aI.1 S with e|D
     .exact e
     .exact L x ai y N (B.1 x D) (z.1 y I)
   subst G;rw[U (List.Perm.cons_inv h) z.2 B.2 λa Q b R=>L a (by simp[Q]) b (by simp[R])]
def A7 {B:Type} (lt:B->B->Bool) (q:∀a b,lt a b=true->lt b a=false) (up:∀x y z,lt x y=true->lt z y=false->lt x z=true) (l:List B):mN lt (tE lt l)/\(tE lt l).Perm l:=by
 have I:∀(x:B) (l:List B),(rW lt x l).Perm (x::l):=by intro x l;induction l with
  |nil=>exact .refl _
  |cons y l G=>
   unfold rW;split
   .exact .refl _
   .exact(G.cons y).trans (.swap x y l)
 have key:∀(l E:List B),mN lt E->mN lt (l.foldl (λout x=>rW lt x out) E)/\(l.foldl (λout x=>rW lt x out) E).Perm (E++l):=by intro l;induction l with
  |nil=>intro E D;exact⟨D,ai⟩
  |cons p l G=>intro E D;obtain⟨K,L⟩:=G _ (A5 lt q up D (x:=p));refine⟨K,L.trans ?_⟩;exact((I p E).append_right l).trans (List.perm_middle (a:=p) (l₁:=E) (l₂:=l)).symm
 have:=key l [] (by simp[mN]);simpa[tE] using this
def TC (x y z:List UInt8) (h:Op.bytesLess x y=true) (q:Op.bytesLess z y=false):Op.bytesLess x z=true:=by
 by_cases e:z=y
 .rw[e];exact h
 .exact vq _ _ _ h (AL _ _ q e)
