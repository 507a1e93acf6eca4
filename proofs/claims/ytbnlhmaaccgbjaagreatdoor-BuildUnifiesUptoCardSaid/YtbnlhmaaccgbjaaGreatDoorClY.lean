/- Build. -/
import Derived.Test.YtbnlhmaaccgbjaaGreatDoorClUf
import Derived.Test.YtbnlhmaaccgbjaaGreatDoorClVb
import Derived.Test.YtbnlhmaaccgbjaaGreatDoorClT
import Derived.Test.YtbnlhmaaccgbjaaGreatDoorClXb
import Derived.Test.YtbnlhmaaccgbjaaGreatDoorRows
import Derived.ProofKit
import Derived.Shelf.Sort.Plain
import Derived.Shelf.Slices.In.SortNone
import Derived.Shelf.SlSortCmp.WholeK
import Derived.Shelf.SlSortCmp.NoneTotal
import Derived.Ground.Names2Prog
import Derived.Ground.SlsfProg
import Derived.Test.YtbnlhmaaccgbjaaGreatDoorProg
set_option linter.all false
namespace Go.Proofs.YtbnlhmaaccgbjaaGreatDoor.cl.pf
open Go Go.AM
inductive Seq (l:List Def):List b9->Prop
 |fin {ns:List b9}:l.length<=ns.length->Seq l ns
 |step {ns:List b9} {b:Nat} (x:Def):ns.length<l.length->nxt ns l l 0 (-1)=b->l[b]? =some x->Seq l (ns++[x.Name])->Seq l ns
section
variable {l:List Def} (hl:l.length<=4) (hd:∀x∈l,YU x)
include hl hd
theorem h512_16:∀(n:Nat) (t:List Template),l.length<=t.length+n->t.length<=l.length->∃r,Jg l t=some r/\(r=0->Seq l (t.map (·.Name))):=by
 intro n
 induction n with
 |zero=>
  intro t G I
  exact⟨0,IP (by rw[cond_neg (by rw[aT];omega)]),λ_=> .fin (by rw[bz];omega)⟩
 |succ n K=>
  intro t G I
  by_cases L:t.length<l.length
  .obtain⟨e,q⟩:=c526 (t:=t) af af hd
   rcases q with q|⟨b,q,z⟩
   .exact⟨6,IP (by rw[cond_pos (by rw[bB];omega),e,aj,cond_pos (by rw[bB];omega)]),λh=>by omega⟩
   .obtain⟨r,B,h⟩:=K (t++[⟨l[b].Name,⟨[]⟩,[]⟩]) (by rw[cF,c7];omega) (by rw[cF,c7];omega)
    refine⟨r,IP ?_,λD=> ?_⟩
    .rw[cond_pos (by rw[bB];omega),e,aj,q,cond_neg (by rw[aT];omega),cO z,mH ⟨by simp only[c7];omega,by simp only[c7];omega⟩]
     exact B
    .have:=h D
     rw[cn] at this
     exact .step l[b] (by rw[bz];omega) q (aK z) this
  .exact⟨0,IP (by rw[cond_neg (by rw[aT];omega)]),λ_=> .fin (by rw[bz];omega)⟩
theorem h512_11 {i:Nat} {w:List b9} (I:w.length<=1000) (B:∃r,LX l ((i+1:Nat):Int)=some r/\(r=0->Seq l [])) (G:i<l.length):∀(xs:List b9) (k:Nat),w.drop k=xs->∃r,Jf l i w k=some r/\(r=0->Seq l []):=by
 intro xs
 induction xs with
 |nil=>
  intro k q
  obtain⟨r,e,h⟩:=B
  exact⟨r,O3 (by rw[bq q,az,bP af];exact e),h⟩
 |cons x xs D=>
  intro k q
  obtain⟨r,e,h⟩:=D (k+1) (aI q)
  by_cases z:sK (λy=>y.Name==x) l 0<0
  .exact⟨5,O3 (by rw[aV q,ak,aM q,c539 _ _ af,aj,cond_pos (by rw[bB];exact z)]),λh=>by omega⟩
  .exact⟨r,O3 (by rw[aV q,ak,aM q,c539 _ _ af,aj,cond_neg (by rw[aT];exact z),aR q af];exact e),h⟩
theorem h512_7:∀(xs:List Def) (i:Nat),l.drop i=xs->∃r,LX l i=some r/\(r=0->Seq l []):=by
 intro xs
 induction xs with
 |nil=>
  intro i q
  obtain⟨r,e,h⟩:=h512_16 hl hd l.length [] ai ai
  exact⟨r,ac5 (by rw[bq q,az];exact e),h⟩
 |cons x xs G=>
  intro i q
  have B:i<l.length:=by have:=aP List.length q;simp only[iN,bp] at this;omega
  have D:x∈l:=by
   have:x∈l.drop i:=by rw[q];exact gE ..
   exact ji this
  obtain⟨w,e,I⟩:=c546 (hd x D)
  obtain⟨r,z,h⟩:=h512_11 hl hd af (G (i+1) (aI q)) B w 0 rfl
  exact⟨r,ac5 (by rw[aV q,ak,aM q,e,aj];exact z),h⟩
theorem h512_2:∀(xs:List Def) (i:Nat),l.drop i=xs->∃r,QD l i=some r/\(r=0->Seq l []/\∀j,i<=j->∀x,l[j]? =some x->sK (λy=>y.Name==x.Name) l 0=(j:Int)):=by
 intro xs
 induction xs with
 |nil=>
  intro i q
  obtain⟨r,e,h⟩:=h512_7 hl hd l 0 rfl
  refine⟨r,VF (by rw[bq q,az];exact e),λz=>⟨h z,λj L x K=> ?_⟩⟩
  have O:l.length<=i:=by have:=aP List.length q;simp only[iN,dH] at this;omega
  rw[gM af] at K;cases K
 |cons x xs N=>
  intro i q
  obtain⟨r,e,h⟩:=N (i+1) (aI q)
  by_cases G:sK (λy=>y.Name==x.Name) l 0=(i:Int)
  .refine⟨r,VF (by rw[aV q,ak,aM q,c539 _ _ af,aj,G,cond_neg (by rw[bne_self_eq_false]),aR q af];exact e),λz=>⟨(h z).1,λj L y B=> ?_⟩⟩
   by_cases D:j=i
   .subst D
    have I:l[j]? =some x:=by
     have:=aP List.head? q
     rw[List.head?_drop] at this
     exact this
    have B:=eT (I.symm.trans B)
    rw[<-B];exact G
   .exact(h z).2 j af y B
  .exact⟨4,VF (by rw[aV q,ak,aM q,c539 _ _ af,aj,cond_pos (by rw[nP];exact G)]),λh=>absurd h (by decide)⟩
theorem c512:∃r,f512 l=some r/\(r=0->Seq l []/\∀(j:Nat) (x:Def),l[j]? =some x->sK (λy=>y.Name==x.Name) l 0=(j:Int)):=by
 obtain⟨r,e,h⟩:=h512_2 hl hd l 0 rfl
 exact⟨r,e512 e,λq=>⟨(h q).1,λj x z=>(h q).2 j (cW _) x z⟩⟩
end
end Go.Proofs.YtbnlhmaaccgbjaaGreatDoor.cl.pf
namespace Go.Proofs.YtbnlhmaaccgbjaaGreatDoor.cl.pf
open Go Go.AM
abbrev An (t:List Template):List b9:=t.map (·.Name)
def Rt {t:List Template} {s:b9}:(t.any λx=>x.Name==s)=true↔s∈An t:=by
 simp
def h504_14 {t o:List Template} (ht:t.length<=1000) (ho:o.length<=1000) (hex:∃x∈t,x.Name∉An o):∀(xs:List Template) (i:Nat) (q:Int),t.drop i=xs->
  ((q= -1/\∀(j:Nat) (x:Template),j<i->t[j]? =some x->x.Name∈An o)\/∃(b:Nat) (y:Template),q=b/\t[b]? =some y/\y.Name∉An o/\∀(j:Nat) (x:Template),j<i->t[j]? =some x->x.Name∉An o->Op.bytesLess x.Name y.Name=false)->
  ∃(b:Nat) (y:Template),t[b]? =some y/\y.Name∉An o/\(∀x∈t,x.Name∉An o->Op.bytesLess x.Name y.Name=false)/\∀r,FQ t (o++[y])=some r->Ai q i t o=some r:=by
 intro xs
 induction xs with
 |nil=>
  intro i q hd L
  have hge:=mT hd
  rcases L with⟨_,L⟩|⟨b,y,rfl,G,K,P⟩
  .obtain⟨x,I,N⟩:=hex
   obtain⟨j,Q⟩:=jO.1 I
   exact(N (L j x (by have:=(bQ.1 Q).1;omega) Q)).elim
  .refine⟨b,y,G,K,λx I N=> ?_,λr S=>E0 ?_⟩
   .obtain⟨j,Q⟩:=jO.1 I
    grind
   .obtain⟨B,hy⟩:=bQ.1 G
    rw[bq hd,az,Bu B,bg,tf B,hy,cC _ af ai af]
    omega
 |cons x xs ih=>
  intro i q hd L
  have hil:=eF hd
  have I:=bZ hd
  have V:f515 o x.Name=some (tpos o x.Name):=Y9 _ _ af
  have f2:decide (tpos o x.Name<0)= !(o.any λy=>y.Name==x.Name):=K0 _ _ _
  cases e:o.any λy=>y.Name==x.Name with
  |true=>
   have U:=Rt.1 e
   obtain⟨b,y,G,K,P,h4⟩:=ih (i+1) q (aI hd) (by
    rcases L with⟨O,L⟩|⟨b,y,O,G,K,P⟩
    .refine .inl ⟨O,λj z Q D=> ?_⟩
     by_cases R:j=i
     .subst R;rw[I] at D;cases D;exact U
     .exact L j z af D
    .refine .inr ⟨b,y,O,G,K,λj z Q D N=> ?_⟩
     by_cases R:j=i
     .subst R;rw[I] at D;cases D;exact(N U).elim
     .exact P j z af D N)
   refine⟨b,y,G,K,P,λr S=>E0 ?_⟩
   rw[aV hd,ak,mh hd,me hd,V,aj,f2,e,dx,az,aR hd af]
   exact h4 r S
  |false=>
   have U:x.Name∉An o:=λh=>by rw[Rt.2 h] at e;cases e
   rcases L with⟨O,L⟩|⟨b,y,O,G,K,P⟩
   .obtain⟨b,y,G,K,P,h4⟩:=ih (i+1) i (aI hd) (.inr ⟨i,x,rfl,I,U,λj z Q D N=>by
     by_cases R:j=i
     .subst R;rw[I] at D;cases D;exact Cm _
     grind⟩)
    refine⟨b,y,G,K,P,λr S=>E0 ?_⟩
    rw[aV hd,ak,mh hd,me hd,V,aj,f2,e,eM,ak,O,cond_pos (by rfl),aR hd af]
    exact h4 r S
   .obtain⟨B,hy⟩:=bQ.1 G
    cases e2:Op.bytesLess x.Name y.Name with
    |true=>
     obtain⟨c,z,g1,g2,g3,g4⟩:=ih (i+1) i (aI hd) (.inr ⟨i,x,rfl,I,U,λj z Q D N=>by
      by_cases R:j=i
      .subst R;rw[I] at D;cases D;exact Cm _
      .have:=P j z af D N
       grind[Op.bytesLess,vI]⟩)
     refine⟨c,z,g1,g2,g3,λr S=>E0 ?_⟩
     rw[aV hd,ak,mh hd,me hd,V,aj,f2,e,eM,ak,O,cond_neg (by rfl),mh hd,me hd,Bu B,bg,tf B,hy,e2,ak,aR hd af]
     simp_all
    |false=>
     obtain⟨c,z,g1,g2,g3,g4⟩:=ih (i+1) b (aI hd) (.inr ⟨b,y,rfl,G,K,λj z Q D N=>by
      grind⟩)
     refine⟨c,z,g1,g2,g3,λr S=>E0 ?_⟩
     rw[aV hd,ak,mh hd,me hd,V,aj,f2,e,eM,ak,O,cond_neg (by rfl),mh hd,me hd,Bu B,bg,tf B,aR hd af]
     simp_all
def h504_11 {t:List Template} (ht:t.length<=1000) (L:(An t).Nodup):∀(k:Nat) (o:List Template),t.length=o.length+k->Me o->(∀x∈o,x∈t)->(∀x∈t,x.Name∉An o->∀y∈o,Op.bytesLess y.Name x.Name=true)->
  ∃m,FQ t o=some (m,0)/\Me m/\m.length=t.length/\∀x∈m,x∈t:=by
 intro k
 induction k with
 |zero=>
  simp_all[XV,cond_neg,aT]
 |succ k ih=>
  intro o hl V hm D
  have B:∃x∈t,x.Name∉An o:=by
   by_cases h:∃x∈t,x.Name∉An o
   .exact h
   .exfalso
    have:=jE (m:=An o) L λs hs=>by
     grind
    grind
  obtain⟨b,y,Q,R,S,h4⟩:=h504_14 ht af B t 0 (-1) rfl (.inl ⟨rfl,λj x hj=>by omega⟩)
  have N:=aZ Q
  have z:An (o++[y])=An o++[y.Name]:=ai
  obtain⟨m,g1,P⟩:=ih (o++[y]) aH (by
   unfold Me
   rw[rN]
   exact⟨V,uZ _ _,λa q c U=>by rw[cv.1 U];exact D y N R a q⟩) (λx O=>by
   grind) λx O G a q=>by
    rw[z] at G
    have I:x.Name∉An o:=λh=>G (cR _ h)
    have K:x.Name≠y.Name:=λh=>G (by simp_all)
    rcases bu.1 q with q|q
    .simp_all
    .rw[cv.1 q]
     exact Bk _ _ (S x O I) K
  exact⟨m,XV (by grind),P⟩
def Ya {ns:List b9} {l:List Def}:∀(xs:List Def) (i:Nat) (q:Int),l.drop i=xs->nxt ns l xs i q=q\/∃(j:Nat) (x:Def),nxt ns l xs i q=(j:Int)/\l[j]? =some x/\x.Name∉ns
 |[],_,q,_=> .inl rfl
 |x::xs,i,q,hd=>by
  unfold nxt
  have key:=λb=>Ya (ns:=ns) (l:=l) xs (i+1) b (aI hd)
  split
  .rename_i h
   rcases key (i:Int) with z|z
   .refine .inr ⟨i,x,z,bZ hd,λB=> ?_⟩
    rw[aS] at h
    have:(ns.any λn=>n==x.Name)=true:=kM.2 ⟨_,B,ai⟩
    rw[this] at h
    simp at h
   .exact .inr z
  .exact key q
section
variable {h:aN} {T F:Nat} {sb:Int->Int->Prop} {bS:Int->Int} {val:Int->Int->Int} (H:HX h T F sb bS val) (hT:T<=1000) (hF:F<=300) (vk:0<T)
include H hT hF vk
section
variable {t:List Template} (ht:t.length<=1000) (hs:YX T F t)
include ht hs
theorem h527_14 {l:List b9} (hl:l.length<=1000) {o6:Template} {o8:FSt} {nm:b9} {a b d:List Node} {c:List FSt} {M:Nat} (R:M<=10000000) (I:∀x∈t,x.eS.length<=M) (L:∀s∈l,∃(i:Nat) (x:Template),tpos t s=(i:Int)/\t[i]? =some x):∀(xs:List b9) (i:Nat) (w:List FSt),l.drop i=xs->w.length+M *xs.length<=1000000000->
  ∃q,FV l i o6 o8 nm a b c d w t=some ((⟨nm,⟨a⟩,q⟩,0),t)/\q.length<=w.length+M *xs.length:=by
 intro xs
 induction xs with
 |nil=>intro i w hd N;exact⟨w,XW (by rw[bq hd,az]),af⟩
 |cons s xs P=>
  intro i w hd N
  obtain⟨j,x,Q,B⟩:=L s (aZ (bZ hd))
  obtain⟨z,O⟩:=bQ.1 B
  have K:=I x (aZ B)
  have S:M *(s::xs).length=M *xs.length+M:=by rw[bp,Nat.mul_succ]
  obtain⟨q,D,G⟩:=P (i+1) (w++x.eS) (aI hd) (by rw[cF];omega)
  rw[cF] at G
  refine⟨q,XW ?_,af⟩
  rw[aV hd,ak,aM hd,(Y9 _ _ af).trans (aP some Q),aj,Bu z,bg,tf z,O,cC _ af af af,aR hd af]
  exact D
theorem h527_6 {x:Def} (I:YU x) {r8 o6:Template} {o8:FSt} {nm:b9} {a b d:List Node} {c:List FSt} {Q:(Template×Int)×List Template->Prop} (O:∀e,e≠0->Q ((⟨[],⟨[]⟩,[]⟩,e),t)):∀(xs:List aQ) (i:Nat) (w:List FSt),x.eS.drop i=xs->w.length+xs.length<=3->
  (∀L,L.length<=3->∃r,(Option.bind (f548 x.jH ([]:List b9)) λq=>FV q 0 o6 o8 nm a b c d L t)=some r/\Q r)->∃r,LY i h x o6 o8 nm a b c d w t=some r/\Q r:=by
 have P:=I.dl
 intro xs
 induction xs with
 |nil=>
  intro i w hd G D
  obtain⟨r,N,z⟩:=D w (by simp at G;omega)
  exact⟨r,VI (by rw[bq hd,az];exact N),z⟩
 |cons y xs R=>
  intro i w hd G D
  rw[bp] at G
  have K:=I.df y (aZ (bZ hd))
  obtain⟨f,e,z,_⟩:=sR (u:=[]) H hT hF ht hs vk K.lg K.cnt
  by_cases B:e=0
  .obtain⟨r,S,U⟩:=R (i+1) (w++[f]) (aI hd) aH D
   refine⟨r,VI ?_,U⟩
   rw[aV hd,ak,aM hd,z,mG,cond_neg (by simp[B]),cC _ af ai af,aR hd af]
   exact S
  .refine⟨_,VI ?_,O e B⟩
   rw[aV hd,ak,aM hd,z,mG,cond_pos (by simpa using B)]
theorem c527 {x:Def} (B:YU x) {M:Nat} (hM:M<=1000000) (S:∀y∈t,y.eS.length<=M):∃c e,f527 h x t=some ((c,e),t)/\(e=0->c.Name=x.Name/\(Can T F c.jH/\c.jH.aA.length<=4096)/\c.eS.length<=3+12 *M):=by
 obtain⟨f,e,L,_,O,Q⟩:=sR (u:=[]) H hT hF ht hs vk B.st.lg B.st.cnt
 have P:=Q.kn
 by_cases z:e=0
 .have G:Can T F f/\f.aA.length<=4096:=by
   rcases O with⟨_,D,R⟩|⟨D,_⟩
   .exact⟨D,R⟩
   .exact(D z).elim
  have U:=B.st.cnt
  obtain⟨l,w1,K,w3⟩:=c548 x.jH B.st.fm [] aH
  have V:∀s∈l,∃(i:Nat) (y:Template),tpos t s=(i:Int)/\t[i]? =some y:=w3 (λs=>∃(i:Nat) (y:Template),tpos t s=(i:Int)/\t[i]? =some y) ((P z).imp λd q ho=>q.tm ho) (λs hs=>by cases hs)
  have I:l.length<=12:=by simp at K;omega
  obtain⟨r,j1,j2⟩:=h527_6 H hT hF vk ht hs B (o6:=⟨[],⟨[]⟩,[]⟩) (o8:=f) (nm:=x.Name) (a:=f.aA) (b:=[]) (c:=[]) (d:=[]) (r8:=⟨[],⟨[]⟩,[]⟩)
   (Q:=λr=>∃c e,r=((c,e),t)/\(e=0->c.Name=x.Name/\(Can T F c.jH/\c.jH.aA.length<=4096)/\c.eS.length<=3+12 *M)) (λe z=>⟨_,e,rfl,λh=>(z h).elim⟩) x.eS 0 [] rfl (by simpa using B.dl) (λw' hw'=>by
    have hm:M *l.length<=M *12:=Bb _ I
    obtain⟨K,v1,v2⟩:=h527_14 H hT hF vk ht hs af (o6:=⟨[],⟨[]⟩,[]⟩) (o8:=f) (nm:=x.Name) (a:=f.aA) (b:=[]) (c:=[]) (d:=[]) (M:=M) af S V l 0 w' rfl af
    exact⟨_,by rw[w1,aj];exact v1,_,0,rfl,λ_=>⟨rfl,G,by show K.length<=_;omega⟩⟩)
  obtain⟨c,N,rfl,j3⟩:=j2
  refine⟨c,N,e527 ?_,j3⟩
  rw[L,mG,cond_neg (by simp[z])]
  exact j1
 .refine⟨⟨[],⟨[]⟩,[]⟩,e,e527 ?_,λh=>(z h).elim⟩
  rw[L,mG,cond_pos (by simpa using z)]
end
structure TOk (T F:Nat) (t:List Template):Prop where
 Ay:Me t
 len:t.length<=4
 str:YX T F t
theorem h504_5 {l:List Def} (hl:l.length<=4) (hd:∀x∈l,YU x) {ns:List b9} (hq:Seq l ns):∀(t:List Template),An t=ns->t.length<=4->YX T F t->(An t).Nodup->(∀x∈t,x.eS.length<=50^ t.length)->
  ∃m e,LW l h t=some (m,e)/\(e=0->TOk T F m):=by
 induction hq with
 | @fin ns hln=>
  intro t G ht4 hs z U
  have Vq:t.length=ns.length:=by rw[<-G,bz]
  obtain⟨m,O,Q,g3,R⟩:=h504_11 (t:=t) af z t.length [] ai List.Pairwise.nil (λx I=>by cases I) (λx _ _ y q=>by cases q)
  refine⟨m,0,VD ?_,λ_=>⟨Q,by omega,λx I=>hs x (R x I)⟩⟩
  rw[cond_neg (by rw[aT];omega)]
  exact O
 | @step ns b x hlt D B _ ih=>
  intro t G ht4 hs z U
  have Vq:t.length=ns.length:=by rw[<-G,bz]
  obtain⟨e1,_⟩:=c526 (t:=t) af af hd
  rw[show t.map (·.Name)=ns from G,D] at e1
  obtain⟨K,I⟩:=bQ.1 B
  have hp:50^ t.length<=50^ 3:=uS af af
  obtain⟨c,e,O,Q⟩:=c527 H hT hF vk af hs (hd x (aZ B)) (M:=50^ t.length) af U
  by_cases P:e=0
  .obtain⟨g3,R,g5⟩:=Q P
   have L:x.Name∉ns:=by
    rcases Ya (ns:=ns) (l:=l) l 0 (-1) rfl with S|⟨j,y,S,h2,h3⟩
    .rw[D] at S;omega
    .rw[D] at S
     have:b=j:=af
     subst this
     rw[B] at h2;cases h2;exact h3
   have N:An (t++[c])=ns++[x.Name]:=by simp[G,g3]
   have V:50^ (t.length+1)=50 *50^ t.length:=by rw[Nat.pow_succ,Nat.mul_comm]
   have h1p:1<=50^ t.length:=Nat.one_le_pow _ _ af
   obtain⟨m,e3,j1,j2⟩:=ih (t++[c]) N aH (λy q=>by
    rcases bu.1 q with q|q
    .exact hs y q
    .rw[cv.1 q];exact R) (by
    rw[N,iI]
    rw[G] at z
    exact⟨z,by simp,λa ha b hb=>by rw[cv.1 hb];exact λe=>L (e▸ha)⟩) (λy q=>by
    rw[cF,c7,V]
    rcases bu.1 q with q|q
    .have:=U y q;omega
    .rw[cv.1 q];omega)
   refine⟨m,e3,VD ?_,j2⟩
   rw[cond_pos (by rw[bB];omega),e1,aj,cO K,I,O,mG,cond_neg (by simp[P]),cC _ af ai af]
   exact j1
  .refine⟨[],e,VD ?_,λh=>(P h).elim⟩
   rw[cond_pos (by rw[bB];omega),e1,aj,cO K,I,O,mG,cond_pos (by simpa using P)]
theorem c504 {l:List Def} (hl:l.length<=4) (hd:∀x∈l,YU x):∃m e,f504 h l=some (m,e)/\(e=0->TOk T F m):=by
 obtain⟨r,B,D⟩:=c512 hl hd
 by_cases q:r=0
 .obtain⟨m,e,G,I⟩:=h504_5 H hT hF vk hl hd (D q).1 [] rfl ai (λx z=>by cases z) ai (λx z=>by cases z)
  exact⟨m,e,e504 (by rw[B,aj,cond_neg (by simp[q])];exact G),I⟩
 .exact⟨[],r,e504 (by rw[B,aj,cond_pos (by simpa using q)]),λh=>(q h).elim⟩
end
section
variable {h:aN} {T F:Nat} {sb:Int->Int->Prop} {bS:Int->Int} {val:Int->Int->Int} (H:HX h T F sb bS val) (hT:T<=1000) (hF:F<=300) (vk:0<T)
include H hT hF vk
theorem c498 (c:Case):∃t b,f498 h c=some (t,b)/\(b=true->TOk T F t/\LD c.X/\LD c.Y):=by
 obtain⟨D,e1,B⟩:=c502 c.Defs
 obtain⟨G,q,O⟩:=c503 c.X
 obtain⟨I,z,P⟩:=c503 c.Y
 cases D with
 |false=>exact⟨[],false,e498 (by rw[e1,aj,cond_pos (by rfl)]),λh=>by cases h⟩
 |true=>
  cases G with
  |false=>exact⟨[],false,e498 (by rw[e1,aj,cond_neg (by rfl),q,aj,cond_pos (by rfl)]),λh=>by cases h⟩
  |true=>
   cases I with
   |false=>exact⟨[],false,e498 (by rw[e1,aj,cond_neg (by rfl),q,aj,cond_neg (by rfl),z,aj,cond_pos (by rfl)]),λh=>by cases h⟩
   |true=>
    obtain⟨m,e,K,L⟩:=c504 H hT hF vk (B rfl).1 (B rfl).2
    refine⟨m,e==0,e498 ?_,λN=>⟨L (by simpa using N),O rfl,P rfl⟩⟩
    rw[e1,aj,cond_neg (by rfl),q,aj,cond_neg (by rfl),z,aj,cond_neg (by rfl),K,aj]
end
end Go.Proofs.YtbnlhmaaccgbjaaGreatDoor.cl.pf
namespace Go.Proofs.YtbnlhmaaccgbjaaGreatDoor.cl.pf
open Go Go.AM
def h563 {o1 D:aQ} (hl:o1.Kids.length<=1000) (q:∀k∈o1.Kids,f563 k=some (kD k)):∀(xs:List aQ) (i:Nat) (o:List aQ),o1.Kids.drop i=xs->o.length+xs.length<=1000->GZ i o1 D o=some (.mk o1.Op o1.Name o1.Path (o++xs.map kD)):=by
 intro xs
 induction xs with
 |nil=>
  intro i o hd _
  exact adi (by rw[bq hd,az,di,dP])
 |cons x xs B=>
  intro i o hd z
  rw[bp] at z
  refine adi ?_
  rw[aV hd,ak,aM hd,q x (aZ (bZ hd)),aj,cC _ af ai af,aR hd af,B (i+1) (o++[kD x]) (aI hd) aH]
  simp
def c563 (d:aQ):fE (Lt1 12) d->f563 d=some (kD d):=by
 refine j8 (P:=λd=>fE (Lt1 12) d->f563 d=some (kD d)) (λd I hd=> ?_) d
 have B:=hd.here
 have D:=B.kl
 have G:=B.nm
 have q:∀k∈d.Kids,f563 k=some (kD k):=λk q=>I k q (hd.kids k q)
 refine e563 ?_
 rw[s6]
 by_cases z:d.Op=3
 .rw[cond_pos (by simpa using z),bU aH,cond_pos (by simpa using z)]
  exact h563 (o1:= .mk d.Op ([120,45]++d.Name) d.Path d.Kids) (by show d.Kids.length<=_;omega) q d.Kids 0 [] rfl aH
 .rw[cond_neg (by simpa using z),cond_neg (by simpa using z)]
  exact h563 (o1:=d) af q d.Kids 0 [] rfl aH
def h564_9 {B G:aQ} {q:List aQ} (hl:q.length<=1000):∀(n:Nat) (o:List aQ),n<=q.length->o.length+n<=1000->G0 n B G q o=some (.mk B.Op B.Name B.Path (o++(q.take n).reverse)):=by
 intro n
 induction n with
 |zero=>
  intro o _ _
  exact adk (by rw[cond_neg (by rfl)];simp)
 |succ n D=>
  intro o I K
  refine adk ?_
  have z:n<q.length:=af
  rw[cond_pos (by rw[bB];omega),oz af,mH af,bg,tf z,cC _ af ai af,D (o++[q[n]]) af aH,de,aK z]
  simp only[Option.toList_some,List.reverse_append,List.reverse_cons,List.reverse_nil,dK,Er,eo,gi]
def h564 {o1 D:aQ} (hl:o1.Kids.length<=500) (z:∀k∈o1.Kids,f564 k=some (D4 k)):∀(xs:List aQ) (i:Nat) (o:List aQ),o1.Kids.drop i=xs->o.length+xs.length<=500->L1 i o1 D o=some (.mk o1.Op o1.Name o1.Path (bif o1.Op==4 then(o++xs.map D4).reverse else o++xs.map D4)):=by
 intro xs
 induction xs with
 |nil=>
  intro i o hd q
  rw[di,dP]
  refine adj ?_
  rw[bq hd,az]
  cases o1.Op==4 with
  |true=>
   rw[ak,ak,h564_9 (by simp at q;omega) o.length [] (aU _) (by simp at q⊢;omega),gp];rfl
  |false=>rw[az,az]
 |cons x xs B=>
  intro i o hd q
  rw[bp] at q
  refine adj ?_
  rw[aV hd,ak,aM hd,z x (aZ (bZ hd)),aj,cC _ af ai af,aR hd af,B (i+1) (o++[D4 x]) (aI hd) aH]
  simp
def c564 (d:aQ):fE (Lt1 12) d->f564 d=some (D4 d):=by
 refine j8 (P:=λd=>fE (Lt1 12) d->f564 d=some (D4 d)) (λd B hd=> ?_) d
 have z:=hd.here.kl
 refine e564 ?_
 exact(h564 (o1:=d) af (λk q=>B k q (hd.kids k q)) d.Kids 0 [] rfl aH).trans (by rw[s9];rfl)
section
variable {h:aN} {T F:Nat} {sb:Int->Int->Prop} {bS:Int->Int} {val:Int->Int->Int} (H:HX h T F sb bS val) (hT:T<=1000) (hF:F<=300) (vk:0<T)
include H hT hF vk
theorem VP {c:Case} (K:f403 c.Decls=some h) (q:f499=some true):f561 c=some true:=by
 obtain⟨t,b,G,R⟩:=c498 H hT hF vk c
 cases b with
 |false=>exact e561 (by rw[K,aj,G,aj,cond_pos (by rfl),q,aj])
 |true=>
  obtain⟨D,z,_⟩:=R rfl
  have h4:=D.len
  have P:=c563 c.X z.lt
  have n2:=c564 c.X z.lt
  obtain⟨r,Q,_⟩:=c510 (kD c.X)
  by_cases N:r=0
  .have ht:G4 t t:= .refl D.Ay af
   have I:=z.cnt
   obtain⟨f,e,_,U,V,O⟩:=sR (u:=t) H hT hF af D.str vk z.lg I
   obtain⟨g,u,_,k1,_,k3⟩:=sR (u:=t) H hT hF af D.str vk (lg_trn.2 z.lg) (by rw[trn_cnt];omega)
   obtain⟨k,v,_,l1,_,l3⟩:=sR (u:=t) H hT hF af D.str vk (lg_ren.2 z.lg) (by rw[ren_cnt];omega)
   obtain⟨rfl,rfl⟩:=O.uniq H.hv.hm.to k3 (kn_trn _).symm λC _=>⟨λ⟨B,a⟩=>⟨B,(Yn _ _).2 a⟩,λ⟨B,a⟩=>⟨B,(Yn _ _).1 a⟩⟩
   obtain⟨rfl,rfl⟩:=O.uniq H.hv.hm.to l3 (kn_ren _).symm λC _=>⟨λ⟨B,a⟩=>⟨λs=>B (s.drop 2),(Ym _ _).2 a⟩,λ⟨B,a⟩=>⟨_,(Ym _ _).1 a⟩⟩
   have L:Sm f:=by
    rcases V with⟨_,I,hn⟩|⟨_,rfl⟩
    .exact I.sm af af
    .exact⟨ai,λx S=>by cases S⟩
   refine e561 ?_
   rw[K,aj,G,aj,cond_neg (by rfl),P,aj,Q,aj,cond_neg (by simp[N]),U ht,aj,n2,aj,k1 ht,aj,aj,l1 ht,aj,cond_pos ai,cond_pos ai,W0 L,aj,ak,aj,ak,q,aj]
  .refine e561 ?_
   rw[K,aj,G,aj,cond_neg (by rfl),P,aj,Q,aj,cond_pos (by simpa using N),q,aj]
end
end Go.Proofs.YtbnlhmaaccgbjaaGreatDoor.cl.pf
namespace Go.Proofs.YtbnlhmaaccgbjaaGreatDoor.cl.pf
open Go Go.AM
def law561 {c:Case} (z:Sz c.Decls) (G:Fz c.Decls) (B:f499=some true):f561 c=some true:=by
 obtain⟨h,t,D,q⟩:=c403 z G
 have:=q.F
 exact VP q.hx q.T af q.P D B
end Go.Proofs.YtbnlhmaaccgbjaaGreatDoor.cl.pf
set_option maxRecDepth 100000
namespace Go.Proofs.YtbnlhmaaccgbjaaGreatDoor.cl
open Go Go.AM Go.RowKit Go.ChangeShapes Go.WideShapes Go.ChangeAt
def zM {T:Type} {q:T->List AV}:∀{xs:List (List AV)},(∀x∈xs,∃y:T,x=q y)->∃l:List T,xs=l.map q:=by
 intro xs
 induction xs with
 |nil=>intro _;exact⟨[],rfl⟩
 |cons x xs D=>
  intro h
  obtain⟨y,rfl⟩:=h x ai
  obtain⟨l,rfl⟩:=D λz B=>h z (by simp[B])
  exact⟨y::l,rfl⟩
section
variable {H:Type} {enc:TypeId×Value->H} {w:World}
def oV:vE (H:=H) Rows.uptoBulk Rows.uptoBulkAll where
 str:=λ_=>rfl
 lit:=λl=>by cases l<;>simp[Rows.uptoBulk]
 nil:=by simp[Rows.uptoBulk]
 slice:=λ_ _=>by simp[Rows.uptoBulk]
 agg:=λ_=>by simp[Rows.uptoBulk]
 nilA:=by simp[Rows.uptoBulkAll]
 abd:=λ_ _=>by simp[Rows.uptoBulkAll]
def rd57 (n:Nat):Aw enc P w Rows.uptoBulk n 61 λq=>∃x:cD,q=x.enc:=by
 cases n with
 |zero=>exact Aw.zero
 |succ n=>
  refine(rB oV (Qs:=[λa=>∃x,a=dS .i64 x,λa=>∃x,a=dS .i64 x]) Tryz.underlying61 (by kernel_rfl) (by kernel_rfl) ?_).mono ?_
  .exact⟨PG oV Tryz.underlying3,PG oV Tryz.underlying3,trivial⟩
  .rintro a ⟨_,_,rfl,⟨z,rfl⟩,_,_,rfl,⟨B,rfl⟩,rfl⟩
   exact⟨⟨z,B⟩,rfl⟩
def rd58 (n:Nat):Aw enc P w Rows.uptoBulk n 62 λq=>∃l:List cD,q=[.dD 2 (l.map cD.enc)]:=by
 cases n with
 |zero=>exact Aw.zero
 |succ n=>
  refine(Ft oV (sz:=2) Tryz.underlying62 (by kernel_rfl) (by decide) (rd57 n)).mono ?_
  rintro a ⟨xs,rfl,z⟩
  obtain⟨l,rfl⟩:=zM z
  exact⟨l,rfl⟩
def rd60 (n:Nat):Aw enc P w Rows.uptoBulk n 64 λq=>∃x:Node,q=x.enc:=by
 cases n with
 |zero=>exact Aw.zero
 |succ n=>
  refine(rB oV (Qs:=[λa=>∃x,a=dS .i64 x,λa=>∃l:List cD,a=[.dD 2 (l.map cD.enc)]]) Tryz.underlying64 (by kernel_rfl) (by kernel_rfl) ?_).mono ?_
  .exact⟨PG oV Tryz.underlying3,rd58 n,trivial⟩
  .rintro a ⟨_,_,rfl,⟨z,rfl⟩,_,_,rfl,⟨B,rfl⟩,rfl⟩
   exact⟨⟨z,B⟩,rfl⟩
def rd28 (n:Nat):Aw enc P w Rows.uptoBulk n 28 λq=>∃l:List Node,q=[.dD 2 (l.map Node.enc)]:=by
 cases n with
 |zero=>exact Aw.zero
 |succ n=>
  refine(Ft oV (sz:=2) Tryz.underlying28 (by kernel_rfl) (by decide) (rd60 n)).mono ?_
  rintro a ⟨xs,rfl,z⟩
  obtain⟨l,rfl⟩:=zM z
  exact⟨l,rfl⟩
def rd30 (n:Nat):Aw enc P w Rows.uptoBulk n 30 λq=>∃x:FSt,q=x.enc:=by
 cases n with
 |zero=>exact Aw.zero
 |succ n=>
  refine(rB oV (Qs:=[λa=>∃l:List Node,a=[.dD 2 (l.map Node.enc)]]) Tryz.underlying30 (by kernel_rfl) (by kernel_rfl) ?_).mono ?_
  .exact⟨rd28 n,trivial⟩
  .rintro a ⟨_,_,rfl,⟨z,rfl⟩,rfl⟩
   exact⟨⟨z⟩,rfl⟩
def K6 {T:Type} {z:T->List AV} {t e sz:Nat} (hs:P.underlying t=some (.slice e)) (D:P.cellsOf e=sz) (B:0<sz) {n:Nat} (h:∀n,Aw enc P w Rows.uptoBulk n e λq=>∃x:T,q=z x):Aw enc P w Rows.uptoBulk n t λq=>∃l:List T,q=[.dD sz (l.map z)]:=by
 cases n with
 |zero=>exact Aw.zero
 |succ n=>
  refine(Ft oV (sz:=sz) hs D B (h n)).mono ?_
  rintro a ⟨xs,rfl,G⟩
  obtain⟨l,rfl⟩:=zM G
  exact⟨l,rfl⟩
def rd167 (n:Nat):Aw enc P w Rows.uptoBulk n 149 λq=>∃x:dV,q=x.enc:=by
 cases n with
 |zero=>exact Aw.zero
 |succ n=>
  refine(rB oV (Qs:=[λa=>∃x,a=oO x,λa=>∃x,a=oO x]) Tryz.underlying149 (by kernel_rfl) (by kernel_rfl) ?_).mono ?_
  .exact⟨DY oV Tryz.underlying9,DY oV Tryz.underlying9,trivial⟩
  .rintro a ⟨_,_,rfl,⟨s,rfl⟩,_,_,rfl,⟨v,rfl⟩,rfl⟩
   exact⟨⟨s,v⟩,rfl⟩
def rd116 (n:Nat):Aw enc P w Rows.uptoBulk n 96 λq=>∃x:aC,q=x.enc:=by
 cases n with
 |zero=>exact Aw.zero
 |succ n=>
  refine(rB oV (Qs:=[λa=>∃x,a=oO x,λa=>∃l:List (List UInt8),a=[.dD 1 (l.map oO)],λa=>∃l:List dV,a=[.dD 2 (l.map dV.enc)]]) Tryz.underlying96 (by kernel_rfl) (by kernel_rfl) ?_).mono ?_
  .exact⟨DY oV Tryz.underlying9,K6 Tryz.underlying24 (by kernel_rfl) (by decide) λn=>DY oV (n:=n) Tryz.underlying9,K6 Tryz.underlying94 (by kernel_rfl) (by decide) rd167,trivial⟩
  .rintro a ⟨_,_,rfl,⟨s,rfl⟩,_,_,rfl,⟨l,rfl⟩,_,_,rfl,⟨m,rfl⟩,rfl⟩
   exact⟨⟨s,l,m⟩,rfl⟩
def rd27:∀n:Nat,(Aw enc P w Rows.uptoBulk n 27 λq=>∃x:aQ,q=x.ga)/\Aw enc P w Rows.uptoBulk n 25 λq=>∃l:List aQ,q=[.dD 4 (l.map aQ.ga)]:=by
 intro n
 induction n with
 |zero=>exact⟨Aw.zero,Aw.zero⟩
 |succ n z=>
  constructor
  .refine(rB oV (Qs:=[λa=>∃x,a=dS .i64 x,λa=>∃x,a=oO x,λa=>∃l:List (List UInt8),a=[.dD 1 (l.map oO)],λa=>∃l:List aQ,a=[.dD 4 (l.map aQ.ga)]]) Tryz.underlying27 (by kernel_rfl) (by kernel_rfl) ?_).mono ?_
   .exact⟨PG oV Tryz.underlying3,DY oV Tryz.underlying9,K6 Tryz.underlying24 (by kernel_rfl) (by decide) λn=>DY oV (n:=n) Tryz.underlying9,z.2,trivial⟩
   .rintro a ⟨_,_,rfl,⟨o,rfl⟩,_,_,rfl,⟨s,rfl⟩,_,_,rfl,⟨p,rfl⟩,_,_,rfl,⟨k,rfl⟩,rfl⟩
    refine⟨.mk o s p k,?_⟩
    rw[aQ.ga,aQ.R3];rfl
  .refine(Ft oV (sz:=4) Tryz.underlying25 (by kernel_rfl) (by decide) z.1).mono ?_
   rintro a ⟨xs,rfl,B⟩
   obtain⟨l,rfl⟩:=zM B
   exact⟨l,rfl⟩
def Wp (n:Nat):Aw enc P w Rows.uptoBulk n 27 λq=>∃x:aQ,q=x.enc:=(rd27 n).1.mono λa ⟨x,z⟩=>⟨x,by rw[z,aQ.jm]⟩
def rd62 (n:Nat):Aw enc P w Rows.uptoBulk n 66 λq=>∃x:Def,q=x.enc:=by
 cases n with
 |zero=>exact Aw.zero
 |succ n=>
  refine(rB oV (Qs:=[λa=>∃x,a=oO x,λa=>∃x:aQ,a=x.enc,λa=>∃l:List aQ,a=[.dD 4 (l.map aQ.ga)]]) Tryz.underlying66 (by kernel_rfl) (by kernel_rfl) ?_).mono ?_
  .exact⟨DY oV Tryz.underlying9,Wp n,(rd27 n).2,trivial⟩
  .rintro a ⟨_,_,rfl,⟨s,rfl⟩,_,_,rfl,⟨d,rfl⟩,_,_,rfl,⟨l,rfl⟩,rfl⟩
   exact⟨⟨s,d,l⟩,rfl⟩
def rd32 (n:Nat):Aw enc P w Rows.uptoBulk n 32 λq=>∃x:Case,q=x.enc:=by
 cases n with
 |zero=>exact Aw.zero
 |succ n=>
  refine(rB oV (Qs:=[λa=>∃l:List aC,a=[.dD 3 (l.map aC.enc)],λa=>∃l:List Def,a=[.dD 6 (l.map Def.enc)],λa=>∃x:aQ,a=x.enc,λa=>∃x:aQ,a=x.enc,λa=>∃x:FSt,a=x.enc]) Tryz.underlying32 (by kernel_rfl) (by kernel_rfl) ?_).mono ?_
  .exact⟨K6 Tryz.underlying22 (by kernel_rfl) (by decide) rd116,K6 Tryz.underlying23 (by kernel_rfl) (by decide) rd62,Wp n,Wp n,rd30 n,trivial⟩
  .rintro a ⟨_,_,rfl,⟨d,rfl⟩,_,_,rfl,⟨l,rfl⟩,_,_,rfl,⟨x,rfl⟩,_,_,rfl,⟨y,rfl⟩,_,_,rfl,⟨f,rfl⟩,rfl⟩
   exact⟨⟨d,l,x,y,f⟩,rfl⟩
end
def Ez {T:Type} {en:T->List AV} (h:∀x,1<=mV (en x)):∀l:List T,l.length<=Bn (l.map en)
 |[]=>by simp
 |x::l=>by
  have q:=Ez h l
  have z:=h x
  simp only[bw,bp,Bn];omega
def sz_of {d:List aC} (h:Bn (d.map aC.enc)<=1048576):Sz d/\Fz d:=by
 have key:∀t∈d,t.dW.length<=1048576/\t.bJ.length<=1048576:=λt ht=>by
  have q:=Y7 (iK (f:=aC.enc) ht)
  have z:=Ez (en:=oO) (λx=>by simp only[oO,mV,AV.bulk];omega) t.dW
  have B:=Ez (en:=dV.enc) (λx=>by simp only[dV.enc,mV,AV.bulk];omega) t.bJ
  simp only[aC.enc,mV,AV.bulk] at q
  omega
 have D:=Ez (en:=aC.enc) (λx=>by simp only[aC.enc,mV,AV.bulk];omega) d
 exact⟨⟨af,λt ht=>(key t ht).1⟩,λt ht=>(key t ht).2⟩
def Yv {x:Case} (h:mV x.enc<=1048576):Sz x.Decls/\Fz x.Decls:=by
 refine sz_of ?_
 simp only[Case.enc,mV,AV.bulk] at h
 omega
end Go.Proofs.YtbnlhmaaccgbjaaGreatDoor.cl
namespace Go.Proofs.YtbnlhmaaccgbjaaGreatDoor.cl
open Go Go.AM Go.RowKit
def TR {r:AV} {v:Value} {P:Mu} {B:Nat->Value} {w N:World} {e O g n D:Nat} {ys:List (List AV)} {us:List Value} {cur z:Array Value}
  (oC:Mb P w) (G:B 10000= .slice (some ⟨g,0,none⟩) n D) (Q:n<=D) (R:D<=maxLen) (L:cur.size=D *O) (V:Gz w.heap.size (iy False B [10000]) 10000 g) (S:∀j,P g j=none)
  (hg:N.heap[g]? =some (.cells z e (0,0))) (hs:z.size=cur.size) (AQ:z.toList.take (n *O)=us) (HF:us.length=n *O) (K:∀b,b<w.heap.size->b≠g->N.heap[b]? =w.heap[b]?)
  (hos:N.os=w.os) (ht:N.tape=w.tape) (U:N.output=w.output) (hgr:w.heap.size<=N.heap.size) (I:ys.length=n) (hrc:cT P O ys us) (hres:rep P r v\/∃n A m c,r= .self n/\B 10000= .slice A m c/\n<=m/\v= .slice A n c):
  fN False P B [10000] r [(10000, .row e O ys)] w v P B N where
 ext:=Mu.ext.toL ⟨Mu.le.refl _,λ_ _ _ h=> .inl h⟩
 xZ:=λb j x hx=>by
  have h:=oC b j x hx
  have hne:b≠g:=λe=>by subst e;rw[S j] at hx;cases hx
  rw[jx (K b (sF h) hne) j];exact h
 res:=hres.imp id λ⟨n,A,m,c,h1,h2,h3,h4⟩=> .inl ⟨n,A,m,c,h1,by simp,h2,h3,h4⟩
 obs:=λid o h=>by
  have hid:=vQ h
  subst hid
  have ho:Ob.row e O ys=o:=by simpa[find] using h
  subst ho
  refine⟨us,⟨by rw[HF,I], .inr ⟨g,D,z,by rw[G,I],cW _,hg,by rw[I];exact Q,R,by rw[hs,L],by rw[I];exact AQ⟩⟩,hrc,λq hq=> ?_⟩
  have:q=g:=by
   rw[G] at hq
   have h2:some g=some q:=ia.1 hq
   exact(eT h2).symm
  subst this
  exact⟨V,S⟩
 apart:=λi j oi oj hi hj hij=>absurd ((vQ hi).trans (vQ hj).symm) hij
 keep:=λb hlt hl=>K b hlt (λe=>by
  subst e
  exact hl ⟨10000,B 10000,by simp[iy],by rw[G];exact ia.2 rfl⟩)
 fix:=λ_ _ _ _=>rfl
 os:=hos
 tape:=ht
 output:=U
 grown:=hgr
 drawn:=λh=>h.elim
def NP {S:Mu} {B:Nat->Value} {w G:World} {e R g n z:Nat} {ys:List (List AV)} {us:List Value} {cur q:Array Value}
  (Q:Mb S w) (K:B 10000= .slice (some ⟨g,0,none⟩) n z) (I:n<=z) (L:z<=maxLen) (D:cur.size=z *R) (P:Gz w.heap.size (iy False B [10000]) 10000 g) (V:∀j,S g j=none)
  (hg:G.heap[g]? =some (.cells q e (0,0))) (hs:q.size=cur.size) (AQ:q.toList.take (n *R)=us) (HF:us.length=n *R) (N:∀b,b<w.heap.size->b≠g->G.heap[b]? =w.heap[b]?)
  (hos:G.os=w.os) (ht:G.tape=w.tape) (O:G.output=w.output) (U:w.heap.size<=G.heap.size) (hyl:ys.length=n) (hrc:cT S R ys us):
  fN False S B [10000] (.iQ []) [(10000, .row e R ys)] w (.tuple #[]) S B G:=
 TR Q K I L D P V hg hs AQ HF N hos ht O U hyl hrc (.inl (by rw[rep.eq_def];exact⟨[],rfl,rfl⟩))
end Go.Proofs.YtbnlhmaaccgbjaaGreatDoor.cl
namespace Go.Proofs.YtbnlhmaaccgbjaaGreatDoor.cl
open Go Go.AM Go.RowKit
def Ia {K:Type} {lt:K->K->Bool}:∀{l q:List K},l.Perm q->mU lt l->mU lt q->(∀x∈l,∀y∈l,lt x y=false->lt y x=false->x=y)->l=q:=by
 intro l
 induction l with
 |nil=>intro q h _ _ _;exact(List.nil_perm.1 h).symm
 |cons x l U=>
  intro q h O P L
  cases q with
  |nil=>exact absurd h.symm ai
  |cons y q=>
   have z:=dG.1 O
   have B:=dG.1 P
   have G:x=y:=by
    have N:y∈x::l:=h.mem_iff.2 ai
    have S:x∈y::q:=h.mem_iff.1 ai
    rcases aJ.1 N with e|I
    .exact e.symm
    .rcases aJ.1 S with e|D
     .exact e
     .exact L x ai y N (B.1 x D) (z.1 y I)
   subst G
   rw[U (List.Perm.cons_inv h) z.2 B.2 λa Q b R=>L a (by simp[Q]) b (by simp[R])]
def BB {B:Type} (lt:B->B->Bool) (q:∀a b,lt a b=true->lt b a=false) (up:∀x y z,lt x y=true->lt z y=false->lt x z=true) (l:List B):mU lt (tO lt l)/\(tO lt l).Perm l:=by
 have I:∀(x:B) (l:List B),(sJ lt x l).Perm (x::l):=by
  intro x l
  induction l with
  |nil=>exact .refl _
  |cons y l G=>
   unfold sJ
   split
   .exact .refl _
   .exact(G.cons y).trans (.swap x y l)
 have key:∀(l E:List B),mU lt E->mU lt (l.foldl (λout x=>sJ lt x out) E)/\(l.foldl (λout x=>sJ lt x out) E).Perm (E++l):=by
  intro l
  induction l with
  |nil=>intro E D;exact⟨D,ai⟩
  |cons p l G=>
   intro E D
   obtain⟨K,L⟩:=G _ (BA lt q up D (x:=p))
   refine⟨K,L.trans ?_⟩
   exact((I p E).append_right l).trans (List.perm_middle (a:=p) (l₁:=E) (l₂:=l)).symm
 have:=key l [] (by simp[mU])
 simpa[tO] using this
def UG (x y z:List UInt8) (h:Op.bytesLess x y=true) (q:Op.bytesLess z y=false):Op.bytesLess x z=true:=by
 by_cases e:z=y
 .rw[e];exact h
 .exact vI _ _ _ h (Bk _ _ q e)
end Go.Proofs.YtbnlhmaaccgbjaaGreatDoor.cl
namespace Go.Proofs
open Go.Shelf
def Tryz.SU:Go.Shelf.Ren:=⟨λ|190=>186|125=>209|258=>208|128=>235|129=>236|302=>226|303=>227|304=>228|305=>229|306=>230|307=>231|308=>232|309=>233|310=>234|333=>267|329=>268|330=>269|334=>270|335=>271|336=>272|344=>306|n=>n,λ|31=>24|9=>9|3=>3|46=>210|0=>0|51=>284|53=>230|4=>4|183=>277|182=>276|131=>112|5=>5|218=>317|222=>321|228=>351|229=>352|n=>n,λ|n=>n⟩
def Tryz.lays190:Go.Proofs.Lays.n190 Tryz.prog Tryz.SU:={
 mixed:=by kernel_rfl
 f125:=Tryz.func209.trans (aP some (by kernel_rfl))
 f128:=Tryz.func235.trans (aP some (by kernel_rfl))
 f129:=Tryz.func236.trans (aP some (by kernel_rfl))
 f190:=Tryz.func186.trans (aP some (by kernel_rfl))
 f258:=Tryz.func208.trans (aP some (by kernel_rfl))
 f302:=Tryz.func226.trans (aP some (by kernel_rfl))
 f303:=Tryz.func227.trans (aP some (by kernel_rfl))
 f304:=Tryz.func228.trans (aP some (by kernel_rfl))
 f305:=Tryz.func229.trans (aP some (by kernel_rfl))
 f306:=Tryz.func230.trans (aP some (by kernel_rfl))
 f307:=Tryz.func231.trans (aP some (by kernel_rfl))
 f308:=Tryz.func232.trans (aP some (by kernel_rfl))
 f309:=Tryz.func233.trans (aP some (by kernel_rfl))
 f310:=Tryz.func234.trans (aP some (by kernel_rfl))
 f329:=Tryz.func268.trans (aP some (by kernel_rfl))
 f330:=Tryz.func269.trans (aP some (by kernel_rfl))
 f333:=Tryz.func267.trans (aP some (by kernel_rfl))
 f334:=Tryz.func270.trans (aP some (by kernel_rfl))
 f335:=Tryz.func271.trans (aP some (by kernel_rfl))
 f336:=Tryz.func272.trans (aP some (by kernel_rfl))
 f344:=Tryz.func306.trans (aP some (by kernel_rfl))
 t0:=Tryz.underlying0
 a0:=Tryz.isAgg0
 z0:=Tryz.sizeOf0
 v0:=Tryz.zeroValue0
 t3:=Tryz.underlying3
 a3:=Tryz.isAgg3
 z3:=Tryz.sizeOf3
 v3:=Tryz.zeroValue3
 t4:=Tryz.underlying4
 a4:=Tryz.isAgg4
 z4:=Tryz.sizeOf4
 v4:=Tryz.zeroValue4
 t5:=Tryz.underlying5
 a5:=Tryz.isAgg5
 z5:=Tryz.sizeOf5
 v5:=Tryz.zeroValue5
 t9:=Tryz.underlying9
 a9:=Tryz.isAgg9
 z9:=Tryz.sizeOf9
 v9:=Tryz.zeroValue9
 t31:=Tryz.underlying24
 a31:=Tryz.isAgg24
 z31:=Tryz.sizeOf24
 v31:=Tryz.zeroValue24
 t46:=Tryz.underlying210
 a46:=Tryz.isAgg210
 z46:=Tryz.sizeOf210
 v46:=Tryz.zeroValue210
 t51:=Tryz.underlying284
 a51:=Tryz.isAgg284
 z51:=Tryz.sizeOf284
 v51:=Tryz.zeroValue284
 t53:=Tryz.underlying230
 a53:=Tryz.isAgg230
 z53:=Tryz.sizeOf230
 v53:=Tryz.zeroValue230
 t131:=Tryz.underlying112
 a131:=Tryz.isAgg112
 z131:=Tryz.sizeOf112
 v131:=Tryz.zeroValue112
 t182:=Tryz.underlying276
 a182:=Tryz.isAgg276
 z182:=Tryz.sizeOf276
 v182:=Tryz.zeroValue276
 t183:=Tryz.underlying277
 a183:=Tryz.isAgg277
 z183:=Tryz.sizeOf277
 v183:=Tryz.zeroValue277
 t218:=Tryz.underlying317
 a218:=Tryz.isAgg317
 z218:=Tryz.sizeOf317
 v218:=Tryz.zeroValue317
 t222:=Tryz.underlying321
 a222:=Tryz.isAgg321
 z222:=Tryz.sizeOf321
 v222:=Tryz.zeroValue321
 t228:=Tryz.underlying351
 a228:=Tryz.isAgg351
 z228:=Tryz.sizeOf351
 v228:=Tryz.zeroValue351
 t229:=Tryz.underlying352
 a229:=Tryz.isAgg352
 z229:=Tryz.sizeOf352
 v229:=Tryz.zeroValue352 }
def Tryz.SX:Go.Shelf.Ren:=⟨λ|6=>301|15=>209|14=>337|28=>235|29=>236|20=>359|21=>360|22=>361|23=>362|24=>363|25=>364|26=>365|27=>366|46=>370|47=>268|48=>269|49=>371|50=>372|57=>373|n=>n,λ|22=>62|24=>61|25=>311|3=>3|39=>210|0=>0|53=>284|55=>230|4=>4|46=>277|45=>276|50=>112|5=>5|9=>9|66=>317|70=>321|76=>351|77=>352|n=>n,λ|n=>n⟩
def Tryz.laysF6a:Go.Proofs.SlLaysF0.n6 Tryz.prog Tryz.SX:={
 mixed:=by kernel_rfl
 f6:=⟨Tryz.f301.name,by decide,Tryz.func301.trans (aP some (by kernel_rfl))⟩
 f14:=⟨Tryz.f337.name,by decide,Tryz.func337.trans (aP some (by kernel_rfl))⟩
 f15:=Tryz.func209.trans (aP some (by kernel_rfl))
 f20:=⟨Tryz.f359.name,by decide,Tryz.func359.trans (aP some (by kernel_rfl))⟩
 f21:=⟨Tryz.f360.name,by decide,Tryz.func360.trans (aP some (by kernel_rfl))⟩
 f22:=⟨Tryz.f361.name,by decide,Tryz.func361.trans (aP some (by kernel_rfl))⟩
 f23:=⟨Tryz.f362.name,by decide,Tryz.func362.trans (aP some (by kernel_rfl))⟩
 f24:=⟨Tryz.f363.name,by decide,Tryz.func363.trans (aP some (by kernel_rfl))⟩
 f25:=⟨Tryz.f364.name,by decide,Tryz.func364.trans (aP some (by kernel_rfl))⟩
 f26:=⟨Tryz.f365.name,by decide,Tryz.func365.trans (aP some (by kernel_rfl))⟩
 f27:=⟨Tryz.f366.name,by decide,Tryz.func366.trans (aP some (by kernel_rfl))⟩
 f28:=Tryz.func235.trans (aP some (by kernel_rfl))
 f29:=Tryz.func236.trans (aP some (by kernel_rfl))
 f46:=⟨Tryz.f370.name,by decide,Tryz.func370.trans (aP some (by kernel_rfl))⟩
 f47:=Tryz.func268.trans (aP some (by kernel_rfl))
 f48:=Tryz.func269.trans (aP some (by kernel_rfl))
 f49:=⟨Tryz.f371.name,by decide,Tryz.func371.trans (aP some (by kernel_rfl))⟩
 f50:=⟨Tryz.f372.name,by decide,Tryz.func372.trans (aP some (by kernel_rfl))⟩
 f57:=⟨Tryz.f373.name,by decide,Tryz.func373.trans (aP some (by kernel_rfl))⟩
 t0:=Tryz.underlying0
 a0:=Tryz.isAgg0
 z0:=Tryz.sizeOf0
 v0:=Tryz.zeroValue0
 t3:=Tryz.underlying3
 a3:=Tryz.isAgg3
 z3:=Tryz.sizeOf3
 v3:=Tryz.zeroValue3
 t4:=Tryz.underlying4
 a4:=Tryz.isAgg4
 z4:=Tryz.sizeOf4
 v4:=Tryz.zeroValue4
 t5:=Tryz.underlying5
 a5:=Tryz.isAgg5
 z5:=Tryz.sizeOf5
 v5:=Tryz.zeroValue5
 t9:=Tryz.underlying9
 a9:=Tryz.isAgg9
 z9:=Tryz.sizeOf9
 v9:=Tryz.zeroValue9
 t22:=Tryz.underlying62
 a22:=Tryz.isAgg62
 z22:=Tryz.sizeOf62
 v22:=Tryz.zeroValue62
 t25:=Tryz.underlying311
 a25:=Tryz.isAgg311
 z25:=Tryz.sizeOf311
 v25:=Tryz.zeroValue311
 t39:=Tryz.underlying210
 a39:=Tryz.isAgg210
 z39:=Tryz.sizeOf210
 v39:=Tryz.zeroValue210
 t45:=Tryz.underlying276
 a45:=Tryz.isAgg276
 z45:=Tryz.sizeOf276
 v45:=Tryz.zeroValue276
 t46:=Tryz.underlying277
 a46:=Tryz.isAgg277
 z46:=Tryz.sizeOf277
 v46:=Tryz.zeroValue277
 t50:=Tryz.underlying112
 a50:=Tryz.isAgg112
 z50:=Tryz.sizeOf112
 v50:=Tryz.zeroValue112
 t53:=Tryz.underlying284
 a53:=Tryz.isAgg284
 z53:=Tryz.sizeOf284
 v53:=Tryz.zeroValue284
 t55:=Tryz.underlying230
 a55:=Tryz.isAgg230
 z55:=Tryz.sizeOf230
 v55:=Tryz.zeroValue230
 t66:=Tryz.underlying317
 a66:=Tryz.isAgg317
 z66:=Tryz.sizeOf317
 v66:=Tryz.zeroValue317
 t70:=Tryz.underlying321
 a70:=Tryz.isAgg321
 z70:=Tryz.sizeOf321
 v70:=Tryz.zeroValue321
 t76:=Tryz.underlying351
 a76:=Tryz.isAgg351
 z76:=Tryz.sizeOf351
 v76:=Tryz.zeroValue351
 t77:=Tryz.underlying352
 a77:=Tryz.isAgg352
 z77:=Tryz.sizeOf352
 v77:=Tryz.zeroValue352 }
