/- Build. -/
import Derived.Test.YtacapiamkgkkjaaGreatDoorClUg
import Derived.Test.YtacapiamkgkkjaaGreatDoorClUl
import Derived.Test.YtacapiamkgkkjaaGreatDoorClVb
import Derived.Test.YtacapiamkgkkjaaGreatDoorClT
import Derived.Test.YtacapiamkgkkjaaGreatDoorClXb
import Derived.Test.YtacapiamkgkkjaaGreatDoorRows
import Derived.ProofKit
import Derived.Shelf.Sort.Plain
import Derived.Shelf.Slices.In.SortNone
import Derived.Shelf.SlSortCmp.WholeK
import Derived.Shelf.SlSortCmp.NoneTotal
import Derived.Ground.Names2Prog
import Derived.Ground.SlsfProg
import Derived.Test.YtacapiamkgkkjaaGreatDoorProg
set_option linter.all false
namespace Go.Proofs.YtacapiamkgkkjaaGreatDoor.cl.pf
open Go Go.AM
abbrev yw (t:List Template):List bV:=t.map (·.Name)
def Se {t:List Template} {s:bV}:(t.any λx=>x.Name==s)=true↔s∈yw t:=by simp
def h504_14 {t o:List Template} (ht:t.length<=1000) (ho:o.length<=1000) (hex:∃x∈t,x.Name∉yw o):∀(xs:List Template) (i:Nat) (q:Int),t.drop i=xs->
  ((q= -1/\∀(j:Nat) (x:Template),j<i->t[j]? =some x->x.Name∈yw o)\/∃(b:Nat) (y:Template),q=b/\t[b]? =some y/\y.Name∉yw o/\∀(j:Nat) (x:Template),j<i->t[j]? =some x->x.Name∉yw o->Op.bytesLess x.Name y.Name=false)->
  ∃(b:Nat) (y:Template),t[b]? =some y/\y.Name∉yw o/\(∀x∈t,x.Name∉yw o->Op.bytesLess x.Name y.Name=false)/\∀r,F5 t (o++[y])=some r->AF q i t o=some r:=by
 intro xs;induction xs with
 |nil=>
  intro i q l L;have hge:=j0 l;rcases L with⟨_,L⟩|⟨b,y,rfl,G,K,P⟩
  .obtain⟨x,I,N⟩:=hex;obtain⟨j,Q⟩:=gu.1 I;exact(N (L j x (by have:=(bu.1 Q).1;omega) Q)).elim
  .refine⟨b,y,G,K,λx I N=> ?_,λr S=>Fi ?_⟩
   .obtain⟨j,Q⟩:=gu.1 I;grind
   .obtain⟨B,hy⟩:=bu.1 G;rw[bg l,au,BF B,aS,mQ B,hy,cF _ af ai af];omega
 |cons x xs ih=>intro i q l L;have hil:=eM l;have I:=bU l;have V:f515 o x.Name=some (tpos o x.Name):=ZU _ _ af;have f2:decide (tpos o x.Name<0)= !(o.any λy=>y.Name==x.Name):=yW _ _ _;cases e:o.any λy=>y.Name==x.Name with
  |true=>
   have U:=Se.1 e
   obtain⟨b,y,G,K,P,h4⟩:=ih (i+1) q (aI l) (by
    rcases L with⟨O,L⟩|⟨b,y,O,G,K,P⟩
    .refine .inl ⟨O,λj z Q D=> ?_⟩;by_cases R:j=i
     .subst R;rw[I] at D;cases D;exact U
     .exact L j z af D
    .refine .inr ⟨b,y,O,G,K,λj z Q D N=> ?_⟩;by_cases R:j=i
     .subst R;rw[I] at D;cases D;exact(N U).elim
     .exact P j z af D N)
   refine⟨b,y,G,K,P,λr S=>Fi ?_⟩;rw[aR l,aj,jQ l,jP l,V,ak,f2,e,dr,au,aN l af];exact h4 r S
  |false=>
   have U:x.Name∉yw o:=λh=>by rw[Se.2 h] at e;cases e
   rcases L with⟨O,L⟩|⟨b,y,O,G,K,P⟩
   .obtain⟨b,y,G,K,P,h4⟩:=ih (i+1) i (aI l) (.inr ⟨i,x,rfl,I,U,λj z Q D N=>by
     by_cases R:j=i
     .subst R;rw[I] at D;cases D;exact yC _
     grind⟩)
    refine⟨b,y,G,K,P,λr S=>Fi ?_⟩;rw[aR l,aj,jQ l,jP l,V,ak,f2,e,fE,aj,O,cond_pos (by rfl),aN l af];exact h4 r S
   .obtain⟨B,hy⟩:=bu.1 G;cases e2:Op.bytesLess x.Name y.Name with
    |true=>
     obtain⟨c,z,g1,g2,g3,g4⟩:=ih (i+1) i (aI l) (.inr ⟨i,x,rfl,I,U,λj z Q D N=>by
      by_cases R:j=i
      .subst R;rw[I] at D;cases D;exact yC _
      .have:=P j z af D N
       grind[Op.bytesLess,ri]⟩)
     refine⟨c,z,g1,g2,g3,λr S=>Fi ?_⟩;rw[aR l,aj,jQ l,jP l,V,ak,f2,e,fE,aj,O,cond_neg (by rfl),jQ l,jP l,BF B,aS,mQ B,hy,e2,aj,aN l af];simp_all
    |false=>
     obtain⟨c,z,g1,g2,g3,g4⟩:=ih (i+1) b (aI l) (.inr ⟨b,y,rfl,G,K,λj z Q D N=>by grind⟩);refine⟨c,z,g1,g2,g3,λr S=>Fi ?_⟩;rw[aR l,aj,jQ l,jP l,V,ak,f2,e,fE,aj,O,cond_neg (by rfl),jQ l,jP l,BF B,aS,mQ B,aN l af];simp_all
def h504_11 {t:List Template} (ht:t.length<=1000) (K:(yw t).Nodup):∀(k:Nat) (o:List Template),t.length=o.length+k->CW o->(∀x∈o,x∈t)->(∀x∈t,x.Name∉yw o->∀y∈o,Op.bytesLess y.Name x.Name=true)->
  ∃m,F5 t o=some (m,0)/\CW m/\m.length=t.length/\∀x∈m,x∈t:=by
 intro k;induction k with
 |zero=>simp_all[YE,cond_neg,bB]
 |succ k V=>
  intro o hl U hm B;have z:∃x∈t,x.Name∉yw o:=by
   by_cases h:∃x∈t,x.Name∉yw o
   .exact h
   .exfalso;have:=jI (m:=yw o) K λs hs=>by
     grind
    grind
  obtain⟨b,y,P,Q,R,h4⟩:=h504_14 ht af z t 0 (-1) rfl (.inl ⟨rfl,λj x hj=>by omega⟩);have L:=aP P;have q:yw (o++[y])=yw o++[y.Name]:=ai
  obtain⟨m,g1,O⟩:=V (o++[y]) aH (by
   unfold CW;rw[lB]
   exact⟨U,sI _ _,λa l c S=>by rw[bZ.1 S];exact B y L Q a l⟩) (λx N=>by
   grind) λx N D a l=>by
    rw[q] at D;have G:x.Name∉yw o:=λh=>D (dx _ h)
    have I:x.Name≠y.Name:=λh=>D (by simp_all)
    rcases bf.1 l with l|l
    .simp_all
    .rw[bZ.1 l];exact uq _ _ (R x N G) I
  exact⟨m,YE (by grind),O⟩
end Go.Proofs.YtacapiamkgkkjaaGreatDoor.cl.pf
namespace Go.Proofs.YtacapiamkgkkjaaGreatDoor.cl.pf
open Go Go.AM
def c568 {l:List Template} (z:l.length<=1000):f568 l=some l:=by refine pX ?_;refine lS ?_;have q:Nat.ble ((List.map Template.enc l).length *64) 140737488355328=true:=og (by grind);show(bif Nat.ble _ _ then _ else _)=_;rw[q];rfl
def c569 {u:List Template} {k:Nat} {c:Template} (q:k<=u.length) (z:u.length<=1000):f569 (k:Int) [c] u=some (u.take k++[c]++u.drop k):=by
 refine pX ?_;refine lS ?_;have l:(decide ((0:Int)<=(k))&&decide ((k:Int)<=((List.map Template.enc u).length))&&Nat.ble (((List.map Template.enc u).length+1) *64) 140737488355328&&Nat.beq 66 66)=true:=by simp;omega
 show(bif(decide _&&decide _&&Nat.ble _ _&&Nat.beq _ _) then some _ else _)=_;rw[l];simp[R8,cE,List.map_take,om,bM,fN]
def OQ:∀{m u:List Template},CW m->CW u->(∀x∈m,x∈u)->List.Sublist m u
 |[],u,_,_,_=>List.nil_sublist u
 |x::m,[],_,_,h=>by have:=h x (by simp);grind
 |x::m,y::u,q,G,h=>by
  obtain⟨K,L⟩:=c7.1 q;obtain⟨N,B⟩:=c7.1 G;rcases aJ.1 (h x ai) with e|I
  .subst e;refine .cons_cons _ (OQ L B λz l=> ?_);rcases aJ.1 (h z (by simp[l])) with e|D
   .grind[By]
   omega
  .refine .cons _ (OQ q B λz l=> ?_);rcases aJ.1 (h z l) with e|D
   .subst e;rcases aJ.1 l with e|l
    .simp_all
    .exact(By (ri _ _ _ (N x I) (K z l)) rfl).elim
   omega
def ins_asc {u:List Template} (z:CW u) {k:Nat} {c:Template} (G:∀j x,j<k->u[j]? =some x->Op.bytesLess x.Name c.Name=true) (B:∀j x,k<=j->u[j]? =some x->Op.bytesLess x.Name c.Name=false) (D:c.Name∉yw u):CW (u.take k++[c]++u.drop k):=by
 have I:∀x∈u.drop k,Op.bytesLess _ _=true:=λx l=>by obtain⟨j,q⟩:=gu.1 l;rw[pO] at q;exact uq _ _ (B _ x af q) λe=>D (aG.2 ⟨x,jw l,e⟩)
 have ht:∀x∈u.take k,Op.bytesLess x.Name c.Name=true:=λx l=>by obtain⟨j,q⟩:=gu.1 l;grind
 unfold CW at z;rw[<-jZ k u] at z;unfold CW;grind
structure TR (t u:List Template):Prop where
 zW:CW u
 nd:(yw t).Nodup
 same:∀x,x∈u↔x∈t
 len:u.length=t.length
def TR.tpr {t u:List Template} (h:TR t u) (N:t.length<=1000):I1 t u:=⟨h.zW,by have:=h.len;omega,λs=>by
 rcases oA (λx:Template=>x.Name==s) t 0 with⟨D,q⟩|⟨i,x,D,q,G,_⟩<;>rcases oA (λx:Template=>x.Name==s) u 0 with⟨I,l⟩|⟨j,y,I,l,K,_⟩
 .simp_all
 .rw[q y ((h.same y).1 (aP l))] at K;grind
 .rw[l x ((h.same x).2 (aP q))] at G;grind
 .have B:=(h.same y).1 (aP l);have e:x=y:=by
   obtain⟨k,L⟩:=gu.1 B;have O:=js.1 (ic.1 h.nd);rcases sG i k with z|z|z
   .grind
   .simp_all
   .grind
  grind⟩
def TDef (T F:Nat) (t:List Template):Prop:=∀x∈t,∀f∈x.c8,Can T F f/\f.az.length<=4096
def abk (t u:List Template) (ref:Option ((Template×Int)×List Template)) (l:List Node->List (bV×List Int)->Option ((FSt×List FSt×Int)×List Node×List (bV×List Int))) (G:Template->Prop):Prop:=
 ∃c e,ref=some ((c,e),t)/\(I1 t u->∀A B,∃z q,l A B=some ((c.fR,c.c8,e),z,q))/\(e=0->G c)
section
variable {h:aV} {T F:Nat} {sb:Int->Int->Prop} {cz:Int->Int} {val:Int->Int->Int} (H:HX h T F sb cz val) (hT:T<=1000) (hF:F<=300) (AS:0<T)
section
variable {t u:List Template} (ht:t.length<=1000) (hs:ZI T F t) (hg:TDef T F t) {M:Nat} (hM:M<=1000000) (hD:∀x∈t,x.c8.length<=M)
include ht hg hM hD in
theorem s14 {l:List bV} (hl:l.length<=1000) (hk:∀s∈l,∃(i:Nat) (x:Template),tpos t s=(i:Int)/\t[i]? =some x):∀(xs:List bV) (i:Nat) (w:List FSt),l.drop i=xs->w.length+M *xs.length<=1000000000->(∀f∈w,Can T F f/\f.az.length<=4096)->
  ∃B,(∀{o6 o8 P a b c d},F9 l i o6 o8 P a b c d w t=some ((⟨P,⟨a⟩,B⟩,0),t))/\(I1 t u->∀{o4 Q U S A O},Gb l.length i o4 Q w l U S u A O=some ((Q,B,0),A,O))/\B.length<=w.length+M *xs.length/\∀f∈B,Can T F f/\f.az.length<=4096:=by
 intro xs;induction xs with
 |nil=>intro i w q hw z;exact⟨w,YG (by rw[bg q,au]),λ_=>YJ (by rw[bg q,au]),by omega,z⟩
 |cons s xs ih=>
  intro i w q hw z;obtain⟨j,x,q1,K⟩:=hk s (aP (bU q));obtain⟨N,hx⟩:=bu.1 K;have D:=aP K;have hDx:=hD x D;have hm:M *(s::xs).length=M *xs.length+M:=by rw[bA,Nat.mul_succ]
  obtain⟨B,g1,g2,g3,g4⟩:=ih (i+1) (w++x.c8) (aI q) (by rw[bR];omega) λf hf=>(bf.1 hf).elim (z f) (hg x D f)
  rw[bR] at g3;refine⟨B,YG ?_,λL=>YJ ?_,by omega,g4⟩
  .rw[aR q,aj,aK q,(ZU _ _ af).trans (aU some q1),ak,BF N,aS,mQ N,hx,cF _ af af af,aN q af];exact g1
  .obtain⟨k,b,V,f2⟩:=L.find s;rcases f2 with⟨_,i2,y,r1,R,r3⟩|⟨_,r1⟩
   .have G:i2=j:=af;subst G;rw[K] at R;cases R;obtain⟨I,hy⟩:=bu.1 r3;rw[aR q,aj,jQ q,jP q,V,bq,cR I,hy,cF _ af af af,aN q af];exact g2 L
   .omega
include H hT hF AS ht hs in
theorem s6 {x:Def} (hx:JX x) {G:Template->Prop} {f:FSt} {o4:FSt}
  (hr:∀L:List FSt,L.length<=3->(∀f∈L,Can T F f/\f.az.length<=4096)->abk t u (Option.bind (f548 x.fR ([]:List bV)) λy=>F9 y 0 ⟨[],⟨[]⟩,[]⟩ f x.Name f.az [] [] [] L t) (λA q=>Option.bind (f572 x.fR ([]:List bV)) λy=>Gb y.length 0 o4 f L y h.Types h.bG u A q) G):
  ∀(xs:List bQ) (i:Nat) (w:List FSt),x.c8.drop i=xs->w.length+xs.length<=3->(∀f∈w,Can T F f/\f.az.length<=4096)->
  abk t u (Mv i h x ⟨[],⟨[]⟩,[]⟩ f x.Name f.az [] [] [] w t) (λA q=>RN x.c8 x.c8.length i x o4 f w h.Types h.bG u A q) G:=by
 have hdl:=hx.dl;intro xs;induction xs with
 |nil=>intro i w l hw z;obtain⟨c,e,Q,R,S⟩:=hr w (by simp at hw;omega) z;refine⟨c,e,Wr (by rw[bg l,au];exact Q),λI A q=> ?_,S⟩;obtain⟨N,B,U⟩:=R I A q;exact⟨N,B,Wv (by rw[bg l,au];exact U)⟩
 |cons y xs ih=>
  intro i w l hw z;rw[bA] at hw;obtain⟨P,e,q1,q2,q3,_⟩:=Kh (u:=u) H hT hF ht hs AS (hx.df y (aP (bU l)));by_cases K:e=0
  .have hf1:Can T F P/\P.az.length<=4096:=by
    rcases q3 with⟨_,V,h2⟩|⟨V,_⟩
    .exact⟨V,h2⟩
    .exact(V K).elim
   obtain⟨c,e2,Q,R,S⟩:=ih (i+1) (w++[P]) (aI l) aH λg hg=>(bf.1 hg).elim (z g) λh=>by rw[bZ.1 h];exact hf1
   refine⟨c,e2,Wr ?_,λI A q=> ?_,S⟩
   .rw[aR l,aj,aK l,q1,gw,cond_neg (by simp[K]),cF _ af ai af,aN l af];exact Q
   .obtain⟨O,D,q4⟩:=(q2 I).2 A q;obtain⟨N,B,U⟩:=R I O D;refine⟨N,B,Wv ?_⟩;rw[aR l,aj,aK l,q4,bq,cond_neg (by simp[K]),cF _ af ai af,aN l af];exact U
  .refine⟨⟨[],⟨[]⟩,[]⟩,e,Wr ?_,λI A q=> ?_,λh=>(K h).elim⟩
   .rw[aR l,aj,aK l,q1,gw,cond_pos (by simpa using K)]
   .obtain⟨O,D,q4⟩:=(q2 I).2 A q;refine⟨O,D,Wv ?_⟩;rw[aR l,aj,aK l,q4,bq,cond_pos (by simpa using K)]
include H hT hF AS ht hs hg hM hD in
theorem Z1 {x:Def} (G:JX x):abk t u (f527 h x t) (λA z=>f567 x h.Types h.bG u A z) λc=>c.Name=x.Name/\(Can T F c.fR/\c.fR.az.length<=4096)/\c.c8.length<=3+12 *M/\∀f∈c.c8,Can T F f/\f.az.length<=4096:=by
 obtain⟨f,e,Q,R,q3,q4⟩:=Kh (u:=u) H hT hF ht hs AS G.st;by_cases l:e=0
 .have L:Can T F f/\f.az.length<=4096:=by
   rcases q3 with⟨_,K,h2⟩|⟨K,_⟩
   .exact⟨K,h2⟩
   .exact(K l).elim
  have hcn:=G.st.cnt;have hl:=Am x.fR [];have hk:∀s∈WQ x.fR [],∃(i:Nat) (y:Template),tpos t s=(i:Int)/\t[i]? =some y:=(Qc (λs=>∃(i:Nat) (y:Template),tpos t s=(i:Int)/\t[i]? =some y) x.fR []).2 ⟨(q4 l).imp λd q ho=>q.tm ho,λs hs=>by cases hs⟩;rw[fK] at hl;have hm:M *(WQ x.fR []).length<=M *12:=Bq _ af
  obtain⟨c,V,g1,g2,g3⟩:=s6 H hT hF AS (u:=u) ht hs G (f:=f) (o4:=⟨[]⟩) (G:=λc=>c.Name=x.Name/\(Can T F c.fR/\c.fR.az.length<=4096)/\c.c8.length<=3+12 *M/\∀f∈c.c8,Can T F f/\f.az.length<=4096) (λw' hw' N=>by
   obtain⟨S,v1,v2,v3,v4⟩:=s14 (u:=u) ht hg hM hD (l:=WQ x.fR []) af hk (WQ x.fR []) 0 w' rfl af N;refine⟨⟨x.Name,f,S⟩,0,?_,λD A z=>⟨A,z,?_⟩,λ_=>⟨rfl,L,by show S.length<=_;omega,v4⟩⟩
   .rw[c548 x.fR G.st.fm [] aH,ak];exact v1
   .dsimp only
    rw[c572 x.fR G.st.fm [] aH,ak];exact v2 D) x.c8 0 [] rfl (by simpa using G.dl) (λf L=>by cases L)
  refine⟨c,V,e527 (by rw[Q,gw,cond_neg (by simp[l])];exact g1),λD A z=> ?_,g3⟩;obtain⟨I,B,P⟩:=(R D).2 A z;obtain⟨U,O,q6⟩:=g2 D I B;exact⟨U,O,e567 (by rw[P,bq,cond_neg (by simp[l])];exact q6)⟩
 .refine⟨⟨[],⟨[]⟩,[]⟩,e,e527 (by rw[Q,gw,cond_pos (by simpa using l)]),λD A z=> ?_,λh=>(l h).elim⟩;obtain⟨I,B,P⟩:=(R D).2 A z;exact⟨I,B,e567 (by rw[P,bq,cond_pos (by simpa using l)])⟩
end
def TG (T F:Nat) (t:List Template):Prop:=t.length<=4/\ZI T F t/\TDef T F t/\∀x∈t,x.c8.length<=10000000
include H hT hF AS in
theorem afn {l:List Def} (hl:l.length<=4) (hd:∀x∈l,JX x) {K:List bV} {xs:List Def} (hq:Ord l K xs):∀(t u:List Template),yw t=K->t.length<=4->ZI T F t->TDef T F t->TR t u->(∀x∈t,x.c8.length<=50^ t.length)->
  ∃m e,Ms l h t=some (m,e)/\(∀(L:List Def) (i:Nat),L.drop i=xs->L.length<=1000->∀o2 A I,RL u L L.length i h.Types h.bG o2 A I=some (m,e))/\TG T F m:=by
 induction hq with
 | @fin K hln=>
  intro t u N ht4 hs hg D hD;have htl:t.length=K.length:=by rw[<-N,bI]
  obtain⟨m,g1,g2,g3,g4⟩:=h504_11 (t:=t) af D.nd t.length [] ai List.Pairwise.nil (λx B=>by cases B) (λx _ _ y q=>by cases q);have e:m=u:=(OQ g2 D.zW λx B=>(D.same x).2 (g4 x B)).eq_of_length (by have:=D.len;omega);have hp:50^ t.length<=50^ 4:=sF af af;refine⟨m,0,Wn (by rw[cond_neg (by rw[bB];omega)];exact g1),λL i z hL o2 A I=>Wu (by rw[bg z,au,e]),by omega,λx B=>hs x (g4 x B),λx B=>hg x (g4 x B),λx B=>by have:=hD x (g4 x B);omega⟩
 | @step K b x xs hlt hnx S G _ ih=>
  intro t u N ht4 hs hg D hD;have htl:t.length=K.length:=by rw[<-N,bI]
  obtain⟨e1,_⟩:=c526 (t:=t) af af hd;rw[show t.map (·.Name)=K from N,hnx] at e1;obtain⟨R,B⟩:=bu.1 S;have hp:50^ t.length<=50^ 3:=sF af af;have hLx:=hd x (aP S);have xC:=D.len;have htp:=D.tpr af;obtain⟨c,e,g1,g2,g3⟩:=Z1 (u:=u) H hT hF AS af hs hg (M:=50^ t.length) af hD hLx;by_cases U:e=0
  .obtain⟨Q,c2,c3,c4⟩:=g3 U;have hsn:yw (t++[c])=K++[x.Name]:=by simp[N,Q]
   have hpp:50^ (t.length+1)=50 *50^ t.length:=by rw[Nat.pow_succ,Nat.mul_comm]
   have h1p:1<=50^ t.length:=Nat.one_le_pow _ _ af;obtain⟨k,b',p1,p2,p3,p4⟩:=tplace D.zW af x.Name;have hun:c.Name∉yw u:=λhm=>by obtain⟨y,q,e⟩:=aG.1 hm;exact G (by rw[<-N,<-Q,<-e];exact aG.2 ⟨y,(D.same y).1 q,rfl⟩)
   have V:∀y,y∈u.take k++[c]++u.drop k↔y∈u\/y=c:=λy=>by
    rw[bf,bf,bZ]
    have:y∈u↔y∈u.take k\/y∈u.drop k:=by rw[<-bf,jZ]
    rw[this];exact⟨λh=>h.elim (λh=>h.elim (λh=> .inl (.inl h)) .inr) λh=> .inl (.inr h),λh=>h.elim (λh=>h.elim (λh=> .inl (.inl h)) .inr) λh=> .inl (.inr h)⟩
   obtain⟨m,e3,j1,j2,j3⟩:=ih (t++[c]) (u.take k++[c]++u.drop k) hsn aH (λy q=>by
    rcases bf.1 q with q|q
    .exact hs y q
    .rw[bZ.1 q];exact c2) (λy q=>by
    rcases bf.1 q with q|q
    .exact hg y q
    .rw[bZ.1 q];exact c4) ⟨ins_asc D.zW (by rw[Q];exact p3) (by rw[Q];exact p4) hun,by
     rw[hsn,gW];have:=D.nd;rw[N] at this
     exact⟨this,by simp,λa ha b hb=>by rw[bZ.1 hb];exact λe=>G (e▸ha)⟩,λy=>by rw[V,D.same,bf,bZ],aH⟩ (λy q=>by
    rw[bR,dY,hpp];rcases bf.1 q with q|q
    .have:=hD y q;omega
    .rw[bZ.1 q];omega)
   refine⟨m,e3,Wn ?_,λL i z hL o2 A I=> ?_,j3⟩
   .rw[cond_pos (by rw[bN];omega),e1,ak,cR R,B,g1,gw,cond_neg (by simp[U]),cF _ af ai af];exact j1
   .obtain⟨A1,O,P⟩:=g2 htp A I;have P:f567 x h.Types h.bG u A I=some ((c.fR,c.c8,e),A1,O):=P;refine Wu ?_;rw[aR z,aj,aK z,P,bq,cond_neg (by simp[U]),p1,bq,c568 af,ak,show Template.mk x.Name c.fR c.c8=c by rw[<-Q],c569 p2 af,ak,aN z af];exact j2 L (i+1) (aI z) hL _ _ _
  .refine⟨[],e,Wn ?_,λL i z hL o2 A I=> ?_,by simp,λx B=>(by cases B),λx B=>(by cases B),λx B=>(by cases B)⟩
   .rw[cond_pos (by rw[bN];omega),e1,ak,cR R,B,g1,gw,cond_pos (by simpa using U)]
   .obtain⟨A1,O,P⟩:=g2 htp A I;have P:f567 x h.Types h.bG u A I=some ((c.fR,c.c8,e),A1,O):=P;refine Wu ?_;rw[aR z,aj,aK z,P,bq,cond_pos (by simpa using U)]
include H hT hF AS in
theorem tpl {l:List Def} (K:l.length<=4) (I:∀x∈l,JX x):∃m e,f504 h l=some (m,e)/\f562 h l=some (m,e)/\TG T F m:=by
 obtain⟨r,xs,B,D,G,P⟩:=c564 K I;by_cases z:r=0
 .subst z;obtain⟨m,e,L,N,O⟩:=afn H hT hF AS K I (G rfl) [] [] rfl ai (λx q=>by cases q) (λx q=>by cases q) ⟨.nil, .nil,λ_=> .rfl,rfl⟩ (λx q=>by cases q);refine⟨m,e,e504 (by rw[B,ak,cond_neg (by rfl)];exact L),e562 ?_,O⟩;rw[D,ak,cond_neg (by rfl),e505 rfl,vZ];exact N xs 0 rfl (by have:=(G rfl).len;omega) _ _ _
 .exact⟨[],r,e504 (by rw[B,ak,cond_pos (by simpa using z)]),e562 (by rw[D,ak,cond_pos (by simpa using z)]),by simp,λx q=>(by cases q),λx q=>(by cases q),λx q=>(by cases q)⟩
end
def h402_4 {l:List FSt} (B:l.length<=10000000) (hs:∀f∈l,Sm f):∀(xs:List FSt) (i:Nat),l.drop i=xs->Rj l l i=some true:=by intro xs;induction xs with
 |nil=>intro i q;exact adC (by rw[bg q,au])
 |cons x xs z=>intro i q;refine adC ?_;rw[aR q,aj,aK q,aK q,XI (hs x (aP (bU q))),ak,dr,au,aN q af];exact z _ (aI q)
def h563_4 {l:List Template} (D:l.length<=1000) (z:∀x∈l,Sm x.fR/\x.c8.length<=10000000/\∀f∈x.c8,Sm f):∀(xs:List Template) (i:Nat),l.drop i=xs->RM l l i=some true:=by intro xs;induction xs with
 |nil=>intro i q;exact aee (by rw[bg q,au])
 |cons x xs B=>intro i q;obtain⟨a,b,c⟩:=z x (aP (bU q));refine aee ?_;rw[aR q,aj,aK q,aK q,cond_neg ai,aK q,aK q,XI a,ak,dr,au,aK q,aK q,e402 (by rw[cond_neg ai];exact h402_4 b c _ 0 rfl),ak,dr,au,aN q af];exact B _ (aI q)
section
variable {h:aV} {T F:Nat} {sb:Int->Int->Prop} {cz:Int->Int} {val:Int->Int->Int} (H:HX h T F sb cz val) (hT:T<=1000) (hF:F<=300) (AS:0<T)
include H hT hF AS
theorem M1 {d:List aB} {l:List Def} (Q:f403 d=some h) (z:f499=some true):f561 d l=some true:=by obtain⟨b,e1,D⟩:=c502 l;cases b with
 |false=>simp_all[e561]
 |true=>
  obtain⟨m,e,G,I,R,K,L,N⟩:=tpl H hT hF AS (D rfl).1 (D rfl).2;have q:∀{f:FSt},Can T F f/\f.az.length<=4096->Sm f:=λ{f} O=>O.1.sm af af
  refine e561 ?_;rw[Q,ak,e1,ak,cond_neg (by rfl),I,ak,G,ak,cond_pos ai,e563 (by rw[cond_neg ai];exact h563_4 af (λx B=>⟨q (K x B),N x B,λf P=>q (L x B f P)⟩) m 0 rfl),ak,aj,z,ak]
end
end Go.Proofs.YtacapiamkgkkjaaGreatDoor.cl.pf
namespace Go.Proofs.YtacapiamkgkkjaaGreatDoor.cl.pf
open Go Go.AM
def law561 {d:List aB} {l:List Def} (z:Sz d) (G:Fz d) (B:f499=some true):f561 d l=some true:=by obtain⟨h,t,D,q⟩:=c403 z G;have:=q.F;exact M1 q.hx q.T af q.P D B
end Go.Proofs.YtacapiamkgkkjaaGreatDoor.cl.pf
set_option maxRecDepth 100000
namespace Go.Proofs.YtacapiamkgkkjaaGreatDoor.cl
open Go Go.AM Go.RowKit Go.ChangeShapes Go.WideShapes Go.ChangeAt
def KB {T:Type} {q:T->List AV}:∀{xs:List (List AV)},(∀x∈xs,∃y:T,x=q y)->∃l:List T,xs=l.map q:=by intro xs;induction xs with
 |nil=>intro _;exact⟨[],rfl⟩
 |cons x xs D=>
  intro h;obtain⟨y,rfl⟩:=h x ai;obtain⟨l,rfl⟩:=D λz B=>h z (by simp[B])
  exact⟨y::l,rfl⟩
section
variable {H:Type} {enc:TypeId×Value->H} {w:World}
def xu:vU (H:=H) Rows.uptoBulk Rows.uptoBulkAll where
 str:=λ_=>rfl
 lit:=λl=>by cases l<;>simp[Rows.uptoBulk]
 nil:=by simp[Rows.uptoBulk]
 slice:=λ_ _=>by simp[Rows.uptoBulk]
 agg:=λ_=>by simp[Rows.uptoBulk]
 nilA:=by simp[Rows.uptoBulkAll]
 ab5:=λ_ _=>by simp[Rows.uptoBulkAll]
def LI {T:Type} {z:T->List AV} {t e sz:Nat} (hs:P.underlying t=some (.slice e)) (D:P.cellsOf e=sz) (B:0<sz) {n:Nat} (h:∀n,HA enc P w Rows.uptoBulk n e λq=>∃x:T,q=z x):HA enc P w Rows.uptoBulk n t λq=>∃l:List T,q=[.dK sz (l.map z)]:=by cases n with
 |zero=>exact HA.zero
 |succ n=>refine(Uw xu (sz:=sz) hs D B (h n)).mono ?_;rintro a ⟨xs,rfl,G⟩;obtain⟨l,rfl⟩:=KB G;exact⟨l,rfl⟩
def rd167 (n:Nat):HA enc P w Rows.uptoBulk n 167 λl=>∃x:er,l=x.enc:=by cases n with
 |zero=>exact HA.zero
 |succ n=>
  refine(CG xu (Qs:=[λa=>∃x,a=jL x,λa=>∃x,a=jL x]) Tryz.underlying167 (by kernel_rfl) (by kernel_rfl) ?_).mono ?_
  .exact⟨Ed xu Tryz.underlying9,Ed xu Tryz.underlying9,trivial⟩
  .rintro a ⟨_,_,rfl,⟨s,rfl⟩,_,_,rfl,⟨v,rfl⟩,rfl⟩;exact⟨⟨s,v⟩,rfl⟩
def rd116 (n:Nat):HA enc P w Rows.uptoBulk n 116 λq=>∃x:aB,q=x.enc:=by cases n with
 |zero=>exact HA.zero
 |succ n=>
  refine(CG xu (Qs:=[λa=>∃x,a=jL x,λa=>∃l:List (List UInt8),a=[.dK 1 (l.map jL)],λa=>∃l:List er,a=[.dK 2 (l.map er.enc)]]) Tryz.underlying116 (by kernel_rfl) (by kernel_rfl) ?_).mono ?_
  .exact⟨Ed xu Tryz.underlying9,LI Tryz.underlying24 (by kernel_rfl) (by decide) λn=>Ed xu (n:=n) Tryz.underlying9,LI Tryz.underlying114 (by kernel_rfl) (by decide) rd167,trivial⟩
  .rintro a ⟨_,_,rfl,⟨s,rfl⟩,_,_,rfl,⟨l,rfl⟩,_,_,rfl,⟨m,rfl⟩,rfl⟩;exact⟨⟨s,l,m⟩,rfl⟩
def rd27:∀n:Nat,(HA enc P w Rows.uptoBulk n 27 λq=>∃x:bQ,q=x.iw)/\HA enc P w Rows.uptoBulk n 25 λq=>∃l:List bQ,q=[.dK 4 (l.map bQ.iw)]:=by intro n;induction n with
 |zero=>exact⟨HA.zero,HA.zero⟩
 |succ n z=>
  constructor
  .refine(CG xu (Qs:=[λa=>∃x,a=eC .i64 x,λa=>∃x,a=jL x,λa=>∃l:List (List UInt8),a=[.dK 1 (l.map jL)],λa=>∃l:List bQ,a=[.dK 4 (l.map bQ.iw)]]) Tryz.underlying27 (by kernel_rfl) (by kernel_rfl) ?_).mono ?_
   .exact⟨rd_int xu Tryz.underlying3,Ed xu Tryz.underlying9,LI Tryz.underlying24 (by kernel_rfl) (by decide) λn=>Ed xu (n:=n) Tryz.underlying9,z.2,trivial⟩
   .rintro a ⟨_,_,rfl,⟨o,rfl⟩,_,_,rfl,⟨s,rfl⟩,_,_,rfl,⟨p,rfl⟩,_,_,rfl,⟨k,rfl⟩,rfl⟩;refine⟨.mk o s p k,?_⟩;rw[bQ.iw,bQ.SU];rfl
  .refine(Uw xu (sz:=4) Tryz.underlying25 (by kernel_rfl) (by decide) z.1).mono ?_;rintro a ⟨xs,rfl,B⟩;obtain⟨l,rfl⟩:=KB B;exact⟨l,rfl⟩
def rdDesc (n:Nat):HA enc P w Rows.uptoBulk n 27 λl=>∃x:bQ,l=x.enc:=(rd27 n).1.mono λa ⟨x,q⟩=>⟨x,by rw[q,bQ.lI]⟩
def rd62 (n:Nat):HA enc P w Rows.uptoBulk n 62 λq=>∃x:Def,q=x.enc:=by cases n with
 |zero=>exact HA.zero
 |succ n=>
  refine(CG xu (Qs:=[λa=>∃x,a=jL x,λa=>∃x:bQ,a=x.enc,λa=>∃l:List bQ,a=[.dK 4 (l.map bQ.iw)]]) Tryz.underlying62 (by kernel_rfl) (by kernel_rfl) ?_).mono ?_
  .exact⟨Ed xu Tryz.underlying9,rdDesc n,(rd27 n).2,trivial⟩
  .rintro a ⟨_,_,rfl,⟨s,rfl⟩,_,_,rfl,⟨d,rfl⟩,_,_,rfl,⟨l,rfl⟩,rfl⟩;exact⟨⟨s,d,l⟩,rfl⟩
variable {base:Nat} {Uv:Reach} {v:Value} {d:DataW H} {ps:List MemPlace}
def ZN (z:Value.okWide Tryz.prog w Uv base 22 v) (G:DataW.Trod enc Tryz.prog w 0 (λ_=>true) true 22 v d ps):∃l:List aB,rep (muW w) (.dK 3 (l.map aB.enc)) v/\AQ (l.map aB.enc)<=Rows.uptoBulk d:=by
 obtain⟨K,len,B,rfl⟩:=okWide_slice Tryz.underlying22 z;obtain⟨a,⟨l,q⟩,I,D,_⟩:=XG rfl G λn=>LI (n:=n) (sz:=3) Tryz.underlying22 (by kernel_rfl) (by decide) rd116
 injection q with q;subst q;exact⟨l,I,by simp only[AV.bulk] at D;omega⟩
def abH (z:Value.okWide Tryz.prog w Uv base 23 v) (D:DataW.Trod enc Tryz.prog w 0 (λ_=>true) true 23 v d ps):∃l:List Def,rep (muW w) (.dK 6 (l.map Def.enc)) v:=by
 obtain⟨I,len,B,rfl⟩:=okWide_slice Tryz.underlying23 z;obtain⟨a,⟨l,q⟩,G,K,_⟩:=XG rfl D λn=>LI (n:=n) (sz:=6) Tryz.underlying23 (by kernel_rfl) (by decide) rd62
 injection q with q;subst q;exact⟨l,G⟩
end
def ES {T:Type} {en:T->List AV} (h:∀x,1<=oJ (en x)):∀l:List T,l.length<=AQ (l.map en)
 |[]=>by simp
 |x::l=>by have q:=ES h l;have z:=h x;simp only[bM,bA,AQ];omega
def sz_of {d:List aB} (h:AQ (d.map aB.enc)<=1048576):Sz d/\Fz d:=by
 have key:∀t∈d,t.ew.length<=1048576/\t.bG.length<=1048576:=λt ht=>by have l:=ZS (jq (f:=aB.enc) ht);have q:=ES (en:=jL) (λx=>by simp only[jL,oJ,AV.bulk];omega) t.ew;have z:=ES (en:=er.enc) (λx=>by simp only[er.enc,oJ,AV.bulk];omega) t.bG;simp only[aB.enc,oJ,AV.bulk] at l;omega
 have B:=ES (en:=aB.enc) (λx=>by simp only[aB.enc,oJ,AV.bulk];omega) d;exact⟨⟨af,λt ht=>(key t ht).1⟩,λt ht=>(key t ht).2⟩
end Go.Proofs.YtacapiamkgkkjaaGreatDoor.cl
namespace Go.Proofs.YtacapiamkgkkjaaGreatDoor.cl
open Go Go.AM Go.RowKit
def UH {r:AV} {v:Value} {O:Mu} {z:Nat->Value} {w L:World} {e N g n B:Nat} {ys:List (List AV)} {us:List Value} {cur l:Array Value}
  (V:Hz O w) (D:z 10000= .slice (some ⟨g,0,none⟩) n B) (P:n<=B) (Q:B<=maxLen) (K:cur.size=B *N) (U:GY w.heap.size (gJ False z [10000]) 10000 g) (R:∀j,O g j=none)
  (hg:L.heap[g]? =some (.cells l e (0,0))) (hs:l.size=cur.size) (wD:l.toList.take (n *N)=us) (xC:us.length=n *N) (I:∀b,b<w.heap.size->b≠g->L.heap[b]? =w.heap[b]?)
  (hos:L.os=w.os) (ht:L.tape=w.tape) (S:L.output=w.output) (hgr:w.heap.size<=L.heap.size) (G:ys.length=n) (hrc:de O N ys us) (hres:rep O r v\/∃n A m c,r= .self n/\z 10000= .slice A m c/\n<=m/\v= .slice A n c):
  eo False O z [10000] r [(10000, .row e N ys)] w v O z L where
 ext:=Mu.ext.toL ⟨Mu.le.refl _,λ_ _ _ h=> .inl h⟩
 yx:=λb j x hx=>by
  have h:=V b j x hx;have hne:b≠g:=λe=>by subst e;rw[R j] at hx;cases hx
  rw[iU (I b (q9 h) hne) j];exact h
 res:=hres.imp id λ⟨n,A,m,c,h1,h2,h3,h4⟩=> .inl ⟨n,A,m,c,h1,by simp,h2,h3,h4⟩
 obs:=λid o h=>by
  have hid:=ry h;subst hid;have ho:Ob.row e N ys=o:=by simpa[find] using h
  subst ho;refine⟨us,⟨by rw[xC,G], .inr ⟨g,B,l,by rw[D,G],cO _,hg,by rw[G];exact P,Q,by rw[hs,K],by rw[G];exact wD⟩⟩,hrc,λq hq=> ?_⟩
  have:q=g:=by rw[D] at hq;have h2:some g=some q:=fP.1 hq;exact(fc h2).symm
  subst this;exact⟨U,R⟩
 apart:=λi j oi oj hi hj hij=>absurd ((ry hi).trans (ry hj).symm) hij
 keep:=λb hlt hl=>I b hlt (λe=>by
  subst e
  exact hl ⟨10000,z 10000,by simp[gJ],by rw[D];exact fP.2 rfl⟩)
 fix:=λ_ _ _ _=>rfl
 os:=hos
 tape:=ht
 output:=S
 grown:=hgr
 drawn:=λh=>h.elim
def Oq {R:Mu} {z:Nat->Value} {w D:World} {e Q g n q:Nat} {ys:List (List AV)} {us:List Value} {cur l:Array Value}
  (P:Hz R w) (I:z 10000= .slice (some ⟨g,0,none⟩) n q) (G:n<=q) (K:q<=maxLen) (B:cur.size=q *Q) (O:GY w.heap.size (gJ False z [10000]) 10000 g) (U:∀j,R g j=none)
  (hg:D.heap[g]? =some (.cells l e (0,0))) (hs:l.size=cur.size) (wD:l.toList.take (n *Q)=us) (xC:us.length=n *Q) (L:∀b,b<w.heap.size->b≠g->D.heap[b]? =w.heap[b]?)
  (V:D.os=w.os) (ht:D.tape=w.tape) (N:D.output=w.output) (S:w.heap.size<=D.heap.size) (hyl:ys.length=n) (hrc:de R Q ys us):
  eo False R z [10000] (.gy []) [(10000, .row e Q ys)] w (.tuple #[]) R z D:=
 UH P I G K B O U hg hs wD xC L V ht N S hyl hrc (.inl (by rw[rep.eq_def];exact⟨[],rfl,rfl⟩))
end Go.Proofs.YtacapiamkgkkjaaGreatDoor.cl
namespace Go.Proofs.YtacapiamkgkkjaaGreatDoor.cl
open Go Go.AM Go.RowKit
def IQ {K:Type} {lt:K->K->Bool}:∀{l q:List K},l.Perm q->lu lt l->lu lt q->(∀x∈l,∀y∈l,lt x y=false->lt y x=false->x=y)->l=q:=by intro l;induction l with
 |nil=>intro q h _ _ _;exact(List.nil_perm.1 h).symm
 |cons x l U=>intro q h O P L;cases q with
  |nil=>exact absurd h.symm ai
  |cons y q=>
   have z:=c7.1 O;have B:=c7.1 P;have G:x=y:=by
    have N:y∈x::l:=h.mem_iff.2 ai;have S:x∈y::q:=h.mem_iff.1 ai;rcases aJ.1 N with e|I
    .exact e.symm
    .rcases aJ.1 S with e|D
     .exact e
     .exact L x ai y N (B.1 x D) (z.1 y I)
   subst G;rw[U (List.Perm.cons_inv h) z.2 B.2 λa Q b R=>L a (by simp[Q]) b (by simp[R])]
def BL {B:Type} (lt:B->B->Bool) (q:∀a b,lt a b=true->lt b a=false) (up:∀x y z,lt x y=true->lt z y=false->lt x z=true) (l:List B):lu lt (oM lt l)/\(oM lt l).Perm l:=by
 have I:∀(x:B) (l:List B),(sg lt x l).Perm (x::l):=by intro x l;induction l with
  |nil=>exact .refl _
  |cons y l G=>
   unfold sg;split
   .exact .refl _
   .exact(G.cons y).trans (.swap x y l)
 have key:∀(l E:List B),lu lt E->lu lt (l.foldl (λout x=>sg lt x out) E)/\(l.foldl (λout x=>sg lt x out) E).Perm (E++l):=by intro l;induction l with
  |nil=>intro E D;exact⟨D,ai⟩
  |cons p l G=>intro E D;obtain⟨K,L⟩:=G _ (xF lt q up D (x:=p));refine⟨K,L.trans ?_⟩;exact((I p E).append_right l).trans (List.perm_middle (a:=p) (l₁:=E) (l₂:=l)).symm
 have:=key l [] (by simp[lu]);simpa[oM] using this
def Vt (x y z:List UInt8) (h:Op.bytesLess x y=true) (l:Op.bytesLess z y=false):Op.bytesLess x z=true:=by
 by_cases e:z=y
 .rw[e];exact h
 .exact ri _ _ _ h (uq _ _ l e)
end Go.Proofs.YtacapiamkgkkjaaGreatDoor.cl
namespace Go.Proofs
open Go.Shelf
def Tryz.TQ:Go.Shelf.Ren:=⟨λ|190=>172|125=>210|258=>209|128=>240|129=>241|302=>231|303=>232|304=>233|305=>234|306=>235|307=>236|308=>237|309=>238|310=>239|333=>269|329=>270|330=>271|334=>272|335=>273|336=>274|344=>306|n=>n,λ|31=>24|9=>9|3=>3|46=>199|0=>0|51=>291|53=>244|4=>4|183=>284|182=>283|131=>87|5=>5|218=>323|222=>327|228=>355|229=>356|n=>n,λ|n=>n⟩
def Tryz.lays190:Go.Proofs.Lays.n190 Tryz.prog Tryz.TQ:={
 mixed:=by kernel_rfl
 f125:=Tryz.func210.trans (aU some (by kernel_rfl))
 f128:=Tryz.func240.trans (aU some (by kernel_rfl))
 f129:=Tryz.func241.trans (aU some (by kernel_rfl))
 f190:=Tryz.func172.trans (aU some (by kernel_rfl))
 f258:=Tryz.func209.trans (aU some (by kernel_rfl))
 f302:=Tryz.func231.trans (aU some (by kernel_rfl))
 f303:=Tryz.func232.trans (aU some (by kernel_rfl))
 f304:=Tryz.func233.trans (aU some (by kernel_rfl))
 f305:=Tryz.func234.trans (aU some (by kernel_rfl))
 f306:=Tryz.func235.trans (aU some (by kernel_rfl))
 f307:=Tryz.func236.trans (aU some (by kernel_rfl))
 f308:=Tryz.func237.trans (aU some (by kernel_rfl))
 f309:=Tryz.func238.trans (aU some (by kernel_rfl))
 f310:=Tryz.func239.trans (aU some (by kernel_rfl))
 f329:=Tryz.func270.trans (aU some (by kernel_rfl))
 f330:=Tryz.func271.trans (aU some (by kernel_rfl))
 f333:=Tryz.func269.trans (aU some (by kernel_rfl))
 f334:=Tryz.func272.trans (aU some (by kernel_rfl))
 f335:=Tryz.func273.trans (aU some (by kernel_rfl))
 f336:=Tryz.func274.trans (aU some (by kernel_rfl))
 f344:=Tryz.func306.trans (aU some (by kernel_rfl))
 t0:=Tryz.underlying0
 a0:=Tryz.isAgg0
 z0:=Tryz.sizeOf0
 v0:=Tryz.zeroValue0
 t3:=Tryz.underlying3
 a3:=Tryz.isAgg3
 z3:=Tryz.sizeOf3
 v3:=Tryz.zeroValue3
 t4:=Tryz.underlying4
 a4:=Tryz.isAgg4
 z4:=Tryz.sizeOf4
 v4:=Tryz.zeroValue4
 t5:=Tryz.underlying5
 a5:=Tryz.isAgg5
 z5:=Tryz.sizeOf5
 v5:=Tryz.zeroValue5
 t9:=Tryz.underlying9
 a9:=Tryz.isAgg9
 z9:=Tryz.sizeOf9
 v9:=Tryz.zeroValue9
 t31:=Tryz.underlying24
 a31:=Tryz.isAgg24
 z31:=Tryz.sizeOf24
 v31:=Tryz.zeroValue24
 t46:=Tryz.underlying199
 a46:=Tryz.isAgg199
 z46:=Tryz.sizeOf199
 v46:=Tryz.zeroValue199
 t51:=Tryz.underlying291
 a51:=Tryz.isAgg291
 z51:=Tryz.sizeOf291
 v51:=Tryz.zeroValue291
 t53:=Tryz.underlying244
 a53:=Tryz.isAgg244
 z53:=Tryz.sizeOf244
 v53:=Tryz.zeroValue244
 t131:=Tryz.underlying87
 a131:=Tryz.isAgg87
 z131:=Tryz.sizeOf87
 v131:=Tryz.zeroValue87
 t182:=Tryz.underlying283
 a182:=Tryz.isAgg283
 z182:=Tryz.sizeOf283
 v182:=Tryz.zeroValue283
 t183:=Tryz.underlying284
 a183:=Tryz.isAgg284
 z183:=Tryz.sizeOf284
 v183:=Tryz.zeroValue284
 t218:=Tryz.underlying323
 a218:=Tryz.isAgg323
 z218:=Tryz.sizeOf323
 v218:=Tryz.zeroValue323
 t222:=Tryz.underlying327
 a222:=Tryz.isAgg327
 z222:=Tryz.sizeOf327
 v222:=Tryz.zeroValue327
 t228:=Tryz.underlying355
 a228:=Tryz.isAgg355
 z228:=Tryz.sizeOf355
 v228:=Tryz.zeroValue355
 t229:=Tryz.underlying356
 a229:=Tryz.isAgg356
 z229:=Tryz.sizeOf356
 v229:=Tryz.zeroValue356 }
def Tryz.TT:Go.Shelf.Ren:=⟨λ|6=>304|15=>210|14=>337|28=>240|29=>241|20=>357|21=>358|22=>359|23=>360|24=>361|25=>362|26=>363|27=>364|46=>368|47=>270|48=>271|49=>369|50=>370|57=>371|n=>n,λ|22=>58|24=>57|25=>318|3=>3|39=>199|0=>0|53=>291|55=>244|4=>4|46=>284|45=>283|50=>87|5=>5|9=>9|66=>323|70=>327|76=>355|77=>356|n=>n,λ|n=>n⟩
def Tryz.laysF6a:Go.Proofs.SlLaysF0.n6 Tryz.prog Tryz.TT:={
 mixed:=by kernel_rfl
 f6:=⟨Tryz.f304.name,by decide,Tryz.func304.trans (aU some (by kernel_rfl))⟩
 f14:=⟨Tryz.f337.name,by decide,Tryz.func337.trans (aU some (by kernel_rfl))⟩
 f15:=Tryz.func210.trans (aU some (by kernel_rfl))
 f20:=⟨Tryz.f357.name,by decide,Tryz.func357.trans (aU some (by kernel_rfl))⟩
 f21:=⟨Tryz.f358.name,by decide,Tryz.func358.trans (aU some (by kernel_rfl))⟩
 f22:=⟨Tryz.f359.name,by decide,Tryz.func359.trans (aU some (by kernel_rfl))⟩
 f23:=⟨Tryz.f360.name,by decide,Tryz.func360.trans (aU some (by kernel_rfl))⟩
 f24:=⟨Tryz.f361.name,by decide,Tryz.func361.trans (aU some (by kernel_rfl))⟩
 f25:=⟨Tryz.f362.name,by decide,Tryz.func362.trans (aU some (by kernel_rfl))⟩
 f26:=⟨Tryz.f363.name,by decide,Tryz.func363.trans (aU some (by kernel_rfl))⟩
 f27:=⟨Tryz.f364.name,by decide,Tryz.func364.trans (aU some (by kernel_rfl))⟩
 f28:=Tryz.func240.trans (aU some (by kernel_rfl))
 f29:=Tryz.func241.trans (aU some (by kernel_rfl))
 f46:=⟨Tryz.f368.name,by decide,Tryz.func368.trans (aU some (by kernel_rfl))⟩
 f47:=Tryz.func270.trans (aU some (by kernel_rfl))
 f48:=Tryz.func271.trans (aU some (by kernel_rfl))
 f49:=⟨Tryz.f369.name,by decide,Tryz.func369.trans (aU some (by kernel_rfl))⟩
 f50:=⟨Tryz.f370.name,by decide,Tryz.func370.trans (aU some (by kernel_rfl))⟩
 f57:=⟨Tryz.f371.name,by decide,Tryz.func371.trans (aU some (by kernel_rfl))⟩
 t0:=Tryz.underlying0
 a0:=Tryz.isAgg0
 z0:=Tryz.sizeOf0
 v0:=Tryz.zeroValue0
 t3:=Tryz.underlying3
 a3:=Tryz.isAgg3
 z3:=Tryz.sizeOf3
 v3:=Tryz.zeroValue3
 t4:=Tryz.underlying4
 a4:=Tryz.isAgg4
 z4:=Tryz.sizeOf4
 v4:=Tryz.zeroValue4
 t5:=Tryz.underlying5
 a5:=Tryz.isAgg5
 z5:=Tryz.sizeOf5
 v5:=Tryz.zeroValue5
 t9:=Tryz.underlying9
 a9:=Tryz.isAgg9
 z9:=Tryz.sizeOf9
 v9:=Tryz.zeroValue9
 t22:=Tryz.underlying58
 a22:=Tryz.isAgg58
 z22:=Tryz.sizeOf58
 v22:=Tryz.zeroValue58
 t25:=Tryz.underlying318
 a25:=Tryz.isAgg318
 z25:=Tryz.sizeOf318
 v25:=Tryz.zeroValue318
 t39:=Tryz.underlying199
 a39:=Tryz.isAgg199
 z39:=Tryz.sizeOf199
 v39:=Tryz.zeroValue199
 t45:=Tryz.underlying283
 a45:=Tryz.isAgg283
 z45:=Tryz.sizeOf283
 v45:=Tryz.zeroValue283
 t46:=Tryz.underlying284
 a46:=Tryz.isAgg284
 z46:=Tryz.sizeOf284
 v46:=Tryz.zeroValue284
 t50:=Tryz.underlying87
 a50:=Tryz.isAgg87
 z50:=Tryz.sizeOf87
 v50:=Tryz.zeroValue87
 t53:=Tryz.underlying291
 a53:=Tryz.isAgg291
 z53:=Tryz.sizeOf291
 v53:=Tryz.zeroValue291
 t55:=Tryz.underlying244
 a55:=Tryz.isAgg244
 z55:=Tryz.sizeOf244
 v55:=Tryz.zeroValue244
 t66:=Tryz.underlying323
 a66:=Tryz.isAgg323
 z66:=Tryz.sizeOf323
 v66:=Tryz.zeroValue323
 t70:=Tryz.underlying327
 a70:=Tryz.isAgg327
 z70:=Tryz.sizeOf327
 v70:=Tryz.zeroValue327
 t76:=Tryz.underlying355
 a76:=Tryz.isAgg355
 z76:=Tryz.sizeOf355
 v76:=Tryz.zeroValue355
 t77:=Tryz.underlying356
 a77:=Tryz.isAgg356
 z77:=Tryz.sizeOf356
 v77:=Tryz.zeroValue356 }
end Go.Proofs
namespace Go.Proofs.YtacapiamkgkkjaaGreatDoor.cl
open Go Go.AM Go.RowKit
def T1 (l:List (List UInt8)):(l.mergeSort λx y=>decide (x<=y))=oM Op.bytesLess l:=by
 have e:(λx y:List UInt8=>decide (x<=y))=λx y=> !Op.bytesLess y x:=by
  funext x y;rw[bytesLess_eq];by_cases h:y<x
  .have:¬x<=y:=λG=>G h
   simp[h,this]
  .have:x<=y:=h
   simp[h,this]
 rw[e];obtain⟨I,K⟩:=BL Op.bytesLess (λa b h=>yB h) Vt l;refine IQ ((List.mergeSort_perm l _).trans K.symm) ?_ I ?_
 .have:=List.pairwise_mergeSort (le:=λx y:List UInt8=> !Op.bytesLess y x) (λa b c q z=>by
   simp only[gE] at q z⊢;cases B:Op.bytesLess c a with
   |false=>rfl
   |true=>
    have:=Vt _ _ _ B q
    rw[z] at this;cases this) (λa b=>by
   cases B:Op.bytesLess b a with
   |false=>simp
   |true=>simp[yB B]) l
  refine this.imp ?_;intro a b h;simpa using h
 .intro x _ y _ q z;apply eH;intro D;have:=uq _ _ q D;rw[z] at this;cases this
open Go.Sort in
def KP {z:Type} [Inhabited z] {enc:z->Value} {w:World} {n g:Nat} {d:Array z} {os:Array Obj} {cur:Array Value} {e:TypeId} (hg:w.heap[g]? =some (.cells cur e (0,0))):
  (grow (putRow enc (Sort.ahead w n) g 0 d) os).heap[g]? =some (.cells (putCells enc 0 d cur) e (0,0))/\(∀b,b<w.heap.size->b≠g->(grow (putRow enc (Sort.ahead w n) g 0 d) os).heap[b]? =w.heap[b]?)/\w.heap.size<=(grow (putRow enc (Sort.ahead w n) g 0 d) os).heap.size:=by
 have l:g<w.heap.size:=(gm.1 hg).1;have D:(grow (putRow enc (Sort.ahead w n) g 0 d) os).heap=w.heap.modify g (onCells (putCells enc 0 d))++os:=rfl;rw[D];refine⟨?_,λb B q=> ?_,?_⟩
 .rw[ve (by simpa using l),zN,aC rfl,hg];rfl
 .rw[ve (by simpa using B),zN,aA (λh=>q h.symm)]
 .simp
open Go.Sort in
def UX {z:Type} [Inhabited z] {enc:z->Value} {l:List z} {cur:Array Value} (h:l.length<=cur.size):(putCells enc 0 l.toArray cur).size=cur.size/\(putCells enc 0 l.toArray cur).toList.take l.length=l.map enc:=by
 refine⟨by simp[putCells],?_⟩;apply lR;intro i;by_cases q:i<l.length
 .rw[lP,aC q,dV,aM q];have B:i<cur.size:=af;simp[putCells,q,B,aM q]
 .rw[ig aH,ig aH]
def DA {L:Mu}:∀{l:List (List UInt8)} {B:List Value},de L 1 (l.map jL) B↔B=l.map encStr:=by intro l;induction l with
 |nil=>intro B;exact Iff.rfl
 |cons s l G=>
  intro B;constructor
  .rintro⟨N,ws,rfl,z,_,I⟩;have q:=z.1;simp only[jL,cH] at q;obtain⟨u,K,rfl,D,rfl⟩:=q;rw[rep] at D;subst D;rw[G.1 I];rfl
  .rintro rfl;exact⟨[encStr s],l.map encStr,rfl,⟨⟨_,_,rfl,by rw[rep],rfl⟩,λu z=>by simp only[bZ] at z;subst z;rfl⟩,rfl,G.2 rfl⟩
def On {z:Mu} {l:Nat->Value} {w:World} {o:Ob} (q:Hz z w) (G:mS w.heap.size (gJ False l [10000]) z l w 10000 o):eo False z l [10000] (.gy []) [(10000,o)] w (.tuple #[]) z l w where
 ext:=Mu.ext.toL ⟨Mu.le.refl _,λ_ _ _ h=> .inl h⟩
 yx:=q
 res:= .inl (by rw[rep.eq_def];exact⟨[],rfl,rfl⟩)
 obs:=λid N h=>by
  have B:=ry h;subst B;have L:o=N:=by simpa[find] using h
  subst L;exact G
 apart:=λi j O P I K D=>absurd ((ry I).trans (ry K).symm) D
 keep:=λ_ _ _=>rfl
 fix:=λ_ _ _ _=>rfl
 os:=rfl
 tape:=rfl
 output:=rfl
 grown:=aQ _
 drawn:=λh=>h.elim
def sort80 {μ:Mu} {z:Nat->Value} {w:World} {l:List (List UInt8)} (hlen:l.length<=1073741824) (D:Hz μ w) (S:mS w.heap.size (gJ False z [10000]) μ z w 10000 (.row 9 1 (l.map jL))):
  Calls P 172 #[z 10000] w λe L=>∃v μ' loc',e= .returned v/\eo False μ z [10000] (.gy []) [(10000, .row 9 1 ((oM Op.bytesLess l).map jL))] w v μ' loc' L:=by
 have U:=S;obtain⟨vs,V,hrc,KO⟩:=U;have hvs:=DA.1 hrc;rcases V.2 with⟨e1,h0⟩|⟨g,N,cur,e1,_,hg,B,R,hsz,q⟩
 .have hl:l=[]:=by
   cases l with
   |nil=>rfl
   |cons a b=>simp at h0
  subst hl;have hc:Calls P 172 #[.slice none 0 0] w λe L=>e= .returned (.tuple #[])/\L=w:=Any.slices_Sort_string_none Tryz.lays190 none 0 w
  rw[e1];refine hc.mono ?_;rintro e L ⟨rfl,rfl⟩;exact⟨_,μ,z,rfl,On D S⟩
 .have hll:(l.map jL).length=l.length:=ai;rw[hll] at e1 B q;rw[zO] at hsz q;rw[hvs] at q;have hin:mb (z 10000) g:=by rw[e1];exact fP.2 rfl
  obtain⟨I,Di⟩:=KO g hin;have hlt:g<w.heap.size:=(gm.1 hg).1;have G:∀(j:Nat) (O:j<l.length),cur[j]? =some (encStr l[j]):=by
   intro j O;have h1:(cur.toList.take l.length)[j]? =some (encStr l[j]):=by rw[q,dV,aM O];rfl
   rw[lP,aC O] at h1;simpa using h1
  have hH:Go.Sort.Holds encStr w g 0 l.toArray:=by
   intro j O;have Q:j<l.length:=by simpa using O
   have hcj:=G j Q;rw[eY];refine⟨?_,?_⟩
   .unfold World.cell?;simp only[hg];simp[hcj,Q]
   .unfold World.frozen?;simp[hg]
  have hc:Calls P 172 #[.slice (some ⟨g,0,none⟩) l.length N] w λe L=>e= .returned (.tuple #[])/\∃n os,L=Go.Sort.grow (Go.Sort.putRow encStr (Go.Sort.ahead w n) g 0 (l.mergeSort λx y=>decide (x<=y)).toArray) os:=Any.slices_Sort_string Tryz.lays190 g 0 N l w hH hlt af
  rw[e1];refine hc.mono ?_;rintro e L ⟨rfl,n,os,rfl⟩;rw[T1];have K:(oM Op.bytesLess l).length=l.length:=(BL Op.bytesLess (λa b h=>yB h) Vt l).2.length_eq;obtain⟨k1,k2,k3⟩:=KP (enc:=encStr) (n:=n) (d:=(oM Op.bytesLess l).toArray) (os:=os) hg;obtain⟨t1,t2⟩:=UX (enc:=encStr) (l:=oM Op.bytesLess l) (cur:=cur) af;refine⟨_,μ,z,rfl,Oq (cur:=cur) (us:=(oM Op.bytesLess l).map encStr) D e1 B R (by rw[zO];exact hsz) I Di k1 t1 (by rw[zO,<-K];exact t2) (by simp[K]) k2 rfl rfl rfl k3 (by simp[K]) (DA.2 rfl)⟩
