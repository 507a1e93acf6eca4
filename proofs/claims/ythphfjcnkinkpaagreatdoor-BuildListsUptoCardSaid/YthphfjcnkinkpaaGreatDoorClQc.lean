/- Build. -/
import Derived.Test.YthphfjcnkinkpaaGreatDoorClUg
import Derived.Test.YthphfjcnkinkpaaGreatDoorClUh
import Derived.Test.YthphfjcnkinkpaaGreatDoorClT
import Derived.Test.YthphfjcnkinkpaaGreatDoorClXb
import Derived.Test.YthphfjcnkinkpaaGreatDoorRows
import Derived.ProofKit
import Derived.Shelf.Sort.Plain
import Derived.Shelf.Slices.In.SortNone
import Derived.Shelf.SlSortCmp.WholeK
import Derived.Shelf.SlSortCmp.NoneTotal
import Derived.Ground.Names2Prog
import Derived.Ground.SlsfProg
import Derived.Test.YthphfjcnkinkpaaGreatDoorProg
set_option linter.all false
namespace Go.Proofs.YthphfjcnkinkpaaGreatDoor.cl.pf
open Go Go.AM
abbrev AQ (t:List Template):List ck:=t.map (·.Name)
def RQ {t:List Template} {s:ck}:(t.any λx=>x.Name==s)=true↔s∈AQ t:=by simp
def h504_14 {t o:List Template} (ht:t.length<=1000) (ho:o.length<=1000) (hex:∃x∈t,x.Name∉AQ o):∀(xs:List Template) (i:Nat) (q:Int),t.drop i=xs->
  ((q= -1/\∀(j:Nat) (x:Template),j<i->t[j]? =some x->x.Name∈AQ o)\/∃(b:Nat) (y:Template),q=b/\t[b]? =some y/\y.Name∉AQ o/\∀(j:Nat) (x:Template),j<i->t[j]? =some x->x.Name∉AQ o->Op.bytesLess x.Name y.Name=false)->
  ∃(b:Nat) (y:Template),t[b]? =some y/\y.Name∉AQ o/\(∀x∈t,x.Name∉AQ o->Op.bytesLess x.Name y.Name=false)/\∀r,F8 t (o++[y])=some r->AL q i t o=some r:=by
 intro xs;induction xs with
 |nil=>
  intro i q l L;have hge:=mI l;rcases L with⟨_,L⟩|⟨b,y,rfl,G,K,P⟩
  .obtain⟨x,I,N⟩:=hex;obtain⟨j,Q⟩:=jJ.1 I;exact(N (L j x (by have:=(bP.1 Q).1;omega) Q)).elim
  .refine⟨b,y,G,K,λx I N=> ?_,λr U=>Fh ?_⟩
   .obtain⟨j,Q⟩:=jJ.1 I;grind
   .obtain⟨B,hy⟩:=bP.1 G;rw[bp l,aA,BR B,aZ,se B,hy,cC _ af ai af];omega
 |cons x xs ih=>intro i q l L;have hil:=dY l;have I:=cr l;have f1:f515 o x.Name=some (tpos o x.Name):=Zh _ _ af;have f2:decide (tpos o x.Name<0)= !(o.any λy=>y.Name==x.Name):=Lc _ _ _;cases e:o.any λy=>y.Name==x.Name with
  |true=>
   have V:=RQ.1 e
   obtain⟨b,y,G,K,P,h4⟩:=ih (i+1) q (aI l) (by
    rcases L with⟨O,L⟩|⟨b,y,O,G,K,P⟩
    .refine .inl ⟨O,λj z Q D=> ?_⟩;by_cases R:j=i
     .subst R;rw[I] at D;cases D;exact V
     .exact L j z af D
    .refine .inr ⟨b,y,O,G,K,λj z Q D N=> ?_⟩;by_cases R:j=i
     .subst R;rw[I] at D;cases D;exact(N V).elim
     .exact P j z af D N)
   refine⟨b,y,G,K,P,λr U=>Fh ?_⟩;rw[aT l,au,od l,oa l,f1,aj,f2,e,dM,aA,aQ l af];exact h4 r U
  |false=>
   have V:x.Name∉AQ o:=λh=>by rw[RQ.2 h] at e;cases e
   rcases L with⟨O,L⟩|⟨b,y,O,G,K,P⟩
   .obtain⟨b,y,G,K,P,h4⟩:=ih (i+1) i (aI l) (.inr ⟨i,x,rfl,I,V,λj z Q D N=>by
     by_cases R:j=i
     .subst R;rw[I] at D;cases D;exact CE _
     grind⟩)
    refine⟨b,y,G,K,P,λr U=>Fh ?_⟩;rw[aT l,au,od l,oa l,f1,aj,f2,e,fN,au,O,cond_pos (by rfl),aQ l af];exact h4 r U
   .obtain⟨B,hy⟩:=bP.1 G;cases e2:Op.bytesLess x.Name y.Name with
    |true=>
     obtain⟨c,z,g1,g2,g3,g4⟩:=ih (i+1) i (aI l) (.inr ⟨i,x,rfl,I,V,λj z Q D N=>by
      by_cases R:j=i
      .subst R;rw[I] at D;cases D;exact CE _
      .have:=P j z af D N
       grind[Op.bytesLess,vS]⟩)
     refine⟨c,z,g1,g2,g3,λr U=>Fh ?_⟩;rw[aT l,au,od l,oa l,f1,aj,f2,e,fN,au,O,cond_neg (by rfl),od l,oa l,BR B,aZ,se B,hy,e2,au,aQ l af];simp_all
    |false=>
     obtain⟨c,z,g1,g2,g3,g4⟩:=ih (i+1) b (aI l) (.inr ⟨b,y,rfl,G,K,λj z Q D N=>by grind⟩);refine⟨c,z,g1,g2,g3,λr U=>Fh ?_⟩;rw[aT l,au,od l,oa l,f1,aj,f2,e,fN,au,O,cond_neg (by rfl),od l,oa l,BR B,aZ,se B,aQ l af];simp_all
def h504_11 {t:List Template} (ht:t.length<=1000) (K:(AQ t).Nodup):∀(k:Nat) (o:List Template),t.length=o.length+k->Mo o->(∀x∈o,x∈t)->(∀x∈t,x.Name∉AQ o->∀y∈o,Op.bytesLess y.Name x.Name=true)->
  ∃m,F8 t o=some (m,0)/\Mo m/\m.length=t.length/\∀x∈m,x∈t:=by
 intro k;induction k with
 |zero=>simp_all[X7,cond_neg,aS]
 |succ k ih=>
  intro o hl V hm B;have z:∃x∈t,x.Name∉AQ o:=by
   by_cases h:∃x∈t,x.Name∉AQ o
   .exact h
   .exfalso;have:=jy (m:=AQ o) K λs hs=>by
     grind
    grind
  obtain⟨b,y,P,Q,R,h4⟩:=h504_14 ht af z t 0 (-1) rfl (.inl ⟨rfl,λj x hj=>by omega⟩);have L:=aV P;have q:AQ (o++[y])=AQ o++[y.Name]:=ai
  obtain⟨m,g1,O⟩:=ih (o++[y]) aH (by
   unfold Mo;rw[rL]
   exact⟨V,rU _ _,λa l c U=>by rw[cz.1 U];exact B y L Q a l⟩) (λx N=>by
   grind) λx N D a l=>by
    rw[q] at D;have G:x.Name∉AQ o:=λh=>D (cM _ h)
    have I:x.Name≠y.Name:=λh=>D (by simp_all)
    rcases bu.1 l with l|l
    .simp_all
    .rw[cz.1 l];exact BI _ _ (R x N G) I
  exact⟨m,X7 (by grind),O⟩
def Ym {ns:List ck} {l:List Def}:∀(xs:List Def) (i:Nat) (q:Int),l.drop i=xs->nxt ns l xs i q=q\/∃(j:Nat) (x:Def),nxt ns l xs i q=(j:Int)/\l[j]? =some x/\x.Name∉ns
 |[],_,q,_=> .inl rfl
 |x::xs,i,q,B=>by
  unfold nxt;have key:=λb=>Ym (ns:=ns) (l:=l) xs (i+1) b (aI B)
  split
  .rename_i h;rcases key (i:Int) with z|z
   .refine .inr ⟨i,x,z,cr B,λD=> ?_⟩;rw[aU] at h
    have:(ns.any λn=>n==x.Name)=true:=nE.2 ⟨_,D,ai⟩
    rw[this] at h;simp at h
   .exact .inr z
  .exact key q
section
variable {h:aJ} {T F:Nat} {sb:Int->Int->Prop} {bN:Int->Int} {val:Int->Int->Int} (H:HX h T F sb bN val) (hT:T<=1000) (hF:F<=300) (uL:0<T)
include H hT hF uL
section
variable {t:List Template} (ht:t.length<=1000) (hs:UM T F t)
include ht hs
theorem h527_14 {l:List ck} (V:l.length<=1000) {o6:Template} {o8:FSt} {nm:ck} {a b d:List Node} {c:List FSt} {M:Nat} (U:M<=10000000) (K:∀x∈t,x.eX.length<=M) (N:∀s∈l,∃(i:Nat) (x:Template),tpos t s=(i:Int)/\t[i]? =some x):∀(xs:List ck) (i:Nat) (w:List FSt),l.drop i=xs->w.length+M *xs.length<=1000000000->
  ∃z,Gc l i o6 o8 nm a b c d w t=some ((⟨nm,⟨a⟩,z⟩,0),t)/\z.length<=w.length+M *xs.length:=by
 intro xs;induction xs with
 |nil=>intro i w q O;exact⟨w,X8 (by rw[bp q,aA]),af⟩
 |cons s xs Q=>
  intro i w q O;obtain⟨j,x,R,D⟩:=N s (aV (cr q));obtain⟨B,P⟩:=bP.1 D;have L:=K x (aV D);have hm:M *(s::xs).length=M *xs.length+M:=by rw[bz,Nat.mul_succ]
  obtain⟨z,G,I⟩:=Q (i+1) (w++x.eX) (aI q) (by rw[bQ];omega);rw[bQ] at I;refine⟨z,X8 ?_,af⟩;rw[aT q,au,aK q,(Zh _ _ af).trans (aP some R),aj,BR B,aZ,se B,P,cC _ af af af,aQ q af];exact G
theorem h527_6 {x:Def} (I:Y4 x) {r8 o6:Template} {o8:FSt} {nm:ck} {a b d:List Node} {c:List FSt} {Q:(Template×Int)×List Template->Prop} (O:∀e,e≠0->Q ((⟨[],⟨[]⟩,[]⟩,e),t)):∀(xs:List bJ) (i:Nat) (w:List FSt),x.eX.drop i=xs->w.length+xs.length<=3->
  (∀L,L.length<=3->∃r,(Option.bind (f548 x.gO ([]:List ck)) λq=>Gc q 0 o6 o8 nm a b c d L t)=some r/\Q r)->∃r,L6 i h x o6 o8 nm a b c d w t=some r/\Q r:=by
 have P:=I.dl;intro xs;induction xs with
 |nil=>intro i w l G D;obtain⟨r,N,z⟩:=D w (by simp at G;omega);exact⟨r,VY (by rw[bp l,aA];exact N),z⟩
 |cons y xs R=>
  intro i w l G D;rw[bz] at G;have K:=I.df y (aV (cr l));obtain⟨f,e,z,_⟩:=yF (u:=[]) H hT hF ht hs uL K.lg (by have:=K.cnt;omega);by_cases B:e=0
  .obtain⟨r,U,V⟩:=R (i+1) (w++[f]) (aI l) aH D;refine⟨r,VY ?_,V⟩;rw[aT l,au,aK l,z,mw,cond_neg (by simp[B]),cC _ af ai af,aQ l af];exact U
  .refine⟨_,VY ?_,O e B⟩;rw[aT l,au,aK l,z,mw,cond_pos (by simpa using B)]
theorem c527 {x:Def} (B:Y4 x) {M:Nat} (hM:M<=1000000) (U:∀y∈t,y.eX.length<=M):∃c e,f527 h x t=some ((c,e),t)/\(e=0->c.Name=x.Name/\(Can T F c.gO/\c.gO.ak.length<=4096)/\c.eX.length<=3+12 *M):=by
 obtain⟨f,e,L,_,O,Q⟩:=yF (u:=[]) H hT hF ht hs uL B.st.lg (by have:=B.st.cnt;omega);have P:=Q.kn;by_cases z:e=0
 .have G:Can T F f/\f.ak.length<=4096:=by
   rcases O with⟨_,D,R⟩|⟨D,_⟩
   .exact⟨D,R⟩
   .exact(D z).elim
  have V:=B.st.cnt;obtain⟨l,w1,K,w3⟩:=c548 x.gO B.st.fm [] aH;have hk:∀s∈l,∃(i:Nat) (y:Template),tpos t s=(i:Int)/\t[i]? =some y:=w3 (λs=>∃(i:Nat) (y:Template),tpos t s=(i:Int)/\t[i]? =some y) ((P z).imp λd q ho=>q.tm ho) (λs hs=>by cases hs);have I:l.length<=12:=by simp at K;omega
  obtain⟨r,j1,j2⟩:=h527_6 H hT hF uL ht hs B (o6:=⟨[],⟨[]⟩,[]⟩) (o8:=f) (nm:=x.Name) (a:=f.ak) (b:=[]) (c:=[]) (d:=[]) (r8:=⟨[],⟨[]⟩,[]⟩)
   (Q:=λr=>∃c e,r=((c,e),t)/\(e=0->c.Name=x.Name/\(Can T F c.gO/\c.gO.ak.length<=4096)/\c.eX.length<=3+12 *M)) (λe z=>⟨_,e,rfl,λh=>(z h).elim⟩) x.eX 0 [] rfl (by simpa using B.dl) (λw' hw'=>by
    have hm:M *l.length<=M *12:=Bz _ I;obtain⟨K,v1,v2⟩:=h527_14 H hT hF uL ht hs af (o6:=⟨[],⟨[]⟩,[]⟩) (o8:=f) (nm:=x.Name) (a:=f.ak) (b:=[]) (c:=[]) (d:=[]) (M:=M) af U hk l 0 w' rfl af
    exact⟨_,by rw[w1,aj];exact v1,_,0,rfl,λ_=>⟨rfl,G,by show K.length<=_;omega⟩⟩)
  obtain⟨c,N,rfl,j3⟩:=j2;refine⟨c,N,e527 ?_,j3⟩;rw[L,mw,cond_neg (by simp[z])];exact j1
 .refine⟨⟨[],⟨[]⟩,[]⟩,e,e527 ?_,λh=>(z h).elim⟩;rw[L,mw,cond_pos (by simpa using z)]
end
structure TOk (T F:Nat) (t:List Template):Prop where
 vP:Mo t
 len:t.length<=4
 str:UM T F t
theorem h504_5 {l:List Def} (hl:l.length<=4) (hd:∀x∈l,Y4 x) {ns:List ck} (hq:Seq l ns):∀(t:List Template),AQ t=ns->t.length<=4->UM T F t->(AQ t).Nodup->(∀x∈t,x.eX.length<=50^ t.length)->
  ∃m e,L4 l h t=some (m,e)/\(e=0->TOk T F m):=by
 induction hq with
 | @fin ns hln=>
  intro t G ht4 hs z V;have RD:t.length=ns.length:=by rw[<-G,bf]
  obtain⟨m,O,Q,g3,R⟩:=h504_11 (t:=t) af z t.length [] ai List.Pairwise.nil (λx I=>by cases I) (λx _ _ y q=>by cases q);refine⟨m,0,VT ?_,λ_=>⟨Q,by omega,λx I=>hs x (R x I)⟩⟩;rw[cond_neg (by rw[aS];omega)];exact O
 | @step ns b x hlt D B _ ih=>
  intro t G ht4 hs z V;have RD:t.length=ns.length:=by rw[<-G,bf]
  obtain⟨e1,_⟩:=c526 (t:=t) af af hd;rw[show t.map (·.Name)=ns from G,D] at e1;obtain⟨K,I⟩:=bP.1 B;have hp:50^ t.length<=50^ 3:=u6 af af;obtain⟨c,e,O,Q⟩:=c527 H hT hF uL af hs (hd x (aV B)) (M:=50^ t.length) af V;by_cases P:e=0
  .obtain⟨g3,R,g5⟩:=Q P;have L:x.Name∉ns:=by
    rcases Ym (ns:=ns) (l:=l) l 0 (-1) rfl with U|⟨j,y,U,h2,h3⟩
    .rw[D] at U;omega
    .rw[D] at U
     have:b=j:=af
     subst this;rw[B] at h2;cases h2;exact h3
   have N:AQ (t++[c])=ns++[x.Name]:=by simp[G,g3]
   have hpp:50^ (t.length+1)=50 *50^ t.length:=by rw[Nat.pow_succ,Nat.mul_comm]
   have h1p:1<=50^ t.length:=Nat.one_le_pow _ _ af
   obtain⟨m,e3,j1,j2⟩:=ih (t++[c]) N aH (λy q=>by
    rcases bu.1 q with q|q
    .exact hs y q
    .rw[cz.1 q];exact R) (by
    rw[N,jq];rw[G] at z
    exact⟨z,by simp,λa ha b hb=>by rw[cz.1 hb];exact λe=>L (e▸ha)⟩) (λy q=>by
    rw[bQ,c4,hpp];rcases bu.1 q with q|q
    .have:=V y q;omega
    .rw[cz.1 q];omega)
   refine⟨m,e3,VT ?_,j2⟩;rw[cond_pos (by rw[bA];omega),e1,aj,cH K,I,O,mw,cond_neg (by simp[P]),cC _ af ai af];exact j1
  .refine⟨[],e,VT ?_,λh=>(P h).elim⟩;rw[cond_pos (by rw[bA];omega),e1,aj,cH K,I,O,mw,cond_pos (by simpa using P)]
theorem c504 {l:List Def} (G:l.length<=4) (D:∀x∈l,Y4 x):∃m e,f504 h l=some (m,e)/\(e=0->TOk T F m):=by
 obtain⟨r,B,I⟩:=c512 G D;by_cases q:r=0
 .obtain⟨m,e,K,L⟩:=h504_5 H hT hF uL G D (I q).1 [] rfl ai (λx z=>by cases z) ai (λx z=>by cases z);exact⟨m,e,e504 (by rw[B,aj,cond_neg (by simp[q])];exact K),L⟩
 .exact⟨[],r,e504 (by rw[B,aj,cond_pos (by simpa using q)]),λh=>(q h).elim⟩
end
section
variable {h:aJ} {T F:Nat} {sb:Int->Int->Prop} {bN:Int->Int} {val:Int->Int->Int} (H:HX h T F sb bN val) (hT:T<=1000) (hF:F<=300) (uL:0<T)
include H hT hF uL
theorem c498 (c:Case):∃t b,f498 h c=some (t,b)/\(b=true->TOk T F t/\LD c.X/\LD c.Y):=by obtain⟨B,e1,z⟩:=c502 c.Defs;obtain⟨D,l,N⟩:=c503 c.X;obtain⟨G,q,O⟩:=c503 c.Y;cases B with
 |false=>exact⟨[],false,e498 (by rw[e1,aj,cond_pos (by rfl)]),λh=>by cases h⟩
 |true=>cases D with
  |false=>exact⟨[],false,e498 (by rw[e1,aj,cond_neg (by rfl),l,aj,cond_pos (by rfl)]),λh=>by cases h⟩
  |true=>cases G with
   |false=>exact⟨[],false,e498 (by rw[e1,aj,cond_neg (by rfl),l,aj,cond_neg (by rfl),q,aj,cond_pos (by rfl)]),λh=>by cases h⟩
   |true=>obtain⟨m,e,I,K⟩:=c504 H hT hF uL (z rfl).1 (z rfl).2;refine⟨m,e==0,e498 ?_,λL=>⟨K (by simpa using L),N rfl,O rfl⟩⟩;rw[e1,aj,cond_neg (by rfl),l,aj,cond_neg (by rfl),q,aj,cond_neg (by rfl),I,aj]
end
end Go.Proofs.YthphfjcnkinkpaaGreatDoor.cl.pf
set_option maxRecDepth 100000
namespace Go.Proofs.YthphfjcnkinkpaaGreatDoor.cl
open Go Go.AM Go.RowKit Go.ChangeShapes Go.WideShapes Go.ChangeAt
def Ae {T:Type} {q:T->List AV}:∀{xs:List (List AV)},(∀x∈xs,∃y:T,x=q y)->∃l:List T,xs=l.map q:=by intro xs;induction xs with
 |nil=>intro _;exact⟨[],rfl⟩
 |cons x xs D=>
  intro h;obtain⟨y,rfl⟩:=h x ai;obtain⟨l,rfl⟩:=D λz B=>h z (by simp[B])
  exact⟨y::l,rfl⟩
section
variable {H:Type} {enc:TypeId×Value->H} {w:World}
def oU:vM (H:=H) Rows.uptoBulk Rows.uptoBulkAll where
 str:=λ_=>rfl
 lit:=λl=>by cases l<;>simp[Rows.uptoBulk]
 nil:=by simp[Rows.uptoBulk]
 slice:=λ_ _=>by simp[Rows.uptoBulk]
 agg:=λ_=>by simp[Rows.uptoBulk]
 nilA:=by simp[Rows.uptoBulkAll]
 abl:=λ_ _=>by simp[Rows.uptoBulkAll]
def rd57 (n:Nat):AY enc P w Rows.uptoBulk n 68 λl=>∃x:b9,l=x.enc:=by cases n with
 |zero=>exact AY.zero
 |succ n=>
  refine(ry oU (Qs:=[λa=>∃x,a=dO .i64 x,λa=>∃x,a=dO .i64 x]) Tryz.underlying68 (by kernel_rfl) (by kernel_rfl) ?_).mono ?_
  .exact⟨P3 oU Tryz.underlying3,P3 oU Tryz.underlying3,trivial⟩
  .rintro a ⟨_,_,rfl,⟨q,rfl⟩,_,_,rfl,⟨z,rfl⟩,rfl⟩;exact⟨⟨q,z⟩,rfl⟩
def rd58 (n:Nat):AY enc P w Rows.uptoBulk n 69 λq=>∃l:List b9,q=[.dD 2 (l.map b9.enc)]:=by cases n with
 |zero=>exact AY.zero
 |succ n=>refine(FN oU (sz:=2) Tryz.underlying69 (by kernel_rfl) (by decide) (rd57 n)).mono ?_;rintro a ⟨xs,rfl,z⟩;obtain⟨l,rfl⟩:=Ae z;exact⟨l,rfl⟩
def rd60 (n:Nat):AY enc P w Rows.uptoBulk n 71 λq=>∃x:Node,q=x.enc:=by cases n with
 |zero=>exact AY.zero
 |succ n=>
  refine(ry oU (Qs:=[λa=>∃x,a=dO .i64 x,λa=>∃l:List b9,a=[.dD 2 (l.map b9.enc)]]) Tryz.underlying71 (by kernel_rfl) (by kernel_rfl) ?_).mono ?_
  .exact⟨P3 oU Tryz.underlying3,rd58 n,trivial⟩
  .rintro a ⟨_,_,rfl,⟨z,rfl⟩,_,_,rfl,⟨B,rfl⟩,rfl⟩;exact⟨⟨z,B⟩,rfl⟩
def rd28 (n:Nat):AY enc P w Rows.uptoBulk n 28 λq=>∃l:List Node,q=[.dD 2 (l.map Node.enc)]:=by cases n with
 |zero=>exact AY.zero
 |succ n=>refine(FN oU (sz:=2) Tryz.underlying28 (by kernel_rfl) (by decide) (rd60 n)).mono ?_;rintro a ⟨xs,rfl,z⟩;obtain⟨l,rfl⟩:=Ae z;exact⟨l,rfl⟩
def rd30 (n:Nat):AY enc P w Rows.uptoBulk n 30 λq=>∃x:FSt,q=x.enc:=by cases n with
 |zero=>exact AY.zero
 |succ n=>
  refine(ry oU (Qs:=[λa=>∃l:List Node,a=[.dD 2 (l.map Node.enc)]]) Tryz.underlying30 (by kernel_rfl) (by kernel_rfl) ?_).mono ?_
  .exact⟨rd28 n,trivial⟩
  .rintro a ⟨_,_,rfl,⟨z,rfl⟩,rfl⟩;exact⟨⟨z⟩,rfl⟩
def Li {T:Type} {z:T->List AV} {t e sz:Nat} (hs:P.underlying t=some (.slice e)) (D:P.cellsOf e=sz) (B:0<sz) {n:Nat} (h:∀n,AY enc P w Rows.uptoBulk n e λq=>∃x:T,q=z x):AY enc P w Rows.uptoBulk n t λq=>∃l:List T,q=[.dD sz (l.map z)]:=by cases n with
 |zero=>exact AY.zero
 |succ n=>refine(FN oU (sz:=sz) hs D B (h n)).mono ?_;rintro a ⟨xs,rfl,G⟩;obtain⟨l,rfl⟩:=Ae G;exact⟨l,rfl⟩
def rd167 (n:Nat):AY enc P w Rows.uptoBulk n 179 λl=>∃x:dH,l=x.enc:=by cases n with
 |zero=>exact AY.zero
 |succ n=>
  refine(ry oU (Qs:=[λa=>∃x,a=oM x,λa=>∃x,a=oM x]) Tryz.underlying179 (by kernel_rfl) (by kernel_rfl) ?_).mono ?_
  .exact⟨Ef oU Tryz.underlying9,Ef oU Tryz.underlying9,trivial⟩
  .rintro a ⟨_,_,rfl,⟨s,rfl⟩,_,_,rfl,⟨v,rfl⟩,rfl⟩;exact⟨⟨s,v⟩,rfl⟩
def rd116 (n:Nat):AY enc P w Rows.uptoBulk n 124 λq=>∃x:aC,q=x.enc:=by cases n with
 |zero=>exact AY.zero
 |succ n=>
  refine(ry oU (Qs:=[λa=>∃x,a=oM x,λa=>∃l:List (List UInt8),a=[.dD 1 (l.map oM)],λa=>∃l:List dH,a=[.dD 2 (l.map dH.enc)]]) Tryz.underlying124 (by kernel_rfl) (by kernel_rfl) ?_).mono ?_
  .exact⟨Ef oU Tryz.underlying9,Li Tryz.underlying24 (by kernel_rfl) (by decide) λn=>Ef oU (n:=n) Tryz.underlying9,Li Tryz.underlying122 (by kernel_rfl) (by decide) rd167,trivial⟩
  .rintro a ⟨_,_,rfl,⟨s,rfl⟩,_,_,rfl,⟨l,rfl⟩,_,_,rfl,⟨m,rfl⟩,rfl⟩;exact⟨⟨s,l,m⟩,rfl⟩
def rd27:∀n:Nat,(AY enc P w Rows.uptoBulk n 27 λq=>∃x:bJ,q=x.jD)/\AY enc P w Rows.uptoBulk n 25 λq=>∃l:List bJ,q=[.dD 4 (l.map bJ.jD)]:=by intro n;induction n with
 |zero=>exact⟨AY.zero,AY.zero⟩
 |succ n z=>
  constructor
  .refine(ry oU (Qs:=[λa=>∃x,a=dO .i64 x,λa=>∃x,a=oM x,λa=>∃l:List (List UInt8),a=[.dD 1 (l.map oM)],λa=>∃l:List bJ,a=[.dD 4 (l.map bJ.jD)]]) Tryz.underlying27 (by kernel_rfl) (by kernel_rfl) ?_).mono ?_
   .exact⟨P3 oU Tryz.underlying3,Ef oU Tryz.underlying9,Li Tryz.underlying24 (by kernel_rfl) (by decide) λn=>Ef oU (n:=n) Tryz.underlying9,z.2,trivial⟩
   .rintro a ⟨_,_,rfl,⟨o,rfl⟩,_,_,rfl,⟨s,rfl⟩,_,_,rfl,⟨p,rfl⟩,_,_,rfl,⟨k,rfl⟩,rfl⟩;refine⟨.mk o s p k,?_⟩;rw[bJ.jD,bJ.Sw];rfl
  .refine(FN oU (sz:=4) Tryz.underlying25 (by kernel_rfl) (by decide) z.1).mono ?_;rintro a ⟨xs,rfl,B⟩;obtain⟨l,rfl⟩:=Ae B;exact⟨l,rfl⟩
def WD (n:Nat):AY enc P w Rows.uptoBulk n 27 λl=>∃x:bJ,l=x.enc:=(rd27 n).1.mono λa ⟨x,q⟩=>⟨x,by rw[q,bJ.mJ]⟩
def rd62 (n:Nat):AY enc P w Rows.uptoBulk n 73 λq=>∃x:Def,q=x.enc:=by cases n with
 |zero=>exact AY.zero
 |succ n=>
  refine(ry oU (Qs:=[λa=>∃x,a=oM x,λa=>∃x:bJ,a=x.enc,λa=>∃l:List bJ,a=[.dD 4 (l.map bJ.jD)]]) Tryz.underlying73 (by kernel_rfl) (by kernel_rfl) ?_).mono ?_
  .exact⟨Ef oU Tryz.underlying9,WD n,(rd27 n).2,trivial⟩
  .rintro a ⟨_,_,rfl,⟨s,rfl⟩,_,_,rfl,⟨d,rfl⟩,_,_,rfl,⟨l,rfl⟩,rfl⟩;exact⟨⟨s,d,l⟩,rfl⟩
def rd32 (n:Nat):AY enc P w Rows.uptoBulk n 32 λq=>∃x:Case,q=x.enc:=by cases n with
 |zero=>exact AY.zero
 |succ n=>
  refine(ry oU (Qs:=[λa=>∃l:List aC,a=[.dD 3 (l.map aC.enc)],λa=>∃l:List Def,a=[.dD 6 (l.map Def.enc)],λa=>∃x:bJ,a=x.enc,λa=>∃x:bJ,a=x.enc,λa=>∃x:FSt,a=x.enc]) Tryz.underlying32 (by kernel_rfl) (by kernel_rfl) ?_).mono ?_
  .exact⟨Li Tryz.underlying22 (by kernel_rfl) (by decide) rd116,Li Tryz.underlying23 (by kernel_rfl) (by decide) rd62,WD n,WD n,rd30 n,trivial⟩
  .rintro a ⟨_,_,rfl,⟨d,rfl⟩,_,_,rfl,⟨l,rfl⟩,_,_,rfl,⟨x,rfl⟩,_,_,rfl,⟨y,rfl⟩,_,_,rfl,⟨f,rfl⟩,rfl⟩;exact⟨⟨d,l,x,y,f⟩,rfl⟩
end
def ER {T:Type} {en:T->List AV} (h:∀x,1<=nh (en x)):∀l:List T,l.length<=BL (l.map en)
 |[]=>by simp
 |x::l=>by have q:=ER h l;have z:=h x;simp only[bH,bz,BL];omega
def sz_of {d:List aC} (h:BL (d.map aC.enc)<=1048576):Sz d/\Fz d:=by
 have key:∀t∈d,t.dS.length<=1048576/\t.bD.length<=1048576:=λt ht=>by have l:=Zd (lP (f:=aC.enc) ht);have q:=ER (en:=oM) (λx=>by simp only[oM,nh,AV.bulk];omega) t.dS;have z:=ER (en:=dH.enc) (λx=>by simp only[dH.enc,nh,AV.bulk];omega) t.bD;simp only[aC.enc,nh,AV.bulk] at l;omega
 have B:=ER (en:=aC.enc) (λx=>by simp only[aC.enc,nh,AV.bulk];omega) d;exact⟨⟨af,λt ht=>(key t ht).1⟩,λt ht=>(key t ht).2⟩
def sz_case {x:Case} (h:nh x.enc<=1048576):Sz x.Decls/\Fz x.Decls:=by refine sz_of ?_;simp only[Case.enc,nh,AV.bulk] at h;omega
end Go.Proofs.YthphfjcnkinkpaaGreatDoor.cl
namespace Go.Proofs.YthphfjcnkinkpaaGreatDoor.cl
open Go Go.AM Go.RowKit
def Uf {r:AV} {v:Value} {O:Mu} {z:Nat->Value} {w L:World} {e N g n B:Nat} {ys:List (List AV)} {us:List Value} {cur l:Array Value}
  (oD:Mm O w) (D:z 10000= .slice (some ⟨g,0,none⟩) n B) (P:n<=B) (Q:B<=maxLen) (K:cur.size=B *N) (V:IK w.heap.size (gY False z [10000]) 10000 g) (R:∀j,O g j=none)
  (hg:L.heap[g]? =some (.cells l e (0,0))) (hs:l.size=cur.size) (BX:l.toList.take (n *N)=us) (HQ:us.length=n *N) (I:∀b,b<w.heap.size->b≠g->L.heap[b]? =w.heap[b]?)
  (hos:L.os=w.os) (ht:L.tape=w.tape) (U:L.output=w.output) (hgr:w.heap.size<=L.heap.size) (G:ys.length=n) (hrc:cV O N ys us) (hres:rep O r v\/∃n A m c,r= .self n/\z 10000= .slice A m c/\n<=m/\v= .slice A n c):
  fJ False O z [10000] r [(10000, .row e N ys)] w v O z L where
 ext:=Mu.ext.toL ⟨Mu.le.refl _,λ_ _ _ h=> .inl h⟩
 yz:=λb j x hx=>by
  have h:=oD b j x hx;have hne:b≠g:=λe=>by subst e;rw[R j] at hx;cases hx
  rw[jf (I b (sK h) hne) j];exact h
 res:=hres.imp id λ⟨n,A,m,c,h1,h2,h3,h4⟩=> .inl ⟨n,A,m,c,h1,by simp,h2,h3,h4⟩
 obs:=λid o h=>by
  have hid:=wg h;subst hid;have ho:Ob.row e N ys=o:=by simpa[find] using h
  subst ho;refine⟨us,⟨by rw[HQ,G], .inr ⟨g,B,l,by rw[D,G],cS _,hg,by rw[G];exact P,Q,by rw[hs,K],by rw[G];exact BX⟩⟩,hrc,λq hq=> ?_⟩
  have:q=g:=by rw[D] at hq;have h2:some g=some q:=iJ.1 hq;exact(fe h2).symm
  subst this;exact⟨V,R⟩
 apart:=λi j oi oj hi hj hij=>absurd ((wg hi).trans (wg hj).symm) hij
 keep:=λb hlt hl=>I b hlt (λe=>by
  subst e
  exact hl ⟨10000,z 10000,by simp[gY],by rw[D];exact iJ.2 rfl⟩)
 fix:=λ_ _ _ _=>rfl
 os:=hos
 tape:=ht
 output:=U
 grown:=hgr
 drawn:=λh=>h.elim
def N2 {R:Mu} {z:Nat->Value} {w D:World} {e Q g n q:Nat} {ys:List (List AV)} {us:List Value} {cur l:Array Value}
  (P:Mm R w) (I:z 10000= .slice (some ⟨g,0,none⟩) n q) (G:n<=q) (K:q<=maxLen) (B:cur.size=q *Q) (O:IK w.heap.size (gY False z [10000]) 10000 g) (V:∀j,R g j=none)
  (hg:D.heap[g]? =some (.cells l e (0,0))) (hs:l.size=cur.size) (BX:l.toList.take (n *Q)=us) (HQ:us.length=n *Q) (L:∀b,b<w.heap.size->b≠g->D.heap[b]? =w.heap[b]?)
  (hos:D.os=w.os) (ht:D.tape=w.tape) (N:D.output=w.output) (U:w.heap.size<=D.heap.size) (hyl:ys.length=n) (hrc:cV R Q ys us):
  fJ False R z [10000] (.gU []) [(10000, .row e Q ys)] w (.tuple #[]) R z D:=
 Uf P I G K B O V hg hs BX HQ L hos ht N U hyl hrc (.inl (by rw[rep.eq_def];exact⟨[],rfl,rfl⟩))
end Go.Proofs.YthphfjcnkinkpaaGreatDoor.cl
namespace Go.Proofs.YthphfjcnkinkpaaGreatDoor.cl
open Go Go.AM Go.RowKit
def Io {K:Type} {lt:K->K->Bool}:∀{l q:List K},l.Perm q->mK lt l->mK lt q->(∀x∈l,∀y∈l,lt x y=false->lt y x=false->x=y)->l=q:=by intro l;induction l with
 |nil=>intro q h _ _ _;exact(List.nil_perm.1 h).symm
 |cons x l V=>intro q h O P L;cases q with
  |nil=>exact absurd h.symm ai
  |cons y q=>
   have z:=dN.1 O;have B:=dN.1 P;have G:x=y:=by
    have N:y∈x::l:=h.mem_iff.2 ai;have U:x∈y::q:=h.mem_iff.1 ai;rcases aN.1 N with e|I
    .exact e.symm
    .rcases aN.1 U with e|D
     .exact e
     .exact L x ai y N (B.1 x D) (z.1 y I)
   subst G;rw[V (List.Perm.cons_inv h) z.2 B.2 λa Q b R=>L a (by simp[Q]) b (by simp[R])]
theorem BZ {B:Type} (lt:B->B->Bool) (q:∀a b,lt a b=true->lt b a=false) (up:∀x y z,lt x y=true->lt z y=false->lt x z=true) (l:List B):mK lt (tO lt l)/\(tO lt l).Perm l:=by
 have I:∀(x:B) (l:List B),(sj lt x l).Perm (x::l):=by intro x l;induction l with
  |nil=>exact .refl _
  |cons y l G=>
   unfold sj;split
   .exact .refl _
   .exact(G.cons y).trans (.swap x y l)
 have key:∀(l E:List B),mK lt E->mK lt (l.foldl (λout x=>sj lt x out) E)/\(l.foldl (λout x=>sj lt x out) E).Perm (E++l):=by intro l;induction l with
  |nil=>intro E D;exact⟨D,ai⟩
  |cons p l G=>intro E D;obtain⟨K,L⟩:=G _ (BY lt q up D (x:=p));refine⟨K,L.trans ?_⟩;exact((I p E).append_right l).trans (List.perm_middle (a:=p) (l₁:=E) (l₂:=l)).symm
 have:=key l [] (by simp[mK]);simpa[tO] using this
def U2 (x y z:List UInt8) (h:Op.bytesLess x y=true) (l:Op.bytesLess z y=false):Op.bytesLess x z=true:=by
 by_cases e:z=y
 .rw[e];exact h
 .exact vS _ _ _ h (BI _ _ l e)
end Go.Proofs.YthphfjcnkinkpaaGreatDoor.cl
namespace Go.Proofs
open Go.Shelf
def Tryz.Tn:Go.Shelf.Ren:=⟨λ|190=>229|125=>243|258=>255|128=>273|129=>274|302=>279|303=>280|304=>281|305=>282|306=>283|307=>284|308=>285|309=>286|310=>287|333=>317|329=>306|330=>307|334=>318|335=>319|336=>320|344=>349|n=>n,λ|31=>24|9=>9|3=>3|46=>249|0=>0|51=>320|53=>225|4=>4|183=>314|182=>313|131=>98|5=>5|218=>346|222=>350|228=>382|229=>383|n=>n,λ|n=>n⟩
def Tryz.lays190:Go.Proofs.Lays.n190 Tryz.prog Tryz.Tn:={
 mixed:=by kernel_rfl
 f125:=Tryz.func243.trans (aP some (by kernel_rfl))
 f128:=Tryz.func273.trans (aP some (by kernel_rfl))
 f129:=Tryz.func274.trans (aP some (by kernel_rfl))
 f190:=Tryz.func229.trans (aP some (by kernel_rfl))
 f258:=Tryz.func255.trans (aP some (by kernel_rfl))
 f302:=Tryz.func279.trans (aP some (by kernel_rfl))
 f303:=Tryz.func280.trans (aP some (by kernel_rfl))
 f304:=Tryz.func281.trans (aP some (by kernel_rfl))
 f305:=Tryz.func282.trans (aP some (by kernel_rfl))
 f306:=Tryz.func283.trans (aP some (by kernel_rfl))
 f307:=Tryz.func284.trans (aP some (by kernel_rfl))
 f308:=Tryz.func285.trans (aP some (by kernel_rfl))
 f309:=Tryz.func286.trans (aP some (by kernel_rfl))
 f310:=Tryz.func287.trans (aP some (by kernel_rfl))
 f329:=Tryz.func306.trans (aP some (by kernel_rfl))
 f330:=Tryz.func307.trans (aP some (by kernel_rfl))
 f333:=Tryz.func317.trans (aP some (by kernel_rfl))
 f334:=Tryz.func318.trans (aP some (by kernel_rfl))
 f335:=Tryz.func319.trans (aP some (by kernel_rfl))
 f336:=Tryz.func320.trans (aP some (by kernel_rfl))
 f344:=Tryz.func349.trans (aP some (by kernel_rfl))
 t0:=Tryz.underlying0
 a0:=Tryz.isAgg0
 z0:=Tryz.sizeOf0
 v0:=Tryz.zeroValue0
 t3:=Tryz.underlying3
 a3:=Tryz.isAgg3
 z3:=Tryz.sizeOf3
 v3:=Tryz.zeroValue3
 t4:=Tryz.underlying4
 a4:=Tryz.isAgg4
 z4:=Tryz.sizeOf4
 v4:=Tryz.zeroValue4
 t5:=Tryz.underlying5
 a5:=Tryz.isAgg5
 z5:=Tryz.sizeOf5
 v5:=Tryz.zeroValue5
 t9:=Tryz.underlying9
 a9:=Tryz.isAgg9
 z9:=Tryz.sizeOf9
 v9:=Tryz.zeroValue9
 t31:=Tryz.underlying24
 a31:=Tryz.isAgg24
 z31:=Tryz.sizeOf24
 v31:=Tryz.zeroValue24
 t46:=Tryz.underlying249
 a46:=Tryz.isAgg249
 z46:=Tryz.sizeOf249
 v46:=Tryz.zeroValue249
 t51:=Tryz.underlying320
 a51:=Tryz.isAgg320
 z51:=Tryz.sizeOf320
 v51:=Tryz.zeroValue320
 t53:=Tryz.underlying225
 a53:=Tryz.isAgg225
 z53:=Tryz.sizeOf225
 v53:=Tryz.zeroValue225
 t131:=Tryz.underlying98
 a131:=Tryz.isAgg98
 z131:=Tryz.sizeOf98
 v131:=Tryz.zeroValue98
 t182:=Tryz.underlying313
 a182:=Tryz.isAgg313
 z182:=Tryz.sizeOf313
 v182:=Tryz.zeroValue313
 t183:=Tryz.underlying314
 a183:=Tryz.isAgg314
 z183:=Tryz.sizeOf314
 v183:=Tryz.zeroValue314
 t218:=Tryz.underlying346
 a218:=Tryz.isAgg346
 z218:=Tryz.sizeOf346
 v218:=Tryz.zeroValue346
 t222:=Tryz.underlying350
 a222:=Tryz.isAgg350
 z222:=Tryz.sizeOf350
 v222:=Tryz.zeroValue350
 t228:=Tryz.underlying382
 a228:=Tryz.isAgg382
 z228:=Tryz.sizeOf382
 v228:=Tryz.zeroValue382
 t229:=Tryz.underlying383
 a229:=Tryz.isAgg383
 z229:=Tryz.sizeOf383
 v229:=Tryz.zeroValue383 }
def Tryz.Tp:Go.Shelf.Ren:=⟨λ|6=>199|15=>243|14=>242|28=>273|29=>274|20=>265|21=>266|22=>267|23=>268|24=>269|25=>270|26=>271|27=>272|46=>305|47=>306|48=>307|49=>308|50=>309|57=>347|n=>n,λ|22=>69|24=>68|25=>219|3=>3|39=>249|0=>0|53=>320|55=>225|4=>4|46=>314|45=>313|50=>98|5=>5|9=>9|66=>346|70=>350|76=>382|77=>383|n=>n,λ|n=>n⟩
def Tryz.laysF6a:Go.Proofs.SlLaysF0.n6 Tryz.prog Tryz.Tp:={
 mixed:=by kernel_rfl
 f6:=⟨Tryz.f199.name,by decide,Tryz.func199.trans (aP some (by kernel_rfl))⟩
 f14:=⟨Tryz.f242.name,by decide,Tryz.func242.trans (aP some (by kernel_rfl))⟩
 f15:=Tryz.func243.trans (aP some (by kernel_rfl))
 f20:=⟨Tryz.f265.name,by decide,Tryz.func265.trans (aP some (by kernel_rfl))⟩
 f21:=⟨Tryz.f266.name,by decide,Tryz.func266.trans (aP some (by kernel_rfl))⟩
 f22:=⟨Tryz.f267.name,by decide,Tryz.func267.trans (aP some (by kernel_rfl))⟩
 f23:=⟨Tryz.f268.name,by decide,Tryz.func268.trans (aP some (by kernel_rfl))⟩
 f24:=⟨Tryz.f269.name,by decide,Tryz.func269.trans (aP some (by kernel_rfl))⟩
 f25:=⟨Tryz.f270.name,by decide,Tryz.func270.trans (aP some (by kernel_rfl))⟩
 f26:=⟨Tryz.f271.name,by decide,Tryz.func271.trans (aP some (by kernel_rfl))⟩
 f27:=⟨Tryz.f272.name,by decide,Tryz.func272.trans (aP some (by kernel_rfl))⟩
 f28:=Tryz.func273.trans (aP some (by kernel_rfl))
 f29:=Tryz.func274.trans (aP some (by kernel_rfl))
 f46:=⟨Tryz.f305.name,by decide,Tryz.func305.trans (aP some (by kernel_rfl))⟩
 f47:=Tryz.func306.trans (aP some (by kernel_rfl))
 f48:=Tryz.func307.trans (aP some (by kernel_rfl))
 f49:=⟨Tryz.f308.name,by decide,Tryz.func308.trans (aP some (by kernel_rfl))⟩
 f50:=⟨Tryz.f309.name,by decide,Tryz.func309.trans (aP some (by kernel_rfl))⟩
 f57:=⟨Tryz.f347.name,by decide,Tryz.func347.trans (aP some (by kernel_rfl))⟩
 t0:=Tryz.underlying0
 a0:=Tryz.isAgg0
 z0:=Tryz.sizeOf0
 v0:=Tryz.zeroValue0
 t3:=Tryz.underlying3
 a3:=Tryz.isAgg3
 z3:=Tryz.sizeOf3
 v3:=Tryz.zeroValue3
 t4:=Tryz.underlying4
 a4:=Tryz.isAgg4
 z4:=Tryz.sizeOf4
 v4:=Tryz.zeroValue4
 t5:=Tryz.underlying5
 a5:=Tryz.isAgg5
 z5:=Tryz.sizeOf5
 v5:=Tryz.zeroValue5
 t9:=Tryz.underlying9
 a9:=Tryz.isAgg9
 z9:=Tryz.sizeOf9
 v9:=Tryz.zeroValue9
 t22:=Tryz.underlying69
 a22:=Tryz.isAgg69
 z22:=Tryz.sizeOf69
 v22:=Tryz.zeroValue69
 t25:=Tryz.underlying219
 a25:=Tryz.isAgg219
 z25:=Tryz.sizeOf219
 v25:=Tryz.zeroValue219
 t39:=Tryz.underlying249
 a39:=Tryz.isAgg249
 z39:=Tryz.sizeOf249
 v39:=Tryz.zeroValue249
 t45:=Tryz.underlying313
 a45:=Tryz.isAgg313
 z45:=Tryz.sizeOf313
 v45:=Tryz.zeroValue313
 t46:=Tryz.underlying314
 a46:=Tryz.isAgg314
 z46:=Tryz.sizeOf314
 v46:=Tryz.zeroValue314
 t50:=Tryz.underlying98
 a50:=Tryz.isAgg98
 z50:=Tryz.sizeOf98
 v50:=Tryz.zeroValue98
 t53:=Tryz.underlying320
 a53:=Tryz.isAgg320
 z53:=Tryz.sizeOf320
 v53:=Tryz.zeroValue320
 t55:=Tryz.underlying225
 a55:=Tryz.isAgg225
 z55:=Tryz.sizeOf225
 v55:=Tryz.zeroValue225
 t66:=Tryz.underlying346
 a66:=Tryz.isAgg346
 z66:=Tryz.sizeOf346
 v66:=Tryz.zeroValue346
 t70:=Tryz.underlying350
 a70:=Tryz.isAgg350
 z70:=Tryz.sizeOf350
 v70:=Tryz.zeroValue350
 t76:=Tryz.underlying382
 a76:=Tryz.isAgg382
 z76:=Tryz.sizeOf382
 v76:=Tryz.zeroValue382
 t77:=Tryz.underlying383
 a77:=Tryz.isAgg383
 z77:=Tryz.sizeOf383
 v77:=Tryz.zeroValue383 }
end Go.Proofs
namespace Go.Proofs.YthphfjcnkinkpaaGreatDoor.cl
open Go Go.AM Go.RowKit
def Ty (l:List (List UInt8)):(l.mergeSort λx y=>decide (x<=y))=tO Op.bytesLess l:=by
 have e:(λx y:List UInt8=>decide (x<=y))=λx y=> !Op.bytesLess y x:=by
  funext x y;rw[bytesLess_eq];by_cases h:y<x
  .have:¬x<=y:=λG=>G h
   simp[h,this]
  .have:x<=y:=h
   simp[h,this]
 rw[e];obtain⟨I,K⟩:=BZ Op.bytesLess (λa b h=>BH h) U2 l;refine Io ((List.mergeSort_perm l _).trans K.symm) ?_ I ?_
 .have:=List.pairwise_mergeSort (le:=λx y:List UInt8=> !Op.bytesLess y x) (λa b c q z=>by
   simp only[jw] at q z⊢;cases B:Op.bytesLess c a with
   |false=>rfl
   |true=>
    have:=U2 _ _ _ B q
    rw[z] at this;cases this) (λa b=>by
   cases B:Op.bytesLess b a with
   |false=>simp
   |true=>simp[BH B]) l
  refine this.imp ?_;intro a b h;simpa using h
 .intro x _ y _ q z;apply ff;intro D;have:=BI _ _ q D;rw[z] at this;cases this
open Go.Sort in
def Ku {z:Type} [Inhabited z] {enc:z->Value} {w:World} {n g:Nat} {d:Array z} {os:Array Obj} {cur:Array Value} {e:TypeId} (B:w.heap[g]? =some (.cells cur e (0,0))):
  (grow (putRow enc (Sort.ahead w n) g 0 d) os).heap[g]? =some (.cells (putCells enc 0 d cur) e (0,0))/\(∀b,b<w.heap.size->b≠g->(grow (putRow enc (Sort.ahead w n) g 0 d) os).heap[b]? =w.heap[b]?)/\w.heap.size<=(grow (putRow enc (Sort.ahead w n) g 0 d) os).heap.size:=by
 have l:g<w.heap.size:=(mu.1 B).1;have G:(grow (putRow enc (Sort.ahead w n) g 0 d) os).heap=w.heap.modify g (onCells (putCells enc 0 d))++os:=rfl;rw[G];refine⟨?_,λb D q=> ?_,?_⟩
 .rw[uR (by simpa using l),zR,aB rfl,B];rfl
 .rw[uR (by simpa using D),zR,az (λh=>q h.symm)]
 .simp
open Go.Sort in
def Uu {z:Type} [Inhabited z] {enc:z->Value} {l:List z} {cur:Array Value} (h:l.length<=cur.size):(putCells enc 0 l.toArray cur).size=cur.size/\(putCells enc 0 l.toArray cur).toList.take l.length=l.map enc:=by
 refine⟨by simp[putCells],?_⟩;apply kK;intro i;by_cases q:i<l.length
 .rw[oQ,aB q,dA,aM q];have B:i<cur.size:=af;simp[putCells,q,B,aM q]
 .rw[gA aH,gA aH]
def DG {L:Mu}:∀{l:List (List UInt8)} {B:List Value},cV L 1 (l.map oM) B↔B=l.map encStr:=by intro l;induction l with
 |nil=>intro B;exact jL
 |cons s l G=>
  intro B;constructor
  .rintro⟨N,ws,rfl,z,_,I⟩;have q:=z.1;simp only[oM,cN] at q;obtain⟨u,K,rfl,D,rfl⟩:=q;rw[rep] at D;subst D;rw[G.1 I];rfl
  .rintro rfl;exact⟨[encStr s],l.map encStr,rfl,⟨⟨_,_,rfl,by rw[rep],rfl⟩,λu z=>by simp only[cz] at z;subst z;rfl⟩,rfl,G.2 rfl⟩
def NZ {z:Mu} {l:Nat->Value} {w:World} {o:Ob} (q:Mm z w) (G:nU w.heap.size (gY False l [10000]) z l w 10000 o):fJ False z l [10000] (.gU []) [(10000,o)] w (.tuple #[]) z l w where
 ext:=Mu.ext.toL ⟨Mu.le.refl _,λ_ _ _ h=> .inl h⟩
 yz:=q
 res:= .inl (by rw[rep.eq_def];exact⟨[],rfl,rfl⟩)
 obs:=λid N h=>by
  have B:=wg h;subst B;have L:o=N:=by simpa[find] using h
  subst L;exact G
 apart:=λi j O P I K D=>absurd ((wg I).trans (wg K).symm) D
 keep:=λ_ _ _=>rfl
 fix:=λ_ _ _ _=>rfl
 os:=rfl
 tape:=rfl
 output:=rfl
 grown:=aR _
 drawn:=λh=>h.elim
def sort80 {μ:Mu} {z:Nat->Value} {w:World} {l:List (List UInt8)} (hlen:l.length<=1073741824) (D:Mm μ w) (U:nU w.heap.size (gY False z [10000]) μ z w 10000 (.row 9 1 (l.map oM))):
  Calls P 229 #[z 10000] w λe L=>∃v μ' loc',e= .returned v/\fJ False μ z [10000] (.gU []) [(10000, .row 9 1 ((tO Op.bytesLess l).map oM))] w v μ' loc' L:=by
 have V:=U;obtain⟨vs,hown,hrc,hbl⟩:=V;have hvs:=DG.1 hrc;rcases hown.2 with⟨e1,h0⟩|⟨g,N,cur,e1,_,hg,B,R,hsz,q⟩
 .have hl:l=[]:=by
   cases l with
   |nil=>rfl
   |cons a b=>simp at h0
  subst hl;have hc:Calls P 229 #[.slice none 0 0] w λe L=>e= .returned (.tuple #[])/\L=w:=Any.slices_Sort_string_none Tryz.lays190 none 0 w
  rw[e1];refine hc.mono ?_;rintro e L ⟨rfl,rfl⟩;exact⟨_,μ,z,rfl,NZ D U⟩
 .have hll:(l.map oM).length=l.length:=ai;rw[hll] at e1 B q;rw[zS] at hsz q;rw[hvs] at q;have hin:mE (z 10000) g:=by rw[e1];exact iJ.2 rfl
  obtain⟨I,I4⟩:=hbl g hin;have hlt:g<w.heap.size:=(mu.1 hg).1;have G:∀(j:Nat) (O:j<l.length),cur[j]? =some (encStr l[j]):=by
   intro j O;have h1:(cur.toList.take l.length)[j]? =some (encStr l[j]):=by rw[q,dA,aM O];rfl
   rw[oQ,aB O] at h1;simpa using h1
  have hH:Go.Sort.Holds encStr w g 0 l.toArray:=by
   intro j O;have Q:j<l.length:=by simpa using O
   have hcj:=G j Q;rw[eF];refine⟨?_,?_⟩
   .unfold World.cell?;simp only[hg];simp[hcj,Q]
   .unfold World.frozen?;simp[hg]
  have hc:Calls P 229 #[.slice (some ⟨g,0,none⟩) l.length N] w λe L=>e= .returned (.tuple #[])/\∃n os,L=Go.Sort.grow (Go.Sort.putRow encStr (Go.Sort.ahead w n) g 0 (l.mergeSort λx y=>decide (x<=y)).toArray) os:=Any.slices_Sort_string Tryz.lays190 g 0 N l w hH hlt af
  rw[e1];refine hc.mono ?_;rintro e L ⟨rfl,n,os,rfl⟩;rw[Ty];have K:(tO Op.bytesLess l).length=l.length:=(BZ Op.bytesLess (λa b h=>BH h) U2 l).2.length_eq;obtain⟨k1,k2,k3⟩:=Ku (enc:=encStr) (n:=n) (d:=(tO Op.bytesLess l).toArray) (os:=os) hg;obtain⟨t1,t2⟩:=Uu (enc:=encStr) (l:=tO Op.bytesLess l) (cur:=cur) af;refine⟨_,μ,z,rfl,N2 (cur:=cur) (us:=(tO Op.bytesLess l).map encStr) D e1 B R (by rw[zS];exact hsz) I I4 k1 t1 (by rw[zS,<-K];exact t2) (by simp[K]) k2 rfl rfl rfl k3 (by simp[K]) (DG.2 rfl)⟩
end Go.Proofs.YthphfjcnkinkpaaGreatDoor.cl
set_option maxRecDepth 100000
namespace Go.Proofs.YthphfjcnkinkpaaGreatDoor.cl.cq
open Go Go.AM
def gM:eE:=λ_ _ _=>none
abbrev Hq:Nat->Hint:=H
noncomputable abbrev Rn:eE:=run P Hq gM
def Q0:Int->AV:=(λ(x:Int)=>((.int .i64 x):AV))
instance:fA Q0:=⟨λa b h=>by
 simp only[Q0,AV.mp.injEq,AV.int.injEq,AV.str.injEq,AV.bool.injEq,AV.dD.injEq,AV.agg.injEq,AV.gU.injEq,cR,ew,eH] at h
 exact h⟩
def Q1:Bool->AV:=(λ(x:Bool)=>((.bool x):AV))
instance:fA Q1:=⟨λa b h=>by
 simp only[Q1,AV.mp.injEq,AV.int.injEq,AV.str.injEq,AV.bool.injEq,AV.dD.injEq,AV.agg.injEq,AV.gU.injEq,cR,ew,eH] at h
 exact h⟩
def ress:List (Nat×xU):=[(201,⟨_,Q0⟩),(147,⟨_,Q0⟩),(244,⟨_,Q1⟩)]
def yI:mW:={ elem:=HJ elems,val:=HJ vals,res:=HJ ress }
noncomputable def f464 (l q:Int):Option Int:=dec (EN Q0) (Rn 201 [(.pv (.int .i64 l)),(.pv (.int .i64 q))] [])
noncomputable def f495 (l q:b9):Option Int:=dec (EN Q0) (Rn 147 [(.pv (.agg (b9.enc l))),(.pv (.agg (b9.enc q)))] [])
noncomputable def f469 (l:Int):Option Bool:=dec (EN Q1) (Rn 244 [(.pv (.int .i64 l))] [])
def e464 (z B:Int) {r:Int}
 (h:(
 Option.bind (f469 z) λq=>
 Option.bind (f469 B) λl=>
 bif q then(
 bif l then(
 some 0)
 else(
 some (-1)))
 else(
 bif l then(
 some 1)
 else(
 bif(decide (z<B)) then(
 some (-1))
 else(
 bif(decide (z>B)) then(
 some 1)
 else(
 some 0)))):Option Int)=some r):
 f464 z B=some r:=
 qt (E:=(EN Q0)) h (
 Ik λq=>
 Ik λl=>
 Ic (
 Ic (
 Is) (
 Is)) (
 Ic (
 Is) (
 Ic (
 Is) (
 Ic (
 Is) (
 Is)))))
 (by kernel_rfl) (λh=>sF (C:=yI) rfl h)
def e495 (q z:b9) {r:Int}
 (h:(
 Option.bind (f464 q.bB z.bB) λl=>
 some l:Option Int)=some r):
 f495 q z=some r:=
 qt (E:=(EN Q0)) h (
 Ik λl=>
 Is)
 (by kernel_rfl) (λh=>sF (C:=yI) rfl h)
def e469 (l:Int) {r:Bool}
 (h:(
 some (l !=l):Option Bool)=some r):
 f469 l=some r:=
 qt (E:=(EN Q1)) h (
 Is)
 (by kernel_rfl) (λh=>sF (C:=yI) rfl h)
end Go.Proofs.YthphfjcnkinkpaaGreatDoor.cl.cq
namespace Go.Proofs.YthphfjcnkinkpaaGreatDoor.cl
open Go Go.AM
namespace cq
def h96:∀x:Int,f469 x=some false:=λx=>e469 _ ai
def h50:∀x y:Int,f464 x y=some (if x<y then-1 else if y<x then 1 else 0):=by
 intro x y;refine e464 _ _ ?_;rw[h96,aj,h96,aj,aA,aA];by_cases l:x<y
 .rw[cond_pos (by simpa using l),aB l]
 .rw[cond_neg (by simpa using l),az l];by_cases q:y<x
  .rw[cond_pos (by simpa using q),aB q]
  .rw[cond_neg (by simpa using q),az q]
def arc (p:Int×Int):b9:=⟨p.1,p.2⟩
def i495 (p q:Int×Int):f495 (arc p) (arc q)=some (if p.1<q.1 then-1 else if q.1<p.1 then 1 else 0):=by refine e495 _ _ ?_;show Option.bind (f464 p.1 q.1) _=_;rw[h50,aj]
end cq
end Go.Proofs.YthphfjcnkinkpaaGreatDoor.cl
namespace Go.Proofs.YthphfjcnkinkpaaGreatDoor.cl
open Go Go.AM Go.RowKit
def ok:Ec P=true:=by kernel_rfl
def qg {g:Nat} {fn:Func} (D:P.funcs[g]? =some fn) (G:¬(fn.name= "runtime.NumGoroutine")) (z:fn.body.isSome=true) (l:Array Value) (q:World):(callFunc g l).run P q= .ok (.enter g l) q:=by obtain⟨c,B⟩:=qX.1 z;simp[callFunc,D,G,B]
def ab0 (f:Nat):(H f).blk=[]:=by
 have key:∀(l:List (Nat×Hint)),(l.all λp=>p.2.blk.isEmpty)=true->∀f,((find l f).getD {}).blk=[]:=by intro l;induction l with
  |nil=>intro _ f;rfl
  |cons p l q=>intro h f;rw[lW,aU] at h;simp only[find];cases z:Nat.beq p.1 f with
   |true=>rw[au];exact zz.1 h.1
   |false=>rw[aA];exact q h.2 f
 exact key hints (by kernel_rfl) f
def aa1:∀f fn c,P.funcs[f]? =some fn->fn.body=some c->qW True (λ_ _=>none) P (H f) fn.ntmps c:=λf fn c _ _=>qW.none (ab0 f) c
def none_ok:ic True (λ_ _=>none) P cq.gM:=λg args cG r l q=>by cases q
structure SK where
 T:Type
 enc:T->List AV
 good:T->Prop
 c:T->T->Int
 ty:Nat
 cm:Nat
 two:∀x,∃a b,enc x=[a,b]
 asy:∀p q,c p q<0->¬c q p<0
 up:∀x y z,c x y<0->¬c z y<0->c x z<0
 nul:∀μ:Mu,∃p us,lD μ (enc p) us/\good p
 runs:∀x y,good x->good y->cq.Rn cm [(.pv (.agg (enc x))),(.pv (.agg (enc y)))] []=some (.int .i64 (c x y),[])
 enters:∀(us:Array Value) (w2:World),(callFunc cm us).run P w2= .ok (.enter cm us) w2
abbrev Al (S:SK) (μ:Mu):Type:={ x:S.T×List Value // lD μ (S.enc x.1) x.2/\S.good x.1 }
variable {S:SK}
noncomputable instance (μ:Mu):Inhabited (Al S μ):=⟨Classical.choice (by
 obtain⟨p,l,h⟩:=S.nul μ
 exact⟨⟨(p,l),h⟩⟩)⟩
def Al.cells {μ:Mu} (x:Al S μ):List Value:=x.1.2
def Al.len {μ:Mu} (x:Al S μ):x.cells.length=2:=by obtain⟨⟨p,B⟩,⟨h,_⟩,_⟩:=x;obtain⟨a,b,e⟩:=S.two p;have z:cN μ (S.enc p) B:=h;rw[e] at z;obtain⟨u,L,G,_,⟨K,q,D,_,l⟩⟩:=z;have I:q=[]:=l;show B.length=2;rw[G,D,I];rfl
def Al.one {μ:Mu} (x:Al S μ):∀v∈x.cells,v.oneCell'=true:=x.2.1.2
def Al.cf {μ:Mu} (x y:Al S μ):Int:=S.c x.1.1 y.1.1
def SK.lt (S:SK) (x y:S.T):Bool:=decide (S.c x y<0)
def swo {μ:Mu}:Go.Sort.SWO (ltOf (Al.cf (S:=S) (μ:=μ))) where
 irrefl x:=by show decide (S.c x.1.1 x.1.1<0)=false;exact vj λh=>S.asy _ _ h h
 trans x y z h1 h2:=by have l:S.c x.1.1 y.1.1<0:=lU h1;have q:S.c y.1.1 z.1.1<0:=lU h2;exact qa (S.up _ _ _ l (S.asy _ _ q))
 ntrans x y z h1 h2:=by have l:¬S.c x.1.1 y.1.1<0:=zT h1;have q:¬S.c y.1.1 z.1.1<0:=zT h2;exact vj λB=>l (S.up _ _ _ B q)
def cmp48 {G:Mu} {W:World} (D:Mm G W) (x y:Al S G):Calls P S.cm #[.agg x.cells.toArray, .agg y.cells.toArray] W λe l=>e= .returned (.int .i64 (Al.cf x y))/\∃q I,l=Go.Sort.grow (W.drewN q) I:=by
 have hr:=S.runs x.1.1 y.1.1 x.2.2 y.2.2
 have hs:=(ic.noY (NY (q:=True) (B:=λ_ _=>none) ok aa1 none_ok S.cm _ [] _ _ hr W G (λ_=>undef) [.agg x.cells.toArray, .agg y.cells.toArray] (λ_ _ _ h=>by cases h) D (λid o h=>by cases h) (λi j oi oj h=>by cases h)
  ⟨_,_,rfl,(by show rep G (.agg (S.enc x.1.1)) _;rw[rep];exact⟨_,rfl,x.2.1.1,x.2.1.2⟩),_,_,rfl,(by show rep G (.agg (S.enc y.1.1)) _;rw[rep];exact⟨_,rfl,y.2.1.1,y.2.1.2⟩),rfl⟩) λxs h=>by cases h).2
 refine hs.mono ?_;rintro e l ⟨v,μ',V,rfl,z⟩;have U:=z.pure rfl;rw[rep] at U;subst U;refine⟨rfl,l.drawn-W.drawn,l.heap.extract W.heap.size l.heap.size,?_⟩;have hd:=z.drawn trivial;have B:l.heap=W.heap++l.heap.extract W.heap.size l.heap.size:=by
  apply Array.ext_getElem?;intro b;by_cases R:b<W.heap.size
  .rw[uR R];exact z.keep b R (by rintro⟨id,v,h,_⟩;simp[gY] at h)
  .rw[Array.getElem?_append_right af,Array.getElem?_extract];have hg:=z.grown;by_cases hb2:b<l.heap.size
   .rw[aB af,show W.heap.size+(b-W.heap.size)=b by omega]
   .rw[az af,Array.getElem?_eq_none af]
 have ext:∀{a b:World},a.heap=b.heap->a.tape=b.tape->a.drawn=b.drawn->a.os=b.os->a.output=b.output->a=b:=by intro a b K L N O Q;cases a;cases b;simp only at K L N O Q;subst K L N O Q;rfl
 exact ext B z.tape (show l.drawn=W.drawn+(l.drawn-W.drawn) by omega) z.os z.output
