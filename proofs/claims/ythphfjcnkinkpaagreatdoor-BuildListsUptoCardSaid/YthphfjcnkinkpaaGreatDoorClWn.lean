/- The primitives are sound. -/
import Derived.Test.YthphfjcnkinkpaaGreatDoorClQl
import Derived.Test.YthphfjcnkinkpaaGreatDoorClQc
import Derived.Test.YthphfjcnkinkpaaGreatDoorCards
import Derived.Test.YthphfjcnkinkpaaGreatDoorTie
import Derived.WalkKit
import Derived.ProofKit
import Derived.OpenShut
import Derived.Deep.DeepHandedRow
import Derived.Stop.LaidErr
import Derived.Test.YthphfjcnkinkpaaGreatDoorClUh
import Derived.Test.YthphfjcnkinkpaaGreatDoorClUg
set_option linter.all false
namespace Go.Proofs.YthphfjcnkinkpaaGreatDoor.cl
open Go Go.AM Go.RowKit
theorem aak:∀{xs:List (List AV)} {l:List (List UInt8)},strs xs=some l->xs=l.map oM:=by intro xs;induction xs with
 |nil=>intro l h;simp[strs] at h;subst h;rfl
 |cons c xs z=>
  intro l h;unfold strs at h;split at h
  .rename_i e;cases e
  .rename_i s B e;injection e with e1 q;subst e1 q;simp only[cL] at h;obtain⟨m,w,rfl⟩:=h;rw[z w];rfl
  .cases h
def post_of {z:Mu} {q:Nat->Value} {w D:World} {r:AV} {v:Value} (hp:Mm z w) (l:Below w.heap.size w D) (H:rep z r v):fJ False z q [] r [] w v z q D where
 ext:=Mu.ext.toL ⟨Mu.le.refl _,λ_ _ _ h=> .inl h⟩
 yz:=λb j x I=>by have h:=hp b j x I;rw[jf (l.block b (sK h)) j];exact h
 res:= .inl H
 obs:=λid o h=>by cases h
 apart:=λi j K N h=>by cases h
 keep:=λb B _=>l.block b B
 fix:=λid h=>by cases h
 os:=l.os
 tape:=l.tape
 output:=l.output
 grown:=l.size
 drawn:=λh=>h.elim
def jC {D:Nat} {L:s7} {I:Mu} {l:Nat->Value} {w:World} {id e H:Nat} {xs:List (List AV)} (h:nU D L I l w id (.row e H xs)):fW (l id)=l id:=by
 obtain⟨K,q,_⟩:=h;rcases q.2 with⟨e1,_⟩|⟨g,z,B,e1,_⟩
 .rw[e1];rfl
 .rw[e1];rfl
def prim_ok {B:Mu}:ic False B P gM:=by
 intro g args cG r sW z w μ loc us hB I V hap O;unfold gM at z;split at z
 .rename_i xs;obtain⟨S,z⟩:=cv z;simp only[bg,cD] at z;obtain⟨rfl,rfl⟩:=z;obtain⟨u0,K,rfl,D,q⟩:=O
  have:K=[]:=q
  subst this;exact .inl ⟨by decide,λU=>qg Tryz.func197 (by decide) (by rfl) _ U,abg (q:=False) (λh=>h) I D (fF S)⟩
 .rename_i xs;obtain⟨S,z⟩:=cv z;simp only[bg,cD] at z;obtain⟨rfl,rfl⟩:=z;obtain⟨u0,K,rfl,D,q⟩:=O
  have:K=[]:=q
  subst this;exact .inl ⟨by decide,λU=>qg Tryz.func44 (by decide) (by rfl) _ U,abf (q:=False) (λh=>h) I D (fF S)⟩
 .rename_i xs;obtain⟨S,z⟩:=cv z;simp only[bg,cD] at z;obtain⟨rfl,rfl⟩:=z;obtain⟨u0,K,rfl,D,q⟩:=O
  have:K=[]:=q
  subst this;exact .inl ⟨by decide,λU=>qg Tryz.func72 (by decide) (by rfl) _ U,clone31 (q:=False) (λh=>h) I D (fF S)⟩
 .rename_i xs;obtain⟨S,z⟩:=cv z;simp only[bg,cD] at z;obtain⟨rfl,rfl⟩:=z;obtain⟨u0,K,rfl,D,q⟩:=O
  have:K=[]:=q
  subst this;exact .inl ⟨by decide,λU=>qg Tryz.func116 (by decide) (by rfl) _ U,clone62 (q:=False) (λh=>h) I D (fF S)⟩
 .rename_i xs;split at z
  .rename_i l hl;obtain⟨S,z⟩:=cv z;simp only[bg,cD] at z;obtain⟨rfl,rfl⟩:=z;have hxs:=aak hl;subst hxs;obtain⟨u0,K,rfl,D,q⟩:=O
   have:K=[]:=q
   subst this;have N:u0=loc 10000:=(show u0=fW (loc 10000) from D).trans (jC (V 10000 _ rfl));subst N;exact .inl ⟨by decide,λU=>qg Tryz.func229 (by decide) (by rfl) _ U,sort80 (fF S) I (V 10000 _ rfl)⟩
  .cases z
 .rename_i xs;split at z
  .rename_i l hl;obtain⟨S,z⟩:=cv z;simp only[aU] at S;simp only[bg,cD] at z;obtain⟨rfl,rfl⟩:=z;obtain⟨u0,K,rfl,D,q⟩:=O;obtain⟨u1,us2,rfl,hu1,Q⟩:=q
   have:us2=[]:=Q
   subst this;have H:rep μ (.fn 147 []) u1:=hu1;rw[rep.eq_def] at H;dsimp only at H;obtain⟨vs,rfl,hvs⟩:=H
   have:vs=[]:=hvs
   subst this;exact .inl ⟨by decide,λU=>qg Tryz.func145 (by decide) (by rfl) _ U,sortedA I hl S.1 (fF S.2) D⟩
  .cases z
 .rename_i a b;simp only[bg,cD] at z;obtain⟨rfl,rfl⟩:=z;obtain⟨u0,K,rfl,D,q⟩:=O;obtain⟨u1,us2,rfl,hu1,Q⟩:=q
  have:us2=[]:=Q
  subst this;have N:rep μ (.str a) u0:=D;have H:rep μ (.str b) u1:=hu1;rw[rep] at N H;subst N H;refine .inl ⟨by decide,λU=>qg Tryz.func119 (by decide) (by rfl) _ U,(cmp65 _ _ w).mono ?_⟩;rintro e w' ⟨rfl,rfl⟩;exact⟨_,μ,loc,rfl,post_of I (gW _ _) (by rw[rep];exact aP (Value.int .i64) (J9 a b))⟩
 .rename_i i j e xs;obtain⟨S,z⟩:=cv z;simp only[aU,pS] at S;obtain⟨⟨⟨hi,hij⟩,hj⟩,he⟩:=S;have he:=wZ he;subst he;simp only[bg,cD] at z;obtain⟨rfl,rfl⟩:=z;obtain⟨u0,K,rfl,D,q⟩:=O;obtain⟨u1,us2,rfl,hu1,Q⟩:=q;obtain⟨u2,us3,rfl,hu2,hus3⟩:=Q
  have:us3=[]:=hus3
  subst this;have N:u0=loc 10000:=(show u0=fW (loc 10000) from D).trans (jC (V 10000 _ rfl));subst N;have H:rep μ (.int .i64 i) u1:=hu1;have hu2':rep μ (.int .i64 j) u2:=hu2;rw[rep] at H hu2';subst H hu2';obtain⟨a,rfl⟩:=fU hi;obtain⟨b,rfl⟩:=fU (by omega:0<=j);have h:=del72 (i:=a) (j:=b) af af I (V 10000 _ rfl);have e1:((b:Int)-(a:Int)).toNat=b-a:=af;rw[aZ,aZ,e1];exact .inl ⟨by decide,λU=>qg Tryz.func126 (by decide) (by rfl) _ U,h⟩
 .cases z
def blk_all {B:Mu}:∀f fn c,P.funcs[f]? =some fn->fn.body=some c->qW False B P (H f) fn.ntmps c:=λf fn c _ _=>qW.none (ab0 f) c
end Go.Proofs.YthphfjcnkinkpaaGreatDoor.cl
set_option maxRecDepth 100000
namespace Go.Proofs.YthphfjcnkinkpaaGreatDoor.cl
open Go Go.AM Go.RowKit Go.ChangeShapes Go.WideShapes Go.ChangeAt
def own:ownKnob Tryz.prog.godebug=none:=by kernel_rfl
def WE (q:Array Value):Obj->Obj
 | .cells _ t l=> .cells q t l
 |o=>o
noncomputable def GC (l:Os):World:=
 {World.holding Tryz.prog l ⟨#[], #[],[]⟩ with heap:=(((World.holding Tryz.prog l ⟨#[], #[],[]⟩).heap.modify 1 (WE #[.int .u8 0, .int .u8 1, .int .u8 56, .int .u8 2, .int .u8 57, .int .u8 49, .int .u8 28, .int .u8 3, .int .u8 61, .int .u8 58, .int .u8 42, .int .u8 50, .int .u8 38, .int .u8 29, .int .u8 17, .int .u8 4, .int .u8 62, .int .u8 47, .int .u8 59, .int .u8 36, .int .u8 45, .int .u8 43, .int .u8 51, .int .u8 22, .int .u8 53, .int .u8 39, .int .u8 33, .int .u8 30, .int .u8 24, .int .u8 18, .int .u8 12, .int .u8 5, .int .u8 63, .int .u8 55, .int .u8 48, .int .u8 27, .int .u8 60, .int .u8 41, .int .u8 37, .int .u8 16, .int .u8 46, .int .u8 35, .int .u8 44, .int .u8 21, .int .u8 52, .int .u8 32, .int .u8 23, .int .u8 11, .int .u8 54, .int .u8 26, .int .u8 40, .int .u8 15, .int .u8 34, .int .u8 20, .int .u8 31, .int .u8 10, .int .u8 25, .int .u8 14, .int .u8 19, .int .u8 9, .int .u8 13, .int .u8 8, .int .u8 7, .int .u8 6])).modify 2 (WE #[.int .u64 1, .int .u64 10, .int .u64 100, .int .u64 1000, .int .u64 10000, .int .u64 100000, .int .u64 1000000, .int .u64 10000000, .int .u64 100000000, .int .u64 1000000000, .int .u64 10000000000, .int .u64 100000000000, .int .u64 1000000000000, .int .u64 10000000000000, .int .u64 100000000000000, .int .u64 1000000000000000, .int .u64 10000000000000000, .int .u64 100000000000000000, .int .u64 1000000000000000000, .int .u64 10000000000000000000])).modify 3 (WE #[.int .u8 0, .int .u8 1, .int .u8 28, .int .u8 2, .int .u8 29, .int .u8 14, .int .u8 24, .int .u8 3, .int .u8 30, .int .u8 22, .int .u8 20, .int .u8 15, .int .u8 25, .int .u8 17, .int .u8 4, .int .u8 8, .int .u8 31, .int .u8 27, .int .u8 13, .int .u8 23, .int .u8 21, .int .u8 19, .int .u8 16, .int .u8 7, .int .u8 26, .int .u8 12, .int .u8 18, .int .u8 6, .int .u8 11, .int .u8 5, .int .u8 10, .int .u8 9]) }
end Go.Proofs.YthphfjcnkinkpaaGreatDoor.cl
namespace Go.Proofs.YthphfjcnkinkpaaGreatDoor.cl.pf
open Go Go.AM
def M0 (sb:Int->Int->Prop) (g C:FSt) (n:Nat):Prop:=∃m,tK sb (jj g) 0 (jj C) n m
def und_at {p:List Int} {g:FSt}:∀(i:Nat),i<=p.length->oN (uG p g) (p.take i)=some i:=by intro i;induction i with
 |zero=>intro _;rfl
 |succ i l=>intro q;rw[c7,aM (by omega:i<p.length)];refine BF.2 ⟨i,l af,?_⟩;show Bp (iN _ i) _=_;rw[vG af];simp[Bp]
theorem aer {p:List Int} {g:FSt}:∀(i:Nat),i<=p.length->kO (iN (uG p g)) 0 i:=by intro i;induction i with
 |zero=>intro _;exact .root
 |succ i l=>exact λq=>(l af).step (p:=(p[i],i+1)) (by rw[vG af];simp)
section
variable {T F:Nat} {sb:Int->Int->Prop} (hT:TO T sb) {p:List Int} (hp:p.length<=1000000) {g:FSt} (hg:∀j,wV (iN g j)) (ht:JG g)
include hp ht
theorem und_rch {j:Nat} (l:kO (iN g) 0 j):kO (iN (uG p g)) 0 (p.length+j):=by induction l with
 |root=>exact aer _ (aR _)
 | @step n q _ w z=>exact z.step (p:=(q.1,p.length+q.2)) (by rw[vH hp ht];exact aD.2 ⟨q,w,rfl⟩)
theorem N9 {i:Nat} (z:kO (iN (uG p g)) 0 i):i<p.length\/∃j,i=p.length+j/\kO (iN g) 0 j:=by induction z with
 |root=>
  by_cases h:0<p.length
  .exact .inl h
  .exact .inr ⟨0,by omega, .root⟩
 | @step n q _ l D=>
  rcases D with h|⟨j,rfl,B⟩
  .rw[vG h] at l;simp at l;subst l;by_cases w:n+1<p.length
   .exact .inl w
   .exact .inr ⟨0,by show n+1=_;omega, .root⟩
  .rw[vH hp ht] at l;obtain⟨H,h0,rfl⟩:=aD.1 l;exact .inr ⟨H.2,rfl,B.step h0⟩
include hg
theorem und_asc {i:Nat} (l:kO (iN (uG p g)) 0 i):wV (iN (uG p g) i):=by
 rcases N9 hp ht l with h|⟨j,rfl,q⟩
 .rw[vG h];exact rU _ _
 .rw[vH hp ht];exact(hg j).map _
include hT
theorem Md {C:FSt} (hC:Can T F C):Le sb (uG p g) C↔∃n,oN C p=some n/\M0 sb g C n:=by
 constructor
 .rintro⟨m,z⟩;have e:=und_at (p:=p) (g:=g) p.length (aR _);rw[gp] at e;have K:=(Kx z (λi D=>und_asc hp hg ht D) hC.Mk p 0 _ .root e).2;rw[z.1] at K;refine⟨m p.length,K,λj=>m (p.length+j),rfl,λj H=> ?_⟩;have w:=z.2 (p.length+j) (und_rch hp ht H);refine⟨?_,λq l=> ?_⟩
  .have N:=w.1;have Q:(jj (uG p g)).ty (p.length+j)=(jj g).ty j:=Rs;rw[Q] at N;exact N
  .refine w.2 (q.1,p.length+q.2) ?_;show _∈iN (uG p g) (p.length+j);rw[vH hp ht];exact aD.2 ⟨q,l,rfl⟩
 .rintro⟨n,hn,m,z⟩;refine⟨λi=>if i<p.length then M3 (jj C) p i else m (i-p.length),?_,λi D=> ?_⟩
  .by_cases h0:0<p.length
   .show(if 0<p.length then M3 (jj C) p 0 else _)=0;rw[aB h0];simp[M3,AZ]
   .show(if 0<p.length then M3 (jj C) p 0 else _)=0;rw[az h0];have e:p=[]:=lQ.1 af;subst e;have P:(0:Nat)=n:=by simpa[AZ] using hn
    show m 0=0;rw[z.1,P]
  .rcases N9 hp ht D with h|⟨j,rfl,H⟩
   .refine⟨?_,λq l=> ?_⟩
    .show sb (oB (uG p g) i) (oB C (if i<p.length then M3 (jj C) p i else _));rw[YT h,aB h];have S:=xm (λi _=>hC.vP i) _ 0 _ .root (Oo hn i);have:=hC.go.tp _ (hC.IL S);exact hT.top this.1 this.2
    .have l:q∈iN (uG p g) i:=l;rw[vG h] at l;simp at l;subst l;show(p[i],if i+1<p.length then M3 (jj C) p (i+1) else m (i+1-p.length))∈(jj C).sc (if i<p.length then M3 (jj C) p i else _);rw[aB h];have O:=Bu hC.Mk hn h;by_cases w:i+1<p.length
     .rw[aB w];exact O
     .rw[az w];have e:i+1=p.length:=af;rw[e,kD,z.1,<-IV hn,<-e];exact O
   .have w:=z.2 j H;refine⟨?_,λq l=> ?_⟩
    .show sb (oB (uG p g) (p.length+j)) (oB C (if p.length+j<p.length then _ else m (p.length+j-p.length)));rw[Rs,az af,nQ];exact w.1
    .have l:q∈iN (uG p g) (p.length+j):=l;rw[vH hp ht] at l;obtain⟨B,I,rfl⟩:=aD.1 l;show(B.1,if p.length+B.2<p.length then _ else m (p.length+B.2-p.length))∈(jj C).sc (if p.length+j<p.length then _ else m (p.length+j-p.length));rw[az af,az af,nQ,nQ];exact w.2 B I
end
end Go.Proofs.YthphfjcnkinkpaaGreatDoor.cl.pf
namespace Go.Proofs.YthphfjcnkinkpaaGreatDoor.cl.pf
open Go Go.AM
def Da (C:FSt) (n:Nat):FSt:=kj (jj C) C.ak.length n
section
variable {T F:Nat} {sb:Int->Int->Prop} (hT:TO T sb) {C:FSt} (hC:Can T F C) {n:Nat} (hn:n<C.ak.length)
include hC hn
theorem AF:Can T F (Da C n):=Vf hC.go hn
include hT
theorem WU:tK sb (jj (Da C n)) 0 (jj C) n (λi=>(iy (jj C) C.ak.length n).getD i n):=IW hC.go hn λl q=>hT.refl l q
theorem WS:tK sb (jj C) n (jj (Da C n)) 0 (λi=>(iy (jj C) C.ak.length n).idxOf i):=O1 hC.go hn λl q=>hT.refl l q
theorem Nv {g:FSt}:M0 sb g C n↔Le sb g (Da C n):=
 ⟨λ⟨m,h⟩=>⟨_,tK.comp (s1:=sb) (s2:=sb) (s3:=sb) (λh l=>hT.trans h l) h (WS hT hC hn)⟩,
  λ⟨m,h⟩=>⟨_,tK.comp (s1:=sb) (s2:=sb) (s3:=sb) (λh l=>hT.trans h l) h (WU hT hC hn)⟩⟩
theorem aal {q:List Int} {k:Nat} (e:AZ (jj C) n q=some k):oN (Da C n) q=some ((iy (jj C) C.ak.length n).idxOf k):=by have h:=WS hT hC hn;have:=(Kx h (λi _=>hC.vP i) (AF hC hn).Mk q n k .root e).2;have h0:(iy (jj C) C.ak.length n).idxOf n=0:=h.1;rw[h0] at this;exact this
theorem aam {q:List Int} {k:Nat} (e:oN (Da C n) q=some k):AZ (jj C) n q=some ((iy (jj C) C.ak.length n).getD k n):=by have h:=WU hT hC hn;have:=(Kx h (λi _=>(AF hC hn).vP i) hC.Mk q 0 k .root e).2;have h0:(iy (jj C) C.ak.length n).getD 0 n=n:=h.1;rw[h0] at this;exact this
end
def Gw:∀(l:List bJ),l.length<=dV l
 |[]=>cS _
 |x::l=>by have:=Gw l;have:=yJ x;rw[dV,bz];omega
section
variable {h:aJ} {t:List Template} {sb:Int->Int->Prop} {C C':FSt} {ρ ρ':ck->Nat} {R:Nat->List Int->List Int->Prop}
 (hR:∀n m p p' x,R n p p'->x.length+m<=n->R m (p++x) (p'++x)) (hTy:∀s n p p',R n p p'->JH h sb C s p->JH h sb C' s p')
 (hPut:∀x∈t,∀n p p',R n p p'->DN sb p x.gO C->DN sb p' x.gO C')
 (SY:∀s n p p',R n p p'->oN C p=some (ρ s)->oN C' p'=some (ρ' s))
 (hEq:∀n m p p' q q',R n p p'->R m q q'->EqS p q C->EqS p' q' C')
include hR hTy
theorem Vo:∀{l:List bJ},(∀x∈l,∀n p q,14 *iQ x<=n->R n p q->Sat h t sb C ρ x p->Sat h t sb C' ρ' x q)->∀n p q,14 *dV l+1<=n->R n p q->El h t sb C ρ l p->El h t sb C' ρ' l q
 |[],_,_,_,_,_,_,_=>by rw[El];trivial
 |x::l,w,n,p,q,hn,r,a=>by rw[dV] at hn;have:=yJ x;rw[El] at a⊢;exact⟨hTy _ _ _ _ r a.1,w x ai (14 *iQ x) _ _ (aR _) (hR _ _ _ _ _ r aH) a.2.1,Vo (l:=l) (λy z=>w y (by simp[z])) (14 *dV l+1) _ _ (aR _) (hR _ _ _ _ _ r aH) a.2.2⟩
theorem adW:∀{l:List bJ},(∀x∈l,∀n p q,14 *iQ x<=n->R n p q->Sat h t sb C ρ x p->Sat h t sb C' ρ' x q)->∀n p q,14 *dV l+1<=n->R n p q->RB h t sb C ρ l p->RB h t sb C' ρ' l q
 |[],_,_,_,_,_,_,_=>by rw[RB];trivial
 |x::l,w,n,p,q,hn,r,a=>by rw[dV] at hn;have:=yJ x;rw[RB] at a⊢;exact a.imp (λa=>⟨a.1,w x ai n _ _ af r a.2⟩) λa=>⟨a.1,hTy _ _ _ _ r a.2.1,w x ai (14 *iQ x) _ _ (aR _) (hR _ _ _ _ _ r aH) a.2.2.1,adW (l:=l) (λy z=>w y (by simp[z])) (14 *dV l+1) _ _ (aR _) (hR _ _ _ _ _ r aH) a.2.2.2⟩
include hPut SY hEq
theorem aea (d:bJ):gu Lg d->∀n p B,14 *iQ d<=n->R n p B->Sat h t sb C ρ d p->Sat h t sb C' ρ' d B:=by induction d using og with
 |h d q=>
  intro H n p B hn r a;have q:=λx l=>q x l (H.kids x l)
  have RC:=H.here.pl;have U:=H.here.kl;rw[DU] at hn;have z:∀x∈d.Kids,iQ x<=dV d.Kids:=λx l=>rf l
  have V:=Gw d.Kids;rw[uu] at a⊢;by_cases I:d.Op=1
  .rw[aB I] at a⊢;exact hTy _ _ _ _ r a
  rw[az I] at a⊢;by_cases K:d.Op=2
  .rw[aB K] at a⊢;obtain⟨i,x,e1,w,D⟩:=a;exact⟨i,x,e1,w,hPut x (aV w) _ _ _ r D⟩
  rw[az K] at a⊢;by_cases N:d.Op=3
  .rw[aB N] at a⊢;exact SY _ _ _ _ r a
  rw[az N] at a⊢;by_cases O:d.Op=4
  .rw[aB O,y9] at a⊢;exact λx l=>q x l n _ _ (by have:=z x l;omega) r (a x l)
  rw[az O] at a⊢;by_cases P:d.Op=5
  .rw[aB P,y9] at a⊢;exact λx l=>q x l (14 *iQ x) _ _ (aR _) (hR _ _ _ _ _ r (by have:=z x l;rw[bf];omega)) (a x l)
  rw[az P] at a⊢;by_cases Q:d.Op=6
  .rw[aB Q] at a⊢;exact⟨Vo hR hTy q n _ _ af r a.1,hTy _ 0 _ _ (hR _ _ _ _ _ r aH) a.2⟩
  rw[az Q] at a⊢;by_cases S:d.Op=7
  .rw[aB S] at a⊢;exact adW hR hTy q n _ _ af r a
  rw[az S] at a⊢;have w:R (14 *dV d.Kids+2) (lZ h p) (lZ h B):=hR _ _ _ _ _ r aH;have D:R 0 (e7 h (lZ h p) d.Kids.length) (e7 h (lZ h B) d.Kids.length):=hR _ _ _ _ _ w aH;exact⟨hTy _ _ _ _ r a.1,Vo hR hTy q _ _ _ af w a.2.1,hTy _ _ _ _ D a.2.2.1,hEq _ _ _ _ _ _ D (hR _ 0 _ _ _ r aH) a.2.2.2⟩
end
end Go.Proofs.YthphfjcnkinkpaaGreatDoor.cl.pf
namespace Go.Proofs.YthphfjcnkinkpaaGreatDoor.cl.pf
open Go Go.AM
def PG {ty:Int}:∀j,wV (iN ⟨[⟨ty,[]⟩]⟩ j):=λj=>by cases j with
 |zero=>exact wV.nil
 |succ j=>exact wV.nil
def Wu {ty:Int}:JG ⟨[⟨ty,[]⟩]⟩:=λx q a l=>by simp_all
def Ux {T F:Nat} {sb:Int->Int->Prop} (hT:TO T sb) {C:FSt} (hC:Can T F C) {ty:Int} {p:List Int} (hp:p.length<=1000000):DN sb p ⟨[⟨ty,[]⟩]⟩ C↔∃n,oN C p=some n/\sb ty (oB C n):=by
 show Le _ _ C↔_;rw[Md hT hp PG Wu hC];refine⟨λ⟨n,e,m,w⟩=>⟨n,e,?_⟩,λ⟨n,e,D⟩=>⟨n,e,λ_=>n,rfl,λi B=> ?_⟩⟩
 .have:=(w.2 0 .root).1;rw[w.1] at this;exact this
 .have z:i=0:=by
   cases B with
   |root=>rfl
   | @step n q hn l=>cases n with
    |zero=>cases l
    |succ n=>cases l
  subst z;exact⟨D,λq l=>by cases l⟩
def Xe {T F:Nat} {C:FSt} (hC:Can T F C) {p:List Int} {n:Nat} (e:oN C p=some n):n<C.ak.length:=hC.IL (xm (λi _=>hC.vP i) _ 0 _ .root e)
def at_add {C:FSt} {p q:List Int} {n:Nat} (e:oN C p=some n):oN C (p++q)=AZ (jj C) n q:=by grind[vQ]
section
variable {h:aJ} {t:List Template} {sb:Int->Int->Prop} {C:FSt} {ρ:ck->Nat}
def UY {p q:List Int} (l:∃n,oN C (p++q)=some n):∃n,oN C p=some n:=by grind[vQ,Option.bind_eq_some_iff]
variable {T F:Nat} (hT:TO T sb) (hC:Can T F C) (hts:∀x∈t,(∀j,wV (iN x.gO j))/\JG x.gO)
include hT hC hts
theorem sat_at (d:bJ):gu Lg d->∀p,p.length+14 *iQ d<=1000000->Sat h t sb C ρ d p->∃n,oN C p=some n:=by
 have H:∀{s p},p.length<=1000000->JH h sb C s p->∃n,oN C p=some n:=λhp a=>by obtain⟨n,e,_⟩:=(Ux hT hC hp).1 a;simp_all
 induction d using og with
 |h d V=>
  intro w p hp a;have S:=w.here.fm.op;have hc:=DU d;have Q:=Gw d.Kids;have hk:=w.here.pl;rw[uu] at a;by_cases o1:d.Op=1
  .grind
  rw[az o1] at a;by_cases K:d.Op=2
  .rw[aB K] at a;obtain⟨i,x,_,N,O⟩:=a;have I:=hts x (aV N);obtain⟨n,e,_⟩:=(Md hT af I.1 I.2 hC).1 O;simp_all
  rw[az K] at a;by_cases o3:d.Op=3
  .simp_all
  rw[az o3] at a;have first:∀q,p.length+60<=q+64->0<d.Kids.length->∀{p'},p'.length<=p.length+4->wR h t _ C _ _ _->∃n,oN C p'=some n:=λq _ h0 p' U a=>by have z:d.Kids[0]∈d.Kids:=bU _;have:=rf z;exact V _ z (w.kids _ z) _ af (y9.1 a _ z)
  by_cases B:d.Op=4
  .rw[aB B] at a;have:=w.here.fm.kd.an B;exact first p.length af af af a
  rw[az B] at a;by_cases D:d.Op=5
  .rw[aB D] at a;have:=w.here.fm.kd.one D;exact UY (first p.length af af (by simp_all) a)
  rw[az D] at a;by_cases o6:d.Op=6
  .rw[aB o6] at a;exact UY (H aH a.2)
  by_cases o7:d.Op=7
  .have P:=w.here.fm.kd.two o7;revert a P;cases d.Kids with
   |nil=>simp
   |cons x l=>grind[RB]
  grind
end
end Go.Proofs.YthphfjcnkinkpaaGreatDoor.cl.pf
namespace Go.Proofs.YthphfjcnkinkpaaGreatDoor.cl.pf
open Go Go.AM
def kO.thru {sc:Nat->List (Int×Nat)} {r k i:Nat} (h:kO sc r k) (l:kO sc k i):kO sc r i:=by induction l with
 |root=>exact h
 |step _ hp q=>exact q.step hp
def tK.from_ {sb:Int->Int->Prop} {G H:Gr} {r s:Nat} {m:Nat->Nat} (h:tK sb G r H s m) {k:Nat} (q:kO G.sc r k):tK sb G k H (m k) m:=⟨rfl,λi l=>h.2 i (q.thru l)⟩
section
variable {T F:Nat} {sb:Int->Int->Prop} (hT:TO T sb) {C:FSt} (hC:Can T F C) {p0:List Int} {n:Nat} (h0:oN C p0=some n)
include hT hC h0
theorem qJ {q:List Int}:(∀k,oN C (p0++q)=some k->kO (jj C).sc n k/\oN (Da C n) q=some ((iy (jj C) C.ak.length n).idxOf k))/\
  (∀k,oN (Da C n) q=some k->kO (jj (Da C n)).sc 0 k/\oN C (p0++q)=some ((iy (jj C) C.ak.length n).getD k n)):=by
 have hn:=Xe hC h0;have e:oN C _=AZ _ n q:=at_add h0;refine⟨λk l=> ?_,λk l=> ?_⟩
 .rw[e] at l;exact⟨xm (λi _=>hC.vP i) q n k .root l,aal hT hC hn l⟩
 .rw[e];exact⟨xm (λi _=>(AF hC hn).vP i) q 0 k .root l,aam hT hC hn l⟩
theorem Jh {q:List Int} {g:FSt} (K:p0.length+q.length<=1000000) (hg:∀j,wV (iN g j)) (ht:JG g):DN sb (p0++q) g C↔DN sb q g (Da C n):=by
 have hn:=Xe hC h0;have N:=AF hC hn;obtain⟨H,I⟩:=qJ (q:=q) hT hC h0;show Le sb (uG (p0++q) g) C↔Le sb (uG q g) (Da C n);rw[Md hT (by rw[bQ];exact K) hg ht hC,Md hT af hg ht N];constructor
 .rintro⟨k,B,m,D⟩;obtain⟨l,w⟩:=H k B;exact⟨_,w,_,tK.comp (s1:=sb) (s2:=sb) (s3:=sb) (λh z=>hT.trans h z) D ((WS hT hC hn).from_ l)⟩
 .rintro⟨k,B,m,D⟩;obtain⟨l,w⟩:=I k B;exact⟨_,w,_,tK.comp (s1:=sb) (s2:=sb) (s3:=sb) (λh z=>hT.trans h z) D ((WU hT hC hn).from_ l)⟩
theorem Yw {h:aJ} {t:List Template} (hts:∀x∈t,(∀j,wV (iN x.gO j))/\JG x.gO) {d:bJ} (K:gu Lg d) (I:p0.length+14 *iQ d<=1000000):
  (∃ρ,Sat h t sb C ρ d p0)↔∃ρ,Sat h t sb (Da C n) ρ d []:=by
 constructor
 .rintro⟨ρ,a⟩;refine⟨λs=>(iy (jj C) C.ak.length n).idxOf (ρ s),?_⟩;refine aea (R:=λm p w=>p=p0++w/\p.length+m<=1000000) (C:=C) (ρ:=ρ) ?_ ?_ ?_ ?_ ?_ d K (14 *iQ d) p0 [] (aR _) ⟨ai,I⟩ a
  .rintro B m p w x ⟨rfl,z⟩ l;exact⟨ai,by rw[bQ];omega⟩
  .rintro s B p w ⟨rfl,z⟩ l;exact(Jh hT hC h0 (by rw[bQ] at z;omega) PG Wu).1 l
  .rintro x D B p w ⟨rfl,z⟩ l;exact(Jh hT hC h0 (by rw[bQ] at z;omega) (hts x D).1 (hts x D).2).1 l
  .rintro s B p w ⟨rfl,z⟩ l;exact((qJ hT hC h0).1 _ l).2
  .rintro B m p w q N ⟨rfl,z⟩ ⟨rfl,l⟩ ⟨k,e1,H⟩;exact⟨_,((qJ hT hC h0).1 _ e1).2,((qJ hT hC h0).1 _ H).2⟩
 .rintro⟨ρ,a⟩;refine⟨λs=>(iy (jj C) C.ak.length n).getD (ρ s) n,?_⟩;refine aea (R:=λm p w=>w=p0++p/\w.length+m<=1000000) (C:=Da C n) (ρ:=ρ) ?_ ?_ ?_ ?_ ?_ d K (14 *iQ d) [] p0 (aR _) ⟨ai,I⟩ a
  .rintro B m p w x ⟨rfl,z⟩ l;exact⟨ai,by rw[bQ];omega⟩
  .rintro s B p w ⟨rfl,z⟩ l;exact(Jh hT hC h0 (by rw[bQ] at z;omega) PG Wu).2 l
  .rintro x D B p w ⟨rfl,z⟩ l;exact(Jh hT hC h0 (by rw[bQ] at z;omega) (hts x D).1 (hts x D).2).2 l
  .rintro s B p w ⟨rfl,z⟩ l;exact((qJ hT hC h0).2 _ l).2
  .rintro B m p w q N ⟨rfl,z⟩ ⟨rfl,l⟩ ⟨k,e1,H⟩;exact⟨_,((qJ hT hC h0).2 _ e1).2,((qJ hT hC h0).2 _ H).2⟩
end
end Go.Proofs.YthphfjcnkinkpaaGreatDoor.cl.pf
namespace Go.Proofs.YthphfjcnkinkpaaGreatDoor.cl.pf
open Go Go.AM
def FK {sc:Nat->List (Int×Nat)} {r a b:Nat} {fa z:Int} (B:sc r=[(fa,a),(z,b)]) {i:Nat} (h:kO sc r i):i=r\/kO sc a i\/kO sc b i:=by induction h with
 |root=>omega
 | @step n q _ l w=>
  rcases w with rfl|w|w
  .rw[B] at l;rcases aN.1 l with rfl|l
   .exact .inr (.inl .root)
   .rw[cz.1 l];exact .inr (.inr .root)
  .exact .inr (.inl (w.step l))
  .exact .inr (.inr (w.step l))
def S4 {sb:Int->Int->Prop} {G H:Gr} {r s a b e k:Nat} {fa K:Int} (B:G.sc r=[(fa,a),(K,b)]) (hd:∀i,kO G.sc a i->kO G.sc b i->False) (ha:¬kO G.sc a r) (hb:¬kO G.sc b r) (he:kO G.sc b e):
  (∃m,tK sb G r H s m/\m e=k)↔sb (G.ty r) (H.ty s)/\(∃n,(fa,n)∈H.sc s/\∃m,tK sb G a H n m)/\∃n,(K,n)∈H.sc s/\∃m,tK sb G b H n m/\m e=k:=by
 have ma:(fa,a)∈G.sc r:=by rw[B];simp
 have mb:(K,b)∈G.sc r:=by rw[B];simp
 constructor
 .rintro⟨m,h,S⟩;have z:=h.2 r .root;have e:=h.1;rw[e] at z;exact⟨z.1,⟨_,z.2 _ ma,m,h.from_ (.step .root ma)⟩,_,z.2 _ mb,m,h.from_ (.step .root mb),S⟩
 .rintro⟨z,⟨n,e1,U,O⟩,n2,e2,V,P,S⟩;have N:∃m:Nat->Nat,m r=s/\(∀i,kO G.sc a i->m i=U i)/\∀i,kO G.sc b i->m i=V i:=by
   classical
   refine⟨λi=>if i=r then s else if kO G.sc a i then U i else V i,by simp,λi l=> ?_,λi l=> ?_⟩
   .grind
   grind
  obtain⟨m,Q,D,I⟩:=N;refine⟨m,⟨Q,λi l=> ?_⟩,by simp_all⟩;rcases FK B l with rfl|l|l
  .rw[Q];refine⟨z,λq w=> ?_⟩;rw[B] at w;rcases aN.1 w with rfl|w
   .rw[D a .root,O.1];omega
   .rw[cz.1 w,I b .root,P.1];omega
  .rw[D i l];exact⟨(O.2 i l).1,λq w=>by rw[D _ (l.step w)];exact(O.2 i l).2 q w⟩
  .rw[I i l];exact⟨(P.2 i l).1,λq w=>by rw[I _ (l.step w)];exact(P.2 i l).2 q w⟩
def hom_two {sb:Int->Int->Prop} {G H:Gr} {r s a e:Nat} {fa D:Int} (B:G.sc r=[(fa,a),(D,e)]) (N:¬kO G.sc a r) (he:kO G.sc a e):
  (∃m,tK sb G r H s m)↔sb (G.ty r) (H.ty s)/\∃n k,(fa,n)∈H.sc s/\(D,k)∈H.sc s/\∃m,tK sb G a H n m/\m e=k:=by
 have K:(fa,a)∈G.sc r:=by rw[B];simp
 have O:(D,e)∈G.sc r:=by rw[B];simp
 constructor
 .rintro⟨m,h⟩;have w:=h.2 r .root;have e:=h.1;rw[e] at w;exact⟨w.1,_,_,w.2 _ K,w.2 _ O,m,h.from_ (.step .root K),rfl⟩
 .rintro⟨w,n,k,e1,P,m,I,Q⟩;have ne:∀{i},kO _ a i->i≠r:=λl e=>N (e▸l)
  refine⟨λi=>if i=r then s else m i,by simp,λi l=> ?_⟩;have sub:∀{i},kO _ a i->sb _ _/\∀q∈G.sc i,(q.1,if q.2=r then s else m _)∈H.sc _:=λ{i} l=>⟨(I.2 i l).1,λq z=>by rw[az (ne (l.step z))];exact(I.2 i l).2 q z⟩
  rcases FK B l with rfl|l|l
  .simp only;refine⟨w,λq z=> ?_⟩;rw[B] at z;rcases aN.1 z with rfl|z
   .rw[I.1];grind
   simp_all
  .simp_all
  .have l:=he.thru l;simp_all
def Y1 (G:Gr) (a:Nat) (f:FSt):Prop:=∀i,i<f.ak.length->G.ty (a+i)=oB f i/\G.sc (a+i)=(iN f i).map λp=>(p.1,a+p.2)
section
variable {T F:Nat} {sb:Int->Int->Prop} {G:Gr} {a:Nat} {f:FSt} (hf:Can T F f) (he:Y1 G a f)
include hf he
theorem Y1.Eo {x:Nat}:kO G.sc a x↔∃i,x=a+i/\kO (iN f) 0 i:=by
 constructor
 .intro h;induction h with
  |root=>exact⟨0,rfl, .root⟩
  | @step n p _ hp w=>obtain⟨i,rfl,l⟩:=w;rw[(he i (hf.IL l)).2] at hp;obtain⟨q,z,rfl⟩:=aD.1 hp;exact⟨_,rfl,l.step z⟩
 .rintro⟨i,rfl,l⟩;induction l with
  |root=>exact .root
  | @step n p hn hp w=>exact w.step (p:=(p.1,a+p.2)) (by rw[(he n (hf.IL hn)).2];simp_all)
theorem Y1.hom {H:Gr} {s:Nat}:(∃m,tK sb G a H s m)↔∃m,tK sb (jj f) 0 H s m:=by
 constructor
 .rintro⟨m,h⟩;refine⟨λi=>m (a+i),h.1,λi z=> ?_⟩;have l:=h.2 _ ((he.Eo hf).2 ⟨i,rfl,z⟩);have w:=he i (hf.IL z);rw[w.1,w.2] at l;exact⟨l.1,λp hp=>l.2 _ (aD.2 ⟨p,hp,rfl⟩)⟩
 .rintro⟨m,h⟩;refine⟨λx=>m (x-a),by show m _=s;rw[kD];exact h.1,λx D=> ?_⟩;obtain⟨i,rfl,z⟩:=(he.Eo hf).1 D;have l:=h.2 i z;have w:=he i (hf.IL z);show sb _ (H.ty (m _))/\∀p∈G.sc _,(p.1,m _)∈H.sc (m _);rw[w.1,w.2,nQ];refine⟨l.1,λp hp=> ?_⟩;obtain⟨q,B,rfl⟩:=aD.1 hp;rw[nQ];exact l.2 q B
end
abbrev Mz (r:Nat) (f g:FSt):Nat:=r+2+f.ak.length+g.ak.length
structure RK (G:Gr) (r:Nat) (f g:FSt) (co en fi re:Int):Prop where
 t0:G.ty r=co
 s0:G.sc r=[(fi,r+1),(re,r+1+f.ak.length)]
 ef:Y1 G (r+1) f
 t1:G.ty (r+1+f.ak.length)=co
 s1:G.sc (r+1+f.ak.length)=[(fi,r+2+f.ak.length),(re,Mz r f g)]
 eg:Y1 G (r+2+f.ak.length) g
 t2:G.ty (Mz r f g)=en
 s2:G.sc (Mz r f g)=[]
def IT (sb:Int->Int->Prop) (C f g:FSt) (co en fi re:Int) (s k:Nat):Prop:=
 sb co (oB C s)/\(∃n,(fi,n)∈iN C s/\M0 sb f C n)/\∃l,(re,l)∈iN C s/\sb co (oB C l)/\(∃n,(fi,n)∈iN C l/\M0 sb g C n)/\(re,k)∈iN C l/\sb en (oB C k)
def FM {sc:Nat->List (Int×Nat)} {r:Nat} (l:sc r=[]) {i:Nat} (h:kO sc r i):i=r:=by induction h with
 |root=>rfl
 | @step n p _ hp q=>simp_all
section
variable {T F:Nat} {sb:Int->Int->Prop} {G:Gr} {r:Nat} {f g:FSt} {co en fi re:Int} (L:RK G r f g co en fi re) (hf:Can T F f) (hg:Can T F g)
include L hf hg
theorem RK.end1:kO G.sc (r+1+f.ak.length) (Mz r f g):= .step (p:=(re,Mz r f g)) .root (by rw[L.s1];simp)
theorem RK.ge {i:Nat} (h:kO G.sc (r+1+f.ak.length) i):r+1+f.ak.length<=i:=by
 rcases FK L.s1 h with rfl|h|h
 .omega
 .obtain⟨j,rfl,_⟩:=(L.eg.Eo hg).1 h;omega
 .rw[FM L.s2 h];grind
theorem RK.end0:kO G.sc r (Mz r f g):=kO.thru (.step (p:=(re,r+1+f.ak.length)) .root (by rw[L.s0];simp)) (L.end1 hf hg)
theorem RK.ge0 {i:Nat} (h:kO G.sc r i):r<=i:=by
 rcases FK L.s0 h with rfl|h|h
 .omega
 .obtain⟨j,rfl,_⟩:=(L.ef.Eo hf).1 h;omega
 .have:=L.ge hf hg h;omega
theorem RK.hom {C:FSt} {s k:Nat}:(∃m,tK sb G r (jj C) s m/\m (Mz r f g)=k)↔IT sb C f g co en fi re s k:=by
 have leaf:∀{n},(∃m,tK _ G _ (jj C) n m/\m _=k)↔n=k/\sb _ _:=λ{n}=>by
  constructor
  .rintro⟨m,h,D⟩;have l:=(h.2 _ .root).1;rw[L.t2,D] at l;exact⟨h.1.symm.trans D,l⟩
  .rintro⟨rfl,K⟩;refine⟨λ_=>n,⟨rfl,λi I=> ?_⟩,rfl⟩;rw[FM L.s2 I,L.t2,L.s2];exact⟨K,λp hp=>by cases hp⟩
 rw[S4 L.s0 (λi l w=>by
   obtain⟨j,rfl,z⟩:=(L.ef.Eo hf).1 l;have:=L.ge hf hg w;have:=hf.IL z
   omega) (λh=>by obtain⟨j,e,_⟩:=(L.ef.Eo hf).1 h;omega) (λh=>by have:=L.ge hf hg h;omega) (L.end1 hf hg)]
 have q:∀B,(∃m,tK _ G _ _ B m/\m _=k)↔sb _ _/\(∃n,(fi,n)∈iN C _/\M0 _ g C n)/\(re,k)∈iN C _/\sb _ _:=λB=>by
  rw[S4 L.s1 (λi l w=>by
   obtain⟨j,rfl,z⟩:=(L.eg.Eo hg).1 l;have w:=FM L.s2 w;have:=hg.IL z
   simp_all) (λh=>by obtain⟨j,e,_⟩:=(L.eg.Eo hg).1 h;omega) (λh=>by
    have h:r+1+f.ak.length=r+2+f.ak.length+g.ak.length:=FM L.s2 h
    omega) .root,L.t1]
  refine and_congr jL (and_congr (exists_congr λn=>and_congr jL (L.eg.hom hg)) ?_);constructor
  .rintro⟨n,l,w⟩;obtain⟨rfl,H⟩:=leaf.1 w;exact⟨l,H⟩
  .exact λh=>⟨k,h.1,leaf.2 ⟨rfl,h.2⟩⟩
 rw[L.t0];exact and_congr jL (and_congr (exists_congr λn=>and_congr jL (L.ef.hom hf)) (exists_congr λB=>and_congr jL (q _)))
end
