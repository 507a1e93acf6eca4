/- Build. -/
import Derived.Test.YthphfjcnkinkpaaGreatDoorClUh
set_option linter.all false
open Go.IntKind (wrap)
open List (length)
namespace Go.Proofs.YthphfjcnkinkpaaGreatDoor.cl.pf
open Go Go.AM
def og {P:bJ->Prop} (h:∀d,(∀k∈d.Kids,P k)->P d):∀d,P d
 | .mk a b c l=>h _ λk q=>og h k
termination_by d=>SizeOf.sizeOf d
decreasing_by
 have:=List.sizeOf_lt_of_mem q;simp only[bJ.Kids,bJ.mk.sizeOf_spec] at *;omega
inductive gu (P:bJ->Prop):bJ->Prop
 |mk (d:bJ):P d->(∀k∈d.Kids,gu P k)->gu P d
def gu.here {P:bJ->Prop} {d:bJ} (h:gu P d):P d:=by cases h;assumption
def gu.kids {P:bJ->Prop} {d:bJ} (h:gu P d):∀k∈d.Kids,gu P k:=by cases h;assumption
def gu.imp {P Q:bJ->Prop} (h:∀d,P d->Q d) {d:bJ} (q:gu P d):gu Q d:=by induction q with
 |mk d l _ w=>exact .mk d (h d l) w
def gu.and {P Q:bJ->Prop}:∀{d:bJ},gu P d->gu Q d->gu (λd=>P d/\Q d) d:=by intro d;induction d using og with
 |h d z=>exact λq w=> .mk d ⟨q.here,w.here⟩ λk l=>z k l (q.kids k l) (w.kids k l)
mutual
def iQ:bJ->Nat
 | .mk _ _ _ l=>1+dV l
def dV:List bJ->Nat
 |[]=>0
 |x::l=>iQ x+dV l
end
def DU (d:bJ):iQ d=1+dV d.Kids:=by cases d;simp[iQ,bJ.Kids]
def h511 {w:bJ} (I:w.Kids.length<=1073741824) (q:∀k∈w.Kids,∃b,f511 k=some b/\(b=true->gu (λd=>d.Path.length<=4) k)):∀(xs:List bJ) (i:Nat),w.Kids.drop i=xs->∃b,QY i w=some b/\(b=true->∀k∈xs,gu (λd=>d.Path.length<=4) k):=by intro xs;induction xs with
 |nil=>intro i l;exact⟨true,VU (by rw[bp l,aA]),λ_ k q=>by cases q⟩
 |cons x xs L=>
  intro i l;have K:x∈w.Kids:=by
   have:x∈w.Kids.drop i:=by rw[l];exact gm ..
   exact iY this
  obtain⟨b,e,h⟩:=q x K;obtain⟨z,B,D⟩:=L (i+1) (aI l);cases b with
  |false=>exact⟨false,VU (by rw[aT l,au,aK l,e,aj,fN,au]),λh=>by cases h⟩
  |true=>
   refine⟨z,VU (by rw[aT l,au,aK l,e,aj,dM,aA,aQ l I];exact B),λG k q=> ?_⟩;rcases aN.1 q with rfl|q
   .exact h rfl
   .exact D G k q
def c511 (d:bJ):gu (λd=>d.Kids.length<=1073741824) d->∃b,f511 d=some b/\(b=true->gu (λd=>d.Path.length<=4) d):=by induction d using og with
 |h d z=>
  intro q;by_cases B:d.Path.length>4
  .exact⟨false,e511 (by rw[cond_pos (by rw[bA];omega)]),λh=>by cases h⟩
  .obtain⟨b,e,h⟩:=h511 q.here (λk l=>z k l (q.kids k l)) d.Kids 0 rfl;exact⟨b,e511 (by rw[cond_neg (by rw[aS];omega)];exact e),λw=> .mk d af (h w)⟩
structure Lt1 (most:Nat) (d:bJ):Prop where
 nm:d.Name.length<=60
 pl:d.Path.length<=80
 ps:∀s∈d.Path,s.length<=60
 kl:d.Kids.length<=most
def WTd (most:Nat) (l:Nat) (d:bJ):Prop:=∃r:Nat,f524 d l most=some (r:Int)/\1<=r/\r<=(82-l) *most+1/\(r<=most->iQ d=r/\gu (Lt1 most) d)
def h524p {deep most:Nat} {d:bJ} (L:most<=1000) (K:d.Path.length<=80) {q:Nat->Prop} (B:∃r:Nat,Gb deep most 1 0 d=some (r:Int)/\q r) (G:q (most+1)):∀(xs:List (List UInt8)) (i:Nat),d.Path.drop i=xs->∃r:Nat,Rf deep most i d=some (r:Int)/\q r/\(r<=most->∀s∈xs,s.length<=60):=by intro xs;induction xs with
 |nil=>intro i l;obtain⟨r,e,h⟩:=B;exact⟨r,VX (by rw[bp l,aA];exact e),h,λ_ s w=>by cases w⟩
 |cons x xs I=>
  intro i l;obtain⟨r,e,h,z⟩:=I (i+1) (aI l);by_cases N:x.length>60
  .exact⟨most+1,VX (by rw[aT l,au,aK l,cond_pos (by rw[bA];omega),bM af]),G,λh=>by omega⟩
  .refine⟨r,VX (by rw[aT l,au,aK l,cond_neg (by rw[aS];omega),aQ l af];exact e),h,λD s w=> ?_⟩;rcases aN.1 w with rfl|w
   .omega
   .exact z D s w
def h524k {deep most:Nat} {d:bJ} (K:most<=1000) (D:deep<=80) (hl:d.Kids.length<=most) (q:∀k∈d.Kids,WTd most (deep+1) k):∀(xs:List bJ) (i n:Nat),d.Kids.drop i=xs->1<=n->n<=(82-deep) *most+1->
  ∃r:Nat,Gb deep most n i d=some (r:Int)/\1<=r/\r<=(82-deep) *most+1/\(r<=most->r=n+dV xs/\∀k∈xs,gu (Lt1 most) k):=by
 have G:(82-(deep+1)) *most+most=(82-deep) *most:=by rw[show 82-deep=(82-(deep+1))+1 from by omega,jQ,Nat.one_mul]
 have B:(82-deep) *most<=82 *1000:=nP af K;intro xs;induction xs with
 |nil=>intro i n l w z;exact⟨n,Pk (by rw[bp l,aA]),w,z,λ_=>⟨by simp[dV],λk q=>by cases q⟩⟩
 |cons x xs O=>
  intro i n l w z;by_cases hn:n<=most
  .have N:x∈d.Kids:=by
    have:x∈d.Kids.drop i:=by rw[l];exact gm ..
    exact iY this
   obtain⟨y,e,y1,y2,V⟩:=q x N;obtain⟨r,I,R,S,U⟩:=O (i+1) (n+y) (aI l) af af;refine⟨r,Pk ?_,R,S,λL=> ?_⟩
   .rw[aT l,au,cond_pos (by rw[bA];omega),aK l,bM af,e,aj,aQ l af,Ry (x:=(n:Int)+(y:Int)) af af];exact I
   .obtain⟨P,Q⟩:=U L;obtain⟨z1,z2⟩:=V af;refine⟨by rw[P,dV,z1];omega,λk q=> ?_⟩;rcases aN.1 q with rfl|q
    .exact z2
    .exact Q k q
  .exact⟨n,Pk (by rw[aT l,au,cond_neg (by rw[aS];omega)]),w,z,λh=>by omega⟩
def c524 {most:Nat} (z:most<=1000) (d:bJ):∀deep:Nat,deep<=81->WTd most deep d:=by induction d using og with
 |h d K=>
  intro deep G;have q:wrap .i64 ((most:Int)+1)=((most+1:Nat):Int):=bM af;have w:most *1<=(82-deep) *most:=by rw[Nat.mul_comm];exact nP af (aR _)
  by_cases h1:deep>80
  .exact⟨most+1,e524 (by rw[cond_pos (by rw[bA];omega),q]),by omega,by omega,λh=>by omega⟩
  by_cases h2:d.Name.length>60
  .exact⟨most+1,e524 (by rw[cond_neg (by rw[aS];omega),cond_pos (by rw[bA];omega),q]),by omega,by omega,λh=>by omega⟩
  by_cases h3:d.Path.length>80
  .exact⟨most+1,e524 (by rw[cond_neg (by rw[aS];omega),cond_neg (by rw[aS];omega),cond_pos (by rw[bA];omega),q]),by omega,by omega,λh=>by omega⟩
  by_cases h4:d.Kids.length>most
  .exact⟨most+1,e524 (by rw[cond_neg (by rw[aS];omega),cond_neg (by rw[aS];omega),cond_neg (by rw[aS];omega),cond_pos (by rw[bA];omega),q]),by omega,by omega,λh=>by omega⟩
  obtain⟨r,e,S,U,V⟩:=h524k z af af (λk I=>K k I (deep+1) af) d.Kids 0 1 rfl af af;obtain⟨l,D,⟨L,N,O⟩,P⟩:=h524p (deep:=deep) z af (q:=λl=>1<=l/\l<=(82-deep) *most+1/\(l<=most->l=1+dV d.Kids/\∀k∈d.Kids,gu (Lt1 most) k)) ⟨r,e,S,U,V⟩ ⟨af,by omega,λh=>by omega⟩ d.Path 0 rfl;refine⟨l,e524 (by rw[cond_neg (by rw[aS];omega),cond_neg (by rw[aS];omega),cond_neg (by rw[aS];omega),cond_neg (by rw[aS];omega)];exact D),L,N,λB=> ?_⟩;obtain⟨Q,R⟩:=O B;exact⟨by rw[DU,Q], .mk d ⟨af,by omega,P B,af⟩ R⟩
def c509 {most:Nat} (l:most<=1000) (d:bJ):∃b,f509 d most=some b/\(b=true->iQ d<=most/\gu (Lt1 most) d):=by obtain⟨r,e,B,D,w⟩:=c524 l d 1 af;refine⟨decide ((r:Int)<=(most:Int)),e509 (by rw[show f524 d 1 most=some (r:Int) from e];rfl),λh=> ?_⟩;have h:(r:Int)<=most:=lU h;obtain⟨z,q⟩:=w af;exact⟨af,q⟩
end Go.Proofs.YthphfjcnkinkpaaGreatDoor.cl.pf
namespace Go.Proofs.YthphfjcnkinkpaaGreatDoor.cl.pf
open Go Go.AM
def Zi (op:Int):f545 op=some (op==1||op==2||op==3):=by grind[e545]
structure Kd (d:bJ):Prop where
 leaf:d.Op=1\/d.Op=2\/d.Op=3->d.Kids.length=0
 one:d.Op=5->d.Kids.length=1
 two:d.Op=7->2<=d.Kids.length
 an:d.Op=4->2<=d.Kids.length
def h554 {d:bJ} (z:d.Kids.length<=1073741824):∀(xs:List bJ) (i:Nat),d.Kids.drop i=xs->∃b,CX d.Kids.length i d=some b/\(b=true->2<=d.Kids.length):=by intro xs;induction xs with
 |nil=>intro i l;exact⟨_,Pq (by rw[bp l,aA]),λh=>(by
   have h:(d.Kids.length:Int)>=2:=by simpa using h
   omega)⟩
 |cons x xs B=>
  intro i l;obtain⟨b,e,w⟩:=B (i+1) (aI l);by_cases q:x.Op=4
  .exact⟨false,Pq (by rw[aT l,au,aK l,cond_pos (by rw[q];rfl)]),λh=>by cases h⟩
  .exact⟨b,Pq (by rw[aT l,au,aK l,cond_neg (by simpa using q),aQ l z];exact e),w⟩
def c554 {d:bJ} (K:d.Kids.length<=1073741824):∃b,f554 d=some b/\(b=true->Kd d):=by
 by_cases l:d.Op=1
 .refine⟨_,e554 (by rw[cond_pos (by rw[l];rfl),cond_pos (by rw[l];rfl)]),λh=> ?_⟩;have h:(d.Kids.length:Int)=0:=by simpa using h
  exact⟨λ_=>by omega,λh=>by omega,λh=>by omega,λh=>by omega⟩
 by_cases q:d.Op=2
 .refine⟨_,e554 (by rw[cond_neg (by simpa using l),cond_pos (by rw[q];rfl),cond_pos (by rw[q];rfl)]),λh=> ?_⟩;have h:(d.Kids.length:Int)=0:=by simpa using h
  exact⟨λ_=>by omega,λh=>by omega,λh=>by omega,λh=>by omega⟩
 by_cases w:d.Op=3
 .refine⟨_,e554 (by rw[cond_neg (by simpa using l),cond_neg (by simpa using q),cond_pos (by rw[w];rfl)]),λh=> ?_⟩;have h:(d.Kids.length:Int)=0:=by simpa using h
  exact⟨λ_=>by omega,λh=>by omega,λh=>by omega,λh=>by omega⟩
 by_cases z:d.Op=5
 .refine⟨_,e554 (by rw[cond_neg (by simpa using l),cond_neg (by simpa using q),cond_neg (by simpa using w),cond_pos (by rw[z];rfl)]),λh=> ?_⟩;have h:(d.Kids.length:Int)=1:=by simpa using h
  exact⟨λh=>by omega,λ_=>by omega,λh=>by omega,λh=>by omega⟩
 by_cases B:d.Op=7
 .refine⟨_,e554 (by rw[cond_neg (by simpa using l),cond_neg (by simpa using q),cond_neg (by simpa using w),cond_neg (by simpa using z),cond_pos (by rw[B];rfl)]),λh=> ?_⟩;have h:(d.Kids.length:Int)>=2:=by simpa using h
  exact⟨λh=>by omega,λh=>by omega,λ_=>by omega,λh=>by omega⟩
 by_cases D:d.Op=4
 .obtain⟨b,e,G⟩:=h554 K d.Kids 0 rfl;exact⟨b,e554 (by rw[cond_neg (by simpa using l),cond_neg (by simpa using q),cond_neg (by simpa using w),cond_neg (by simpa using z),cond_neg (by simpa using B),cond_pos (by rw[D];rfl)];exact e),λI=>⟨λh=>by omega,λh=>by omega,λh=>by omega,λ_=>G I⟩⟩
 .exact⟨true,e554 (by rw[cond_neg (by simpa using l),cond_neg (by simpa using q),cond_neg (by simpa using w),cond_neg (by simpa using z),cond_neg (by simpa using B),cond_neg (by simpa using D)]),λ_=>⟨λh=>by omega,λh=>by omega,λh=>by omega,λh=>by omega⟩⟩
def h538 {d:bJ} (w:d.Kids.length<=1073741824) (z:d.Path.length<=1073741824):∀(xs:List (List UInt8)) (i:Nat),d.Path.drop i=xs->∃b,L7 i d=some b/\(b=true->Kd d):=by intro xs;induction xs with
 |nil=>intro i l;obtain⟨b,e,h⟩:=c554 w;exact⟨b,VZ (by rw[bp l,aA,e,aj]),h⟩
 |cons x xs B=>intro i l;obtain⟨b,e,h⟩:=B _ (aI l);cases q:wq x with
  |false=>exact⟨_,VZ (by rw[aT l,au,aK l,c372,q,aj,fN,au]),λh=>by cases h⟩
  |true=>exact⟨b,VZ (by rw[aT l,au,aK l,c372,q,aj,dM,aA,aQ l z];exact e),h⟩
def pth {d:bJ} (h:(!((d.Op==5)==(decide ((length d.Path:Int)>0))))=false) (q:d.Op≠5):d.Path=[]:=by rw[show(d.Op==5)=false by simpa using q] at h;cases w:d.Path with
 |nil=>rfl
 |cons x l=>rw[w,show decide ((length (x::l):Int)>0)=true from qa (by rw[bz];omega)] at h;cases h
def c538 {d:bJ} (D:d.Kids.length<=1073741824) (G:d.Path.length<=1073741824):∃b,f538 d=some b/\(b=true->Kd d/\(d.Op≠5->d.Path=[])):=by obtain⟨b,e,h⟩:=h538 D G d.Path 0 rfl;cases q: !((d.Op==1||d.Op==2||d.Op==3)==isName d.Name) with
 |true=>exact⟨false,e538 (by rw[Zi,aj,JY,aj,q,au]),λh=>by cases h⟩
 |false=>cases w:(d.Op==1||d.Op==2||d.Op==3) with
  |false=>cases z: !(d.Name==([]:List UInt8)) with
   |true=>exact⟨false,e538 (by rw[Zi,aj,JY,aj,q,aA,aj,w,fN,au,z,au]),λh=>by cases h⟩
   |false=>cases l: !((d.Op==5)==(decide ((length d.Path:Int)>0))) with
    |true=>exact⟨false,e538 (by rw[Zi,aj,JY,aj,q,aA,aj,w,fN,au,z,aA,l,au]),λh=>by cases h⟩
    |false=>exact⟨b,e538 (by rw[Zi,aj,JY,aj,q,aA,aj,w,fN,au,z,aA,l,aA];exact e),λB=>⟨h B,pth l⟩⟩
  |true=>cases l: !((d.Op==5)==(decide ((length d.Path:Int)>0))) with
   |true=>exact⟨false,e538 (by rw[Zi,aj,JY,aj,q,aA,aj,w,dM,aA,l,au]),λh=>by cases h⟩
   |false=>exact⟨b,e538 (by rw[Zi,aj,JY,aj,q,aA,aj,w,dM,aA,l,aA];exact e),λB=>⟨h B,pth l⟩⟩
structure Fm (d:bJ):Prop where
 op:1<=d.Op/\d.Op<=8
 kd:Kd d
 pl:d.Path.length<=64
 kl:d.Kids.length<=256
 ph:d.Op≠5->d.Path=[]
def h525 {d:bJ} {inner:Nat} (L:d.Kids.length<=256) (q:∀k∈d.Kids,∃r,f525 k inner=some r/\(r=0->gu Fm k)):∀(xs:List bJ) (i:Nat),d.Kids.drop i=xs->∃r,AN inner i d=some r/\(r=0->∀k∈xs,gu Fm k):=by intro xs;induction xs with
 |nil=>intro i l;exact⟨0,Pm (by rw[bp l,aA]),λ_ k q=>by cases q⟩
 |cons x xs B=>
  intro i l;have z :=by
   have:x∈d.Kids.drop i:=by rw[l];exact gm ..
   exact iY this
  obtain⟨r,e,h⟩:=q x z;obtain⟨D,G,K⟩:=B _ (aI l);by_cases w:r=0
  .refine⟨D,Pm (by rw[aT l,au,aK l,e,aj,cond_neg (by simp_all),aQ l af];omega),λI k q=> ?_⟩;grind
  .exact⟨r,Pm (by rw[aT l,au,aK l,e,aj,cond_pos (by simp_all)]),λh=>absurd h w⟩
def c525 (d:bJ):∀level:Nat,level<=65->∃r,f525 d level=some r/\(r=0->gu Fm d):=by induction d using og with
 |h d D=>
  intro level G;by_cases K:level>64
  .exact⟨7,e525 (by rw[cond_pos (by rw[bA];omega)]),λh=>by omega⟩
  by_cases L:d.Path.length>64
  .exact⟨7,e525 (by rw[cond_neg (by rw[aS];omega),cond_pos (by rw[bA];omega)]),λh=>by omega⟩
  by_cases N:d.Kids.length>256
  .exact⟨7,e525 (by rw[cond_neg (by rw[aS];omega),cond_neg (by rw[aS];omega),cond_pos (by rw[bA];omega)]),λh=>by omega⟩
  by_cases O:d.Op<1
  .exact⟨14,e525 (by rw[cond_neg (by rw[aS];omega),cond_neg (by rw[aS];omega),cond_neg (by rw[aS];omega),cond_pos (by rw[bA];omega)]),λh=>by omega⟩
  by_cases P:d.Op>8
  .exact⟨14,e525 (by rw[cond_neg (by rw[aS];omega),cond_neg (by rw[aS];omega),cond_neg (by rw[aS];omega),cond_neg (by rw[aS];omega),cond_pos (by rw[bA];omega)]),λh=>by omega⟩
  obtain⟨b,e,B⟩:=c538 (d:=d) af af
  have pre:∀r,(bif !b then some 1 else bif d.Op==4 then AN level 0 d else AN (wrap .i64 ((level:Int)+1)) 0 d)=some r->f525 d level=some r:=λr I=>e525 (by
   rw[cond_neg (by rw[aS];omega),cond_neg (by rw[aS];omega),cond_neg (by rw[aS];omega),cond_neg (by rw[aS];omega),cond_neg (by rw[aS];omega),e,aj]
   exact I)
  cases b with
  |false=>exact⟨1,pre 1 (by rw[fN,au]),λh=>by omega⟩
  |true=>
   have hF:Fm d:=⟨⟨af,af⟩,(B rfl).1,by omega,by omega,(B rfl).2⟩
   by_cases z:d.Op=4
   .obtain⟨r,l,h⟩:=h525 (inner:=level) af (λk w=>D k w level af) d.Kids 0 rfl;exact⟨r,pre r (by rw[dM,aA,cond_pos (by simpa using z)];exact l),λq=> .mk d hF (h q)⟩
   .obtain⟨r,l,h⟩:=h525 (inner:=level+1) af (λk w=>D k w (level+1) af) d.Kids 0 rfl;exact⟨r,pre r (by rw[dM,aA,cond_neg (by simpa using z),bM af];exact l),λq=> .mk d hF (h q)⟩
def c510 (d:bJ):∃r,f510 d=some r/\(r=0->gu Fm d):=by obtain⟨r,e,h⟩:=c525 d 1 af;simp_all[e510]
structure LD (d:bJ):Prop where
 cnt:iQ d<=12
 lt:gu (Lt1 12) d
 fm:gu Fm d
 sh:gu (λd=>d.Path.length<=4) d
def c503 (d:bJ):∃b,f503 d=some b/\(b=true->LD d):=by obtain⟨b,e,h⟩:=c509 (most:=12) af d;cases b with
 |false=>simp_all[e503]
 |true=>
  obtain⟨q,l⟩:=h rfl;obtain⟨r,G,w⟩:=c510 d;by_cases D:r=0
  .obtain⟨b,I,z⟩:=c511 d (l.imp λd h=>by have:=h.kl;omega);exact⟨b,e503 (by simp_all),λB=>⟨q,l,w D,z B⟩⟩
  simp_all[e503,cond_neg]
structure Y4 (x:Def):Prop where
 nm:isName x.Name=true
 st:LD x.gO
 df:∀y∈x.eX,LD y
 dl:x.eX.length<=3
def h523 {x:Def} (I:x.eX.length<=3):∀(xs:List bJ) (i:Nat),x.eX.drop i=xs->∃b,Re i x=some b/\(b=true->∀y∈xs,LD y):=by intro xs;induction xs with
 |nil=>intro i l;exact⟨_,VW (by rw[bp l,aA]),λ_ k q=>by cases q⟩
 |cons y xs z=>intro i l;obtain⟨b,e,h⟩:=c503 y;obtain⟨w,B,D⟩:=z _ (aI l);cases b with
  |false=>exact⟨_,VW (by rw[aT l,au,aK l,e,aj,fN,au]),λh=>by cases h⟩
  |true=>refine⟨w,VW (by rw[aT l,au,aK l,e,aj,dM,aA,aQ l af];omega),λG k q=> ?_⟩;grind
def c523 (x:Def):∃b,f523 x=some b/\(b=true->Y4 x):=by cases l:isName x.Name with
 |false=>simp_all[e523,JY]
 |true=>
  by_cases D:x.eX.length>3
  .exact⟨_,e523 (by rw[JY,l,aj,dM,aA,cond_pos (by grind)]),λh=>by cases h⟩
  obtain⟨b,e,q⟩:=c503 x.gO;cases b with
  |false=>simp_all[e523,JY]
  |true=>obtain⟨b,B,w⟩:=h523 (x:=x) af _ 0 rfl;exact⟨b,e523 (by rw[JY,l,aj,dM,aA,cond_neg (by grind),e,aj,dM,aA];omega),λz=>⟨l,q rfl,w z,af⟩⟩
def h502 {l:List Def} (K:l.length<=4):∀(xs:List Def) (i:Nat),l.drop i=xs->∃b,QX l i=some b/\(b=true->∀y∈xs,Y4 y):=by intro xs;induction xs with
 |nil=>intro i q;exact⟨_,VS (by rw[bp q,aA]),λ_ k w=>by cases w⟩
 |cons y xs B=>intro i q;obtain⟨b,e,h⟩:=c523 y;obtain⟨z,D,G⟩:=B _ (aI q);cases b with
  |false=>exact⟨_,VS (by rw[aT q,au,aK q,e,aj,fN,au]),λh=>by cases h⟩
  |true=>refine⟨z,VS (by rw[aT q,au,aK q,e,aj,dM,aA,aQ q af];omega),λI k w=> ?_⟩;grind
def c502 (l:List Def):∃b,f502 l=some b/\(b=true->l.length<=4/\∀y∈l,Y4 y):=by
 by_cases h:l.length>4
 .exact⟨false,e502 (by grind),λh=>by cases h⟩
 obtain⟨b,e,q⟩:=h502 af l 0 rfl;exact⟨b,e502 (by grind),λw=>⟨af,q w⟩⟩
end Go.Proofs.YthphfjcnkinkpaaGreatDoor.cl.pf
namespace Go.Proofs.YthphfjcnkinkpaaGreatDoor.cl.pf
open Go Go.AM
def halfI {i j:Nat} (h:i+j<=2097152):wrap .i64 (Int.fdiv (wrap .u64 (wrap .i64 ((i:Int)+(j:Int)))) (2^ min (Int.toNat 1) (IntKind.bits .u64)))=(((i+j) / 2:Nat):Int):=by
 have e1:wrap .i64 ((i:Int)+(j:Int))=((i+j:Nat):Int):=by rw[gi af af];omega
 have l:wrap .u64 ((i+j:Nat):Int)=((i+j:Nat):Int):=xT af;have q:(2^ min (Int.toNat 1) (IntKind.bits .u64):Int)=2:=by rfl
 rw[e1,l,q,Int.fdiv_eq_ediv_of_nonneg _ af];rw[gi af af];omega
def Xl (a b:ck):decide (Mt a b<0)=Op.bytesLess a b:=by unfold Mt;cases Op.bytesLess a b with
 |true=>rfl
 |false=>cases a==b<;>rfl
def cmpS_eq {a b:ck} (h:Op.bytesLess a b=false):(Mt a b==0)=(a==b):=by unfold Mt;rw[h];cases a==b<;>rfl
def Mo (t:List Template):Prop:=t.Pairwise λa b=>Op.bytesLess a.Name b.Name=true
def Mo.lt {t:List Template} (h:Mo t) {i j:Nat} {x y:Template} (z:t[i]? =some x) (B:t[j]? =some y) (l:i<j):Op.bytesLess x.Name y.Name=true:=by obtain⟨q,rfl⟩:=bP.1 z;obtain⟨w,rfl⟩:=bP.1 B;exact nM.1 h i j q w l
def h540 {t:List Template} (K:Mo t) (U:t.length<=1000) (s:ck):∀(n i j:Nat),j-i=n->i<=j->j<=t.length->(∀k x,k<i->t[k]? =some x->Op.bytesLess x.Name s=true)->(∀k x,j<=k->t[k]? =some x->Op.bytesLess x.Name s=false)->
  ∃(k:Nat) (b:Bool),L8 t s t.length i j=some ((k:Int),b)/\(b=true->∃x,t[k]? =some x/\x.Name=s)/\(b=false->∀x∈t,x.Name≠s):=by
 intro n;induction n using Nat.strongRecOn with
 |_ n O=>
  intro i j V Q R B z;by_cases S:i<j
  .have L:(i+j) / 2<t.length:=af;have q:=aM L;cases e:Op.bytesLess t[(i+j) / 2].Name s with
   |true=>
    obtain⟨k,b,G,I⟩:=O (j-((i+j) / 2+1)) af ((i+j) / 2+1) j rfl af R (λk x w l=>by
     by_cases h:k=(i+j) / 2
     .subst h;rw[q] at l;cases l;exact e
     .exact vS _ _ _ (K.lt l q af) e) z
    refine⟨k,b,Pn ?_,I⟩;rw[cond_pos (by rw[bA];omega),bW (by decide),halfI af,cH L,c556,aj,Xl,e,au,bM af];exact G
   |false=>
    obtain⟨k,b,G,I⟩:=O ((i+j) / 2-i) af i ((i+j) / 2) rfl af af B (λk x w l=>by
     by_cases h:k=(i+j) / 2
     .subst h;rw[q] at l;cases l;exact e
     .cases P:Op.bytesLess x.Name s with
      |false=>rfl
      |true=>rw[vS _ _ _ (K.lt q l af) P] at e;cases e)
    refine⟨k,b,Pn ?_,I⟩;rw[cond_pos (by rw[bA];omega),bW (by decide),halfI af,cH L,c556,aj,Xl,e,aA];exact G
  .have e:i=j:=af;subst e;by_cases N:i<t.length
   .have q:=aM N;refine⟨i,t[i].Name==s,Pn ?_,λD=>⟨_,q,by simpa using D⟩,λD x l e=> ?_⟩
    .rw[cond_neg (by rw[aS];omega),cond_pos (by rw[bA];omega),cH N,c556,aj,cmpS_eq (z i _ (aR _) q)]
    .obtain⟨k,w⟩:=jJ.1 l;rcases zM k i with h|h|h
     .exact JW (B k x h w) e
     .subst h;rw[q] at w;cases w;simp[e] at D
     .have:=K.lt q w h;rw[e,z i _ (aR _) q] at this;cases this
   .refine⟨i,false,Pn ?_,λD=>(by cases D),λ_ x l e=> ?_⟩
    .rw[cond_neg (by rw[aS];omega),cond_neg (by rw[aS];omega)]
    .obtain⟨k,w⟩:=jJ.1 l;exact JW (B k x (by have:=(bP.1 w).1;omega) w) e
abbrev tpos (t:List Template) (s:ck):Int:=sQ (λx=>x.Name==s) t 0
def tfind {t:List Template} (B:Mo t) (Q:t.length<=1000) (s:ck):∃(k:Nat) (b:Bool),(∀K I A D,SB s K I t A D=some (((k:Int),b),A,D))/\
  ((b=true/\tpos t s=k/\∃x,t[k]? =some x/\x.Name=s)\/(b=false/\tpos t s= -1)):=by
 obtain⟨k,b,O,L,P⟩:=h540 B Q s t.length 0 t.length af af (aR _) (λk x N=>absurd N af) (λk x N R=>by have:=(bP.1 R).1;omega);refine⟨k,b,λK I A D=>e528a (by rw[e540 O,aj]),?_⟩;rcases pg (λx:Template=>x.Name==s) t 0 with⟨G,w⟩|⟨j,x,G,w,z,S⟩
 .cases b with
  |true=>obtain⟨x,l,q⟩:=L rfl;have:=w x (aV l);simp[q] at this
  |false=>exact .inr ⟨rfl,G⟩
 .have z:x.Name=s:=by simpa using z
  cases b with
  |false=>exact(P rfl x (aV w) z).elim
  |true=>
   obtain⟨y,l,q⟩:=L rfl;refine .inl ⟨rfl,?_,y,l,q⟩
   have:j=k:=by
    rcases zM j k with h|h|h
    .exact(JW (B.lt w l h) (by rw[z,q])).elim
    .exact h
    .exact(JW (B.lt l w h) (by rw[z,q])).elim
   exact G.trans (by rw[this,eF])
structure Hi (t u:List Template):Prop where
 vP:Mo u
 len:u.length<=1000
 same:∀s,(tpos t s= -1/\tpos u s= -1)\/∃(i j:Nat) (x:Template),tpos t s=i/\t[i]? =some x/\tpos u s=j/\u[j]? =some x
theorem Hi.refl {t:List Template} (h:Mo t) (w:t.length<=1000):Hi t t:=⟨h,w,λs=>by
 rcases pg (λx:Template=>x.Name==s) t 0 with⟨l,_⟩|⟨j,x,l,q,_⟩
 .exact .inl ⟨l,l⟩
 .rw[eF] at l
  exact .inr ⟨j,j,x,l,q,l,q⟩⟩
theorem Hi.find {t u:List Template} (h:Hi t u) (s:ck):∃(k:Nat) (b:Bool),(∀D B A w,SB s D B u A w=some (((k:Int),b),A,w))/\
  ((b=true/\∃(i:Nat) (x:Template),tpos t s=i/\t[i]? =some x/\u[k]? =some x)\/(b=false/\tpos t s= -1)):=by
 obtain⟨k,b,G,I⟩:=tfind h.vP h.len s;refine⟨k,b,G,?_⟩;rcases h.same s with⟨l,z⟩|⟨i,j,x,l,z,N,K⟩<;>rcases I with⟨q,L,_⟩|⟨q,L⟩
 .omega
 .exact .inr ⟨q,l⟩
 .have:j=k:=af
  exact .inl ⟨q,i,x,l,z,this▸K⟩
 .omega
abbrev jk (h:aJ) (s:ck):Int:=sQ (λx=>x.Name==s) h.Types 0
abbrev eY (h:aJ) (s:ck):Int:=sQ (λx=>x.Name==s) h.bD 0
def Jg {w:Type} (p:w->Bool) (l:List w):sQ p l 0<(l.length:Int)/\-1<=sQ p l 0:=by
 rcases pg p l 0 with⟨q,_⟩|⟨j,x,q,z,_⟩
 .rw[q];omega
 .have:=(bP.1 z).1;rw[q];omega
def h521 {l:Int}:∀(n:Nat) (p:List Int),p.length+n<=100000->Rc l (n:Int) p=some (p++List.replicate n l):=by intro n;induction n with
 |zero=>intro p _;refine adi ?_;rw[cond_neg (by rfl)];simp
 |succ n q=>intro p w;refine adi ?_;rw[cond_pos (by rw[bA];omega),cC _ af ai af,qq af,q _ aH,ee,List.singleton_append,<-oR]
def Ou {l:Int} {n:Nat} {p:List Int} (q:p.length+n<=100000):f521 p l (n:Int)=some (p++List.replicate n l):=by refine e521 ?_;rw[cC _ ai af af,dK];exact h521 n p q
def h534 {h:aJ} (D:h.bD.length<=1000) {t:List Template} {A:List Node} {z:List (ck×List Int)} {q:List ck} (G:q.length<=1000):∀(xs:List ck) (i:Nat) (p:List Int),q.drop i=xs->p.length+xs.length<=100000->
  Jy q q.length i p h.Types h.bD t A z=some (p++xs.map (eY h),A,z):=by
 intro xs;induction xs with
 |nil=>intro i p l w;refine X9 ?_;rw[bp l,aA];simp
 |cons x xs B=>intro i p l w;simp only[bz] at w;refine X9 ?_;rw[aT l,au,aK l,show aJ.mk h.Types h.bD=h from rfl,c363 _ _ af,aj,cC _ af ai af,aQ l af,B (i+1) _ (aI l) aH];simp
def aa8 {h:aJ} (w:h.bD.length<=1000) {t:List Template} {A:List Node} {q:List (ck×List Int)} {l:List ck} (z:l.length<=1000) {p:List Int} (B:p.length<=1000):BU p l h.Types h.bD t A q=some (p++l.map (eY h),A,q):=by refine e534a ?_;rw[c460 af,aj];exact h534 w z l 0 p rfl af
end Go.Proofs.YthphfjcnkinkpaaGreatDoor.cl.pf
namespace Go.Proofs.YthphfjcnkinkpaaGreatDoor.cl.pf
open Go Go.AM
abbrev uc:ck:=[108,105,115,116]
abbrev wL:ck:=[99,111,110,115]
abbrev ud:ck:=[110,117,108,108]
abbrev qT:ck:=[100,108,105,115,116]
abbrev je:ck:=[70,73,82,83,84]
abbrev pH:ck:=[82,69,83,84]
abbrev rB:ck:=[76,73,83,84]
abbrev rC:ck:=[76,65,83,84]
structure LT (h:aJ):Prop where
 li:0<=jk h uc
 co:0<=jk h wL
 nu:0<=jk h ud
 dl:0<=jk h qT
 fi:0<=eY h je
 re:0<=eY h pH
 he:0<=eY h rB
 la:0<=eY h rC
 ok:f516 h=some true
 w:f549 h=some (⟨h,jk h uc,jk h wL,jk h ud,jk h qT,eY h je,eY h pH,eY h rB,eY h rC⟩,0)
def Yf (a b:Int):decide ((if a<b then a else b)<0)=(decide (a<0)||decide (b<0)):=by
 by_cases h:a<b
 .rw[aB h];by_cases l:a<0
  .simp[l]
  .have:¬b<0:=af
   simp[l,this]
 .rw[az h];by_cases l:b<0
  .simp[l]
  .have:¬a<0:=af
   simp[l,this]
section
variable {h:aJ} {T F:Nat} {sb:Int->Int->Prop} {bN:Int->Int} {val:Int->Int->Int} (H:HX h T F sb bN val) (hT:T<=1000) (hF:F<=300)
include H hT hF
theorem c529 {nu:Int} (O:0<=nu/\nu<(T:Int)) (w:world) (P:w.null=nu):∃L,(Option.bind (f550 1) λq=>bif(!q) then(some ((FSt.mk ([]:List Node)),7)) else(Option.bind (f551 w) λz=>Option.bind (f552 w z) λB=>Option.bind (f437 B.1) λl=>some (l.1,l.2)))=some (L,(0:Int)):=by
 have D:f550 1=some true:=e550 (k550_2 (by rw[cond_neg (by rfl)]));have G:f551 w=some nu:=e551 (by rw[P]);have I:f552 w nu=some (⟨[⟨nu,[]⟩]⟩,0):=by refine e552 (k552_3 ?_);rw[cond_neg (by rfl),cC _ ai ai af];rfl
 have N:Can T F ⟨[⟨nu,[]⟩]⟩:=vt (T:=T) (F:=F) (π:=[]) (t:=nu) af ai O;have K:=c437 N ai af ai;refine⟨⟨[⟨nu,[]⟩]⟩,?_⟩;rw[D,aj,cond_neg (by rfl),G,aj,I,aj,K,aj]
theorem c516:∃b,f516 h=some b/\(b=true->LT h)/\∃fs e,f529 h=some (fs,e)/\(e !=0)= !b:=by
 have hfl:=H.hv.fl;have RD:=H.tl;have N:∀s,f352 h s=some (jk h s):=λs=>Zg s h af
 have O:∀s,f364 h s=some (jk h s):=λs=>c364 s h af
 have P:∀s,f363 h s=some (eY h s):=λs=>c363 s h af
 have Q:∀s,f365 h s=some (eY h s):=λs=>xZ s h af
 have tl:∀s,jk h s<(T:Int):=λs=>by
  have:jk h s<(h.Types.length:Int):=(Jg _ _).1
  omega
 have l1:=tl uc;have l2:=tl wL;have l3:=tl ud;have l4:=tl qT;by_cases D:0<=jk h uc/\0<=jk h wL/\0<=jk h ud/\0<=jk h qT/\0<=eY h je/\0<=eY h pH/\0<=eY h rB/\0<=eY h rC
 .obtain⟨z,R,B,U,V,h6,h7,h8⟩:=D;obtain⟨w,s1,s2,_⟩:=H.ss _ _ z l1 R l2;obtain⟨S,s3,s4,_⟩:=H.ss _ _ z l1 B l3;have l:∀{x:Int},0<=x->decide (x<0)=false:=λhx=>by rw[aS];omega
  have K:f516 h=some (w&&S):=e516 (by rw[O,aj,O,aj,O,aj,l z,aA,l R,aA,l B,aA,O,aj,l U,aA,Q,aj,l V,aA,Q,aj,l h6,aA,Q,aj,l h7,aA,Q,aj,l h8,aA,s2,aj];cases w with
   |false=>rw[aA];rfl
   |true=>rw[au,s4,aj];rfl)
  have o:∀r,(bif(!w) then(some ((world.mk (aJ.mk ([]:List fK) ([]:List cO)) 0 0 0 0 0 0 0 0),(5:Int))) else(Option.bind (f339 h (jk h uc) (jk h ud)) λy219=>bif(!y219) then(some ((world.mk (aJ.mk ([]:List fK) ([]:List cO)) 0 0 0 0 0 0 0 0),5)) else(some ((world.mk h (jk h uc) (jk h wL) (jk h ud) (jk h qT) (eY h je) (eY h pH) (eY h rB) (eY h rC)),0))))=some r->f549 h=some r:=λr hr=>by refine e549 ?_;rw[N,aj,N,aj,N,aj,N,aj,P,aj,P,aj,P,aj,P,aj];simp only[Yf,l z,l R,l B,l U,l V,l h6,l h7,l h8,rJ,aA];rw[s1,aj];exact hr
  have L:(w&&S)=true->f549 h=some (⟨h,jk h uc,jk h wL,jk h ud,jk h qT,eY h je,eY h pH,eY h rB,eY h rC⟩,0):=λG=>by
   have e1:w=true:=by cases w<;>simp_all
   have e2:S=true:=by cases S<;>simp_all
   exact o _ (by rw[e1,cond_neg (by rfl),s3,aj,e2,cond_neg (by rfl)])
  refine⟨w&&S,K,λG=>⟨z,R,B,U,V,h6,h7,h8,by rw[K,G],L G⟩,?_⟩
  .cases G:w&&S with
   |true=>obtain⟨fs,g⟩:=c529 H hT hF ⟨B,l3⟩ (world.mk h (jk h uc) (jk h wL) (jk h ud) (jk h qT) (eY h je) (eY h pH) (eY h rB) (eY h rC)) rfl;refine⟨fs,0,e529 ?_,rfl⟩;have q:=L G;rw[e541 (r:=(fs,0)) (by rw[q,aj,cond_neg (by rfl)];exact g),aj]
   |false=>
    refine⟨⟨[]⟩,5,e529 ?_,rfl⟩
    have q:f549 h=some (_,5):=o (world.mk (aJ.mk ([]:List fK) ([]:List cO)) 0 0 0 0 0 0 0 0,5) (by cases w with
     |false=>rw[cond_pos (by rfl)]
     |true=>cases S with
      |true=>cases G
      |false=>rw[cond_neg (by rfl),s3,aj,cond_pos (by rfl)])
    rw[e541 (r:=(⟨[]⟩,5)) (by rw[q,aj,cond_pos (by rfl)]),aj]
 .have l:∀{x:Int},¬x<0->decide (x<0)=false:=λhx=>by rw[aS];exact hx
  have I:∀{x:Int},x<0->decide (x<0)=true:=λhx=>qa hx
  refine⟨false,e516 ?_,λG=>(by cases G),⟨[]⟩,5,e529 ?_,rfl⟩
  .rw[O,aj,O,aj,O,aj];by_cases z:jk h uc<0
   .rw[I z,au]
   rw[l z,aA];by_cases R:jk h wL<0
   .rw[I R,au]
   rw[l R,aA];by_cases B:jk h ud<0
   .rw[I B,au]
   rw[l B,aA,O,aj];by_cases U:jk h qT<0
   .rw[I U,au]
   rw[l U,aA,Q,aj];by_cases V:eY h je<0
   .rw[I V,au]
   rw[l V,aA,Q,aj];by_cases h6:eY h pH<0
   .rw[I h6,au]
   rw[l h6,aA,Q,aj];by_cases h7:eY h rB<0
   .rw[I h7,au]
   rw[l h7,aA,Q,aj,I (x:=eY h rC) af,au]
  .have q:f549 h=some (world.mk (aJ.mk ([]:List fK) ([]:List cO)) 0 0 0 0 0 0 0 0,5):=by
    refine e549 ?_;rw[N,aj,N,aj,N,aj,N,aj,P,aj,P,aj,P,aj,P,aj];simp only[Yf];rw[cond_pos];simp only[gx,pS];unfold uc wL ud qT je pH rB rC at D;omega
   rw[e541 (r:=(⟨[]⟩,5)) (by rw[q,aj,cond_pos (by rfl)]),aj]
end
end Go.Proofs.YthphfjcnkinkpaaGreatDoor.cl.pf
namespace Go.Proofs.YthphfjcnkinkpaaGreatDoor.cl.pf
open Go Go.AM
structure Kn (h:aJ) (t:List Template) (d:bJ):Prop where
 ty:d.Op=1->0<=jk h d.Name
 tm:d.Op=2->∃(i:Nat) (x:Template),tpos t d.Name=(i:Int)/\t[i]? =some x
 ls:6<=d.Op->LT h
 pt:3<=d.Op->∀s∈d.Path,0<=eY h s
section
variable {h:aJ} {T F:Nat} {sb:Int->Int->Prop} {bN:Int->Int} {val:Int->Int->Int} (H:HX h T F sb bN val) (hT:T<=1000) (hF:F<=300) {t u:List Template} (ht:t.length<=1000)
include H hT hF ht
theorem h507p {d:bJ} (S:d.Path.length<=64):∀(xs:List ck) (i:Nat),d.Path.drop i=xs->
  ((∃s∈xs,eY h s<0)/\oK t i h d=some false/\∀A l,mj d.Path d.Path.length i d h.Types h.bD u A l=some (false,A,l))\/
  ((∀s∈xs,0<=eY h s)/\(∀r,F9 t 0 h d=some r->oK t i h d=some r)/\∀A l r,(eV (Xu d.Kids h.Types h.bD u A l) λI D G=>some ((!I),D,G))=some r->mj d.Path d.Path.length i d h.Types h.bD u A l=some r):=by
 have Q:=H.hv.fl;intro xs;induction xs with
 |nil=>
  intro i q;refine .inr ⟨ai,λr w=>Pg ?_,λA l r w=>KH ?_⟩
  .rw[bp q,aA];exact w
  .rw[bp q,aA];exact w
 |cons x xs R=>
  intro i q;by_cases B:eY h x<0
  .refine .inl ⟨⟨x,by simp,B⟩,Pg ?_,λA l=>KH ?_⟩
   .rw[aT q,au,aK q,xZ _ _ af,aj,cond_pos (by rw[bA];exact B)]
   .rw[aT q,au,aK q,show aJ.mk h.Types h.bD=h from rfl,c363 _ _ af,aj,cond_pos (by rw[bA];exact B)]
  .have e1:∀r,oK t ((i+1:Nat):Int) h d=some r->oK t i h d=some r:=λr w=>by
    refine Pg ?_;rw[aT q,au,aK q,xZ _ _ af,aj,cond_neg (by rw[aS];exact B),aQ q af];exact w
   have O:∀A l r,mj d.Path d.Path.length ((i+1:Nat):Int) d h.Types h.bD u A l=some r->mj d.Path d.Path.length i d h.Types h.bD u A l=some r:=λA l r w=>by refine KH ?_;rw[aT q,au,aK q,show aJ.mk h.Types h.bD=h from rfl,c363 _ _ af,aj,cond_neg (by rw[aS];exact B),aQ q af];exact w
   rcases R (i+1) (aI q) with⟨⟨s,z,N⟩,K,L⟩|⟨P,K,L⟩
   .exact .inl ⟨⟨s,by simp[z],N⟩,e1 _ K,λA l=>O _ _ _ (L A l)⟩
   .exact .inr ⟨λs z=>by
     rcases aN.1 z with rfl|z
     .omega
     .exact P s z,λr w=>e1 r (K r w),λA l r w=>O A l r (L A l r w)⟩
theorem h507k {d:bJ} (U:d.Kids.length<=256) (G:∀k∈d.Kids,∃b,f507 h t k=some b/\(Hi t u->∀A w,Nf k h.Types h.bD u A w=some (b,A,w))/\(b=true↔gu (Kn h t) k)):∀(xs:List bJ) (i:Nat),d.Kids.drop i=xs->
  ∃b,F9 t i h d=some b/\(Hi t u->∀A w,∃v,Jz d.Kids d.Kids.length i h.Types h.bD u A w=some (v,A,w)/\decide (v>=0)= !b)/\(b=true↔∀k∈xs,gu (Kn h t) k):=by
 intro xs;induction xs with
 |nil=>
  intro i l;refine⟨true,Ph ?_,λ_ A w=>⟨-1,Po ?_,rfl⟩,ai⟩
  .rw[bp l,aA]
  .rw[bp l,aA]
 |cons x xs O=>
  intro i l;obtain⟨b,I,N,K⟩:=G x (aV (cr l));have q:Hi t u->∀A w,abE x h.Types h.bD u A w=some (!b,A,w):=λz A w=>e560a (by rw[N z,bG])
  cases b with
  |false=>
   refine⟨false,Ph ?_,λz A w=>⟨(i:Int),Po ?_,ai⟩,λD=>(by cases D),λz=>K.2 (z x ai)⟩
   .rw[aT l,au,aK l,I,aj,cond_pos (by rfl)]
   .rw[aT l,au,aK l,q z,bG,cond_pos (by rfl)]
  |true=>
   obtain⟨b,P,Q,L⟩:=O (i+1) (aI l);refine⟨b,Ph ?_,λz A w=> ?_,λD k B=> ?_,λz=>L.2 λk B=>z k (by simp[B])⟩
   .rw[aT l,au,aK l,I,aj,cond_neg (by rfl),aQ l af];exact P
   .obtain⟨v,R,S⟩:=Q z A w;refine⟨v,Po ?_,S⟩;rw[aT l,au,aK l,q z,bG,cond_neg (by rfl),aQ l af];exact R
   .rcases aN.1 B with rfl|B
    .exact K.1 rfl
    .exact L.1 D k B
theorem c507 (d:bJ):gu Fm d->∃b,f507 h t d=some b/\(Hi t u->∀A l,Nf d h.Types h.bD u A l=some (b,A,l))/\(b=true↔gu (Kn h t) d):=by
 refine og (P:=λd=>gu Fm d->∃b,f507 h t d=some b/\(Hi t u->∀A l,Nf d h.Types h.bD u A l=some (b,A,l))/\(b=true↔gu (Kn h t) d)) (λd ih hd=> ?_) d;have hfl:=H.hv.fl;have RD:=H.tl;have fm:=hd.here;have hp:=fm.pl;have O:=fm.kl;have nk:d.Op=1\/d.Op=2\/d.Op=3->d.Kids=[]:=λh=>lQ.1 (fm.kd.leaf h)
 have U:3<=d.Op->(6<=d.Op->LT h)->∃b,oK t 0 h d=some b/\(Hi t u->∀A l,mj d.Path d.Path.length 0 d h.Types h.bD u A l=some (b,A,l))/\(b=true↔gu (Kn h t) d):=λho hls=>by
  obtain⟨b,I,K,z⟩:=h507k H hT hF ht (d:=d) O (λk V=>ih k V (hd.kids k V)) d.Kids 0 rfl;rcases h507p H hT hF ht hp d.Path 0 rfl with⟨⟨s,w0,w3⟩,w1,w2⟩|⟨w0,w1,w2⟩
  .exact⟨false,w1,λ_=>w2,λL=>(by cases L),λw=>by have:=w.here.pt ho s w0;omega⟩
  .refine⟨b,w1 _ I,λw A l=>w2 A l _ ?_,λL=>⟨_,⟨λe=>by omega,λe=>by omega,hls,λ_=>w0⟩,z.1 L⟩,λw=>z.2 w.kids⟩;obtain⟨v,v1,v2⟩:=K w A l;have q:Xu d.Kids h.Types h.bD u A l=some (!b,A,l):=e533c (by rw[e543c v1,bG,v2]);rw[q,bG,Bool.not_not]
 have G:6<=d.Op->∃b,(Option.bind (f516 h) λy205=>bif(!y205) then(some false) else(oK t 0 h d))=some b/\(Hi t u->∀A l,(Option.bind (f529 h) λy208=>bif(y208.2 !=0) then(some (false,A,l)) else(mj d.Path d.Path.length 0 d h.Types h.bD u A l))=some (b,A,l))/\(b=true↔gu (Kn h t) d):=λho=>by obtain⟨bl,j1,j2,fs,e,j3,j4⟩:=c516 H hT hF;cases bl with
  |false=>exact⟨false,by rw[j1,aj,cond_pos (by rfl)],λ_ A l=>by rw[j3,aj,j4,cond_pos (by rfl)],λL=>(by cases L),λw=>by have:=(w.here.ls ho).ok;rw[j1] at this;cases this⟩
  |true=>obtain⟨b,I,K,z⟩:=U af (λ_=>j2 rfl);exact⟨b,by rw[j1,aj,cond_neg (by rfl)];exact I,λw A l=>by rw[j3,aj,j4,cond_neg (by rfl)];exact K w A l,z⟩
 have ho:=fm.op;have hh:aJ.mk h.Types h.bD=h:=rfl;by_cases S:d.Op=1
 .refine⟨decide (jk h d.Name>=0),e507 ?_,λ_ A l=>Nc ?_,λL=>⟨_,⟨λ_=>by simpa using L,λe=>by omega,λe=>by omega,λe=>by omega⟩,λk O=>by rw[nk (.inl S)] at O;cases O⟩,λw=>qa (w.here.ty S)⟩
  .rw[cond_pos (by rw[S];rfl),c364 _ _ af,aj]
  .rw[cond_pos (by rw[S];rfl),hh,Zg _ _ af,aj]
 by_cases P:d.Op=2
 .have hc:=Zh d.Name t af;have Q:=pg (λx:Template=>x.Name==d.Name) t 0
  refine⟨decide (tpos t d.Name>=0),e507 ?_,λw A l=>Nc ?_,λL=>⟨_,⟨λe=>by omega,λ_=> ?_,λe=>by omega,λe=>by omega⟩,λk O=>by rw[nk (.inr (.inl P))] at O;cases O⟩,λw=>by
   obtain⟨i,x,w1,_⟩:=w.here.tm P
   rw[bA];omega⟩
  .rw[cond_neg (by rw[P];rfl),cond_pos (by rw[P];rfl),hc,aj]
  .obtain⟨k,b,R,q2⟩:=w.find d.Name;rw[cond_neg (by rw[P];rfl),cond_pos (by rw[P];rfl),R,bG];rcases q2 with⟨rfl,i,x,q3,_⟩|⟨rfl,q3⟩
   .rw[q3]
    have:decide ((i:Int)>=0)=true:=by rw[bA];omega
    rw[this]
   .rw[q3];rfl
  .rcases Q with⟨R,_⟩|⟨j,x,R,q2,_⟩
   .exfalso;have R:tpos t d.Name= -1:=R;rw[R] at L;simp at L
   .exact⟨j,x,R.trans (by rw[eF]),q2⟩
 by_cases N:d.Op=6
 .obtain⟨b,I,K,z⟩:=G af;refine⟨b,e507 ?_,λw A l=>Nc ?_,z⟩
  .rw[cond_neg (by rw[N];rfl),cond_neg (by rw[N];rfl),cond_pos (by rw[N];rfl),cond_pos (by rw[N];rfl)];exact I
  .rw[cond_neg (by rw[N];rfl),cond_neg (by rw[N];rfl),cond_pos (by rw[N];rfl),cond_pos (by rw[N];rfl)];exact K w A l
 by_cases B:d.Op=7
 .obtain⟨b,I,K,z⟩:=G af;refine⟨b,e507 ?_,λw A l=>Nc ?_,z⟩
  .rw[cond_neg (by rw[B];rfl),cond_neg (by rw[B];rfl),cond_neg (by rw[B];rfl),cond_pos (by rw[B];rfl),cond_pos (by rw[B];rfl)];exact I
  .rw[cond_neg (by rw[B];rfl),cond_neg (by rw[B];rfl),cond_neg (by rw[B];rfl),cond_pos (by rw[B];rfl),cond_pos (by rw[B];rfl)];exact K w A l
 by_cases D:d.Op=8
 .obtain⟨b,I,K,z⟩:=G af;refine⟨b,e507 ?_,λw A l=>Nc ?_,z⟩
  .rw[cond_neg (by rw[D];rfl),cond_neg (by rw[D];rfl),cond_neg (by rw[D];rfl),cond_neg (by rw[D];rfl),cond_pos (by rw[D];rfl)];exact I
  .rw[cond_neg (by rw[D];rfl),cond_neg (by rw[D];rfl),cond_neg (by rw[D];rfl),cond_neg (by rw[D];rfl),cond_pos (by rw[D];rfl)];exact K w A l
 .obtain⟨b,I,K,z⟩:=U af (λe=>by omega);have ne:∀k:Int,d.Op≠k->(d.Op==k)=false:=λk O=>by simpa using O
  refine⟨b,e507 ?_,λw A l=>Nc ?_,z⟩
  .rw[ne 1 S,aA,ne 2 P,aA,ne 6 N,aA,ne 7 B,aA,ne 8 D,aA];exact I
  .rw[ne 1 S,aA,ne 2 P,aA,ne 6 N,aA,ne 7 B,aA,ne 8 D,aA];exact K w A l
end
