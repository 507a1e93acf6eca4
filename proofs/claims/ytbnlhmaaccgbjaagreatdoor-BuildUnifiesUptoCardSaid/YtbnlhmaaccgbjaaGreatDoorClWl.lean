/- Build. -/
import Derived.Test.YtbnlhmaaccgbjaaGreatDoorClVb
set_option linter.all false
open Go.IntKind (wrap)
open List (length)
namespace Go.Proofs.YtbnlhmaaccgbjaaGreatDoor.cl.pf
open Go Go.AM
def QZ {x:Int} (l:0<=x) (q:x<=1073741824):wrap .i64 x=x:=by obtain⟨n,rfl⟩:=gm l;cases n with
 |zero=>rfl
 |succ n=>exact bP af
def sK {q:Type} (p:q->Bool):List q->Nat->Int
 |[],_=> -1
 |x::l,i=>if p x then(i:Int) else sK p l (i+1)
def sZ {q:Type} (p:q->Bool) (x:q) (l:List q) (i:Nat):sK p (x::l) i=if p x then(i:Int) else sK p l (i+1):=rfl
def sY {G:Type} (p:G->Bool):∀(l:List G) (i:Nat),(sK p l i= -1/\∀x∈l,p x=false)\/∃k,∃x,sK p l i=((i+k:Nat):Int)/\l[k]? =some x/\p x=true/\∀j,j<k->∀y,l[j]? =some y->p y=false
 |[],i=> .inl ⟨rfl,λx L=>by cases L⟩
 |x::l,i=>by rw[sZ];cases hp:p x with
  |true=>exact .inr ⟨0,x,by rw[aB rfl];rfl,rfl,hp,λj D=>absurd D (Nat.not_lt_zero _)⟩
  |false=>
   rw[au ai];rcases sY p l (i+1) with⟨w,B⟩|⟨k,y,w,B,I,K⟩
   .exact .inl ⟨w,λz q=>by
     rcases aJ.1 q with rfl|q
     .exact hp
     .exact B z q⟩
   .refine .inr ⟨k+1,y,by rw[w];congr 1;omega,by simpa using B,I,λj D z q=> ?_⟩;cases j with
    |zero=>simp only[zh,aW] at q;subst q;exact hp
    |succ j=>exact K j af z (by simpa using q)
def h364 (s:b9) (h:aN) (q:h.Types.length<=1073741824):∀(xs:List fO) (i:Nat),h.Types.drop i=xs->Qi s i h=some (sK (λx=>x.Name==s) xs i):=by intro xs;induction xs with
 |nil=>intro i l;refine acC ?_;rw[bq l];rfl
 |cons x xs w=>intro i l;refine acC ?_;rw[aV l,ak,aM l,aR l q,w (i+1) (aI l)];rw[sZ];cases x.Name==s<;>rfl
def c364 (s:b9) (h:aN) (l:h.Types.length<=1073741824):f364 h s=some (sK (λx=>x.Name==s) h.Types 0):=e364 (h364 s h l _ 0 rfl)
def h365 (s:b9) (h:aN) (q:h.bJ.length<=1073741824):∀(xs:List cU) (i:Nat),h.bJ.drop i=xs->Qj s i h=some (sK (λx=>x.Name==s) xs i):=by intro xs;induction xs with
 |nil=>intro i l;refine acD ?_;rw[bq l];rfl
 |cons x xs w=>intro i l;refine acD ?_;rw[aV l,ak,aM l,aR l q,w (i+1) (aI l)];rw[sZ];cases x.Name==s<;>rfl
def zF (s:b9) (h:aN) (l:h.bJ.length<=1073741824):f365 h s=some (sK (λx=>x.Name==s) h.bJ 0):=e365 (h365 s h l _ 0 rfl)
def h353a (s:b9) (l:List fO) (w:l.length<=1073741824):∀(xs:List fO) (i:Nat),l.drop i=xs->I9 l s l.length i=some (sK (λx=>x.Name==s) xs i):=by intro xs;induction xs with
 |nil=>intro i q;refine XH ?_;rw[bq q];rfl
 |cons x xs z=>intro i q;refine XH ?_;rw[aV q,ak,aM q,e374 rfl,aj,aR q w,z (i+1) (aI q)];rw[sZ];cases x.Name==s<;>rfl
def c352 (s:b9) (h:aN) (l:h.Types.length<=1073741824):f352 h s=some (sK (λx=>x.Name==s) h.Types 0):=by refine e352 ?_;rw[e353a (h353a s h.Types l _ 0 rfl)];rfl
def h363 (s:b9) (h:aN) (l:List cU) (w:l.length<=1073741824):∀(xs:List cU) (i:Nat),l.drop i=xs->Qh s l l.length i h=some (sK (λx=>x.Name==s) xs i):=by intro xs;induction xs with
 |nil=>intro i q;refine acB ?_;rw[bq q];rfl
 |cons x xs z=>intro i q;refine acB ?_;rw[aV q,ak,aM q,aR q w,z (i+1) (aI q),beq_self_eq_true,rH,rH];rw[sZ];cases x.Name==s<;>rfl
def c363 (s:b9) (h:aN) (l:h.bJ.length<=1073741824):f363 h s=some (sK (λx=>x.Name==s) h.bJ 0):=e363 (h363 s h h.bJ l _ 0 rfl)
def h515 (s:b9) (t:List Template) (q:t.length<=1073741824):∀(xs:List Template) (i:Nat),t.drop i=xs->QE t s i=some (sK (λx=>x.Name==s) xs i):=by intro xs;induction xs with
 |nil=>intro i l;refine ac6 ?_;rw[bq l];rfl
 |cons x xs w=>intro i l;refine ac6 ?_;rw[aV l,ak,aM l,aR l q,w (i+1) (aI l)];rw[sZ];cases x.Name==s<;>rfl
def Y9 (s:b9) (t:List Template) (l:t.length<=1073741824):f515 t s=some (sK (λx=>x.Name==s) t 0):=e515 (h515 s t l _ 0 rfl)
def h539 (s:b9) (t:List Def) (q:t.length<=1073741824):∀(xs:List Def) (i:Nat),t.drop i=xs->QK t s i=some (sK (λx=>x.Name==s) xs i):=by intro xs;induction xs with
 |nil=>intro i l;refine ada ?_;rw[bq l];rfl
 |cons x xs w=>intro i l;refine ada ?_;rw[aV l,ak,aM l,aR l q,w (i+1) (aI l)];rw[sZ];cases x.Name==s<;>rfl
def c539 (s:b9) (t:List Def) (l:t.length<=1073741824):f539 t s=some (sK (λx=>x.Name==s) t 0):=e539 (h539 s t l _ 0 rfl)
def h555 (s:b9) (t:List b9) (q:t.length<=1073741824):∀(xs:List b9) (i:Nat),t.drop i=xs->QN t s i=some (xs.any λx=>x==s):=by intro xs;induction xs with
 |nil=>intro i l;refine adh ?_;rw[bq l];rfl
 |cons x xs w=>intro i l;refine adh ?_;rw[aV l,ak,aM l,aR l q,w (i+1) (aI l),qZ];cases x==s<;>rfl
def c555 (s:b9) (t:List b9) (l:t.length<=1073741824):f555 t s=some (t.any λx=>x==s):=e555 (h555 s t l _ 0 rfl)
def c414 (t:Int):f414 t=some ⟨t,[]⟩:=e414 rfl
def c460 {l:List Int} (w:l.length<=1000000):f460 l=some l:=by refine yc ?_;refine tW ?_;have q:Nat.ble ((List.map (dS .i64) l).length *8) 140737488355328=true:=uL (by rw[bz];omega);show(bif Nat.ble ((List.map (dS .i64) l).length *8) 140737488355328 then _ else _)=_;rw[q];rfl
def udN (k:Nat) (x:Node):Node:=⟨x.dU,x.cu.map λa=>⟨a.bN,wrap .i64 (a.To+(k:Int))⟩⟩
def D5:Nat->List Int->List Node
 |_,[]=>[]
 |k,f::l=>⟨0,[⟨f,(k+1:Nat)⟩]⟩::D5 (k+1) l
def Cb:∀(k:Nat) (l:List Int),(D5 k l).length=l.length
 |_,[]=>rfl
 |k,f::l=>by simp only[D5,bp,Cb (k+1) l]
def Ap (l:List Int) (f:FSt):FSt:=⟨D5 0 l++f.aA.map (udN l.length)⟩
section
variable {p:List Int} {f:FSt} (hp:p.length<=1000000) (hf:f.aA.length<=1000000) (ha:∀x∈f.aA,x.cu.length<=1000000)
include hp hf ha
theorem h430_12 {i:Nat} (I:i<f.aA.length) {l:List cD} (L:l.length<=1000000) {ty:Int} {D:FSt} {o:List Node} (N:o.length<=2000000) {z:List cD} {r:FSt}:∀(xs:List cD) (k:Nat) (w:List cD),l.drop k=xs->w.length=k->
  LK p ((i+1:Nat):Int) f D (o++[⟨ty,w++xs.map λa=>⟨a.bN,wrap .i64 (a.To+(p.length:Int))⟩⟩])=some r->Jc p i l k f D ty o z w=some r:=by
 intro xs;induction xs with
 |nil=>intro k w q B h;refine XJ ?_;rw[bq q,az,mH ⟨by simp only[c7];omega,by simp only[c7];omega⟩,bP af];rw[di,dP] at h;exact h
 |cons a xs G=>
  intro k w q B h;have K:k<l.length:=by have:=aP length q;simp only[iN,bp] at this;omega
  refine XJ ?_;rw[aV q,ak,aM q,aM q,mH ⟨by simp only[c7];omega,by simp only[c7];omega⟩,bP af];refine G (k+1) _ (aI q) (by simp[B]) ?_;rw[eo];exact h
theorem h430_7 {o4:FSt}:∀(xs:List Node) (i:Nat) (o:List Node),f.aA.drop i=xs->o.length=p.length+i->LK p i f o4 o=some ⟨o++xs.map (udN p.length)⟩:=by intro xs;induction xs with
 |nil=>intro i o l w;refine acH ?_;rw[bq l,az,di,dP]
 |cons x xs B=>
  intro i o l w;have q:i<f.aA.length:=by have:=aP length l;simp only[iN,bp] at this;omega
  have z:x∈f.aA:=by
   have:x∈f.aA.drop i:=by rw[l];exact gE ..
   exact ji this
  refine acH ?_;rw[aV l,ak,aM l,aM l];refine h430_12 hp hf ha q (ha x z) af x.cu 0 [] rfl rfl ?_;rw[B (i+1) _ (aI l) (by rw[cF,c7];omega),eo];rfl
theorem h430_3 {o4:FSt}:∀(xs:List Int) (i:Nat) (o:List Node),p.drop i=xs->i<=p.length->o.length=i->LJ p i f o4 o=some ⟨o++D5 i xs++f.aA.map (udN p.length)⟩:=by intro xs;induction xs with
 |nil=>
  intro i o l q w;refine acG ?_;have z:p.length<=i:=by have:=aP length l;simp only[iN,dH] at this;omega
  rw[bq l,az];have:=h430_7 hp hf ha (o4:=o4) f.aA 0 o rfl af;rw[D5,dP];exact this
 |cons x xs B=>
  intro i o l q w;have z:i<p.length:=by have:=aP length l;simp only[iN,bp] at this;omega
  refine acG ?_;rw[aV l,ak,aM l,mH ⟨by simp only[c7];omega,by simp only[c7];omega⟩,bP af];rw[B (i+1) _ (aI l) af (by rw[cF,c7,w])];simp[D5]
theorem c430g:f430 p f=some (Ap p f):=by refine e430 ?_;rw[show LJ p 0 f ⟨[]⟩ []=_ from h430_3 hp hf ha p 0 [] rfl (cW _) rfl];rfl
theorem h426_12 {i:Nat} (K:i<f.aA.length) {l:List cD} (N:l.length<=1000000) {ty:Int} {D:FSt} {I:Node} {o:List Node} (O:o.length<=2000000) {z:List cD} {r:FSt}:∀(xs:List cD) (k:Nat) (w:List cD),l.drop k=xs->w.length=k->
  LI p f.aA f.aA.length ((i+1:Nat):Int) f D (o++[⟨ty,w++xs.map λa=>⟨a.bN,wrap .i64 (a.To+(p.length:Int))⟩⟩])=some r->Jb p f.aA f.aA.length i l l.length k f D I ty o z w=some r:=by
 intro xs;induction xs with
 |nil=>intro k w q B h;refine OV ?_;rw[bq q,az,mH ⟨by simp only[c7];omega,by simp only[c7];omega⟩,bP af];rw[di,dP] at h;exact h
 |cons a xs G=>
  intro k w q B h;have L:k<l.length:=by have:=aP length q;simp only[iN,bp] at this;omega
  refine OV ?_;rw[aV q,ak,aM q,mH ⟨by simp only[c7];omega,by simp only[c7];omega⟩,bP af];refine G (k+1) _ (aI q) (by simp[B]) ?_;rw[eo];exact h
theorem h426_8 {o4:FSt}:∀(xs:List Node) (i:Nat) (o:List Node),f.aA.drop i=xs->o.length=p.length+i->LI p f.aA f.aA.length i f o4 o=some ⟨o++xs.map (udN p.length)⟩:=by intro xs;induction xs with
 |nil=>intro i o l w;refine OX ?_;rw[bq l,az,di,dP]
 |cons x xs B=>
  intro i o l w;have q:i<f.aA.length:=by have:=aP length l;simp only[iN,bp] at this;omega
  have z:x∈f.aA:=by
   have:x∈f.aA.drop i:=by rw[l];exact gE ..
   exact ji this
  refine OX ?_;rw[aV l,ak,aM l];refine h426_12 hp hf ha q (ha x z) af x.cu 0 [] rfl rfl ?_;rw[B (i+1) _ (aI l) (by rw[cF,c7];omega),eo];rfl
theorem h426_3 {o4:FSt}:∀(xs:List Int) (i:Nat) (o:List Node),p.drop i=xs->i<=p.length->o.length=i->GU p p p.length i f o4 o=some ⟨o++D5 i xs++f.aA.map (udN p.length)⟩:=by intro xs;induction xs with
 |nil=>
  intro i o l q w;refine OW ?_;have z:p.length<=i:=by have:=aP length l;simp only[iN,dH] at this;omega
  rw[bq l,az];have:=h426_8 hp hf ha (o4:=o4) f.aA 0 o rfl af;rw[D5,dP];exact this
 |cons x xs B=>
  intro i o l q w;have z:i<p.length:=by have:=aP length l;simp only[iN,bp] at this;omega
  refine OW ?_;rw[aV l,ak,aM l,mH ⟨by simp only[c7];omega,by simp only[c7];omega⟩,bP af];rw[B (i+1) _ (aI l) af (by rw[cF,c7,w])];simp[D5]
theorem c426g:f426 p f=some (Ap p f):=by refine e426 ?_;rw[show GU p p p.length 0 f ⟨[]⟩ []=_ from h426_3 hp hf ha p 0 [] rfl (cW _) rfl];rfl
end
end Go.Proofs.YtbnlhmaaccgbjaaGreatDoor.cl.pf
namespace Go.Proofs.YtbnlhmaaccgbjaaGreatDoor.cl.pf
open Go Go.AM
def c558 (a b:b9):f558 a b=some (Mj a b):=by refine yc ?_;refine tW ?_;rfl
def c556 (x:Template) (s:b9):f556 x s=some (Mj x.Name s):=e556 (by rw[c558,aj])
end Go.Proofs.YtbnlhmaaccgbjaaGreatDoor.cl.pf
namespace Go.Proofs.YtbnlhmaaccgbjaaGreatDoor.cl.pf
open Go Go.AM
def j8 {P:aQ->Prop} (h:∀d,(∀k∈d.Kids,P k)->P d):∀d,P d
 | .mk a b c l=>h _ λk q=>j8 h k
termination_by d=>SizeOf.sizeOf d
decreasing_by
 have:=List.sizeOf_lt_of_mem q;simp only[aQ.Kids,aQ.mk.sizeOf_spec] at *;omega
inductive fE (P:aQ->Prop):aQ->Prop
 |mk (d:aQ):P d->(∀k∈d.Kids,fE P k)->fE P d
def fE.here {P:aQ->Prop} {d:aQ} (h:fE P d):P d:=by cases h;assumption
def fE.kids {P:aQ->Prop} {d:aQ} (h:fE P d):∀k∈d.Kids,fE P k:=by cases h;assumption
def fE.imp {P Q:aQ->Prop} (h:∀d,P d->Q d) {d:aQ} (q:fE P d):fE Q d:=by induction q with
 |mk d l _ w=>exact .mk d (h d l) w
def fE.and {P Q:aQ->Prop}:∀{d:aQ},fE P d->fE Q d->fE (λd=>P d/\Q d) d:=by intro d;induction d using j8 with
 |h d z=>exact λq w=> .mk d ⟨q.here,w.here⟩ λk l=>z k l (q.kids k l) (w.kids k l)
mutual
def oN:aQ->Nat
 | .mk _ _ _ l=>1+eU l
def eU:List aQ->Nat
 |[]=>0
 |x::l=>oN x+eU l
end
def zH (d:aQ):oN d=1+eU d.Kids:=by cases d;simp[oN,aQ.Kids]
def h511 {w:aQ} (I:w.Kids.length<=1073741824) (q:∀k∈w.Kids,∃b,f511 k=some b/\(b=true->fE (λd=>d.Path.length<=4) k)):∀(xs:List aQ) (i:Nat),w.Kids.drop i=xs->∃b,QC i w=some b/\(b=true->∀k∈xs,fE (λd=>d.Path.length<=4) k):=by intro xs;induction xs with
 |nil=>intro i l;exact⟨true,VE (by rw[bq l,az]),λ_ k q=>by cases q⟩
 |cons x xs L=>
  intro i l;have K:x∈w.Kids:=by
   have:x∈w.Kids.drop i:=by rw[l];exact gE ..
   exact ji this
  obtain⟨b,e,h⟩:=q x K;obtain⟨z,B,D⟩:=L (i+1) (aI l);cases b with
  |false=>exact⟨false,VE (by rw[aV l,ak,aM l,e,aj,eM,ak]),λh=>by cases h⟩
  |true=>
   refine⟨z,VE (by rw[aV l,ak,aM l,e,aj,dx,az,aR l I];exact B),λG k q=> ?_⟩;rcases aJ.1 q with rfl|q
   .exact h rfl
   .exact D G k q
def c511 (d:aQ):fE (λd=>d.Kids.length<=1073741824) d->∃b,f511 d=some b/\(b=true->fE (λd=>d.Path.length<=4) d):=by induction d using j8 with
 |h d z=>
  intro q;by_cases hp:d.Path.length>4
  .exact⟨false,e511 (by rw[cond_pos (by rw[bB];omega)]),λh=>by cases h⟩
  .obtain⟨b,e,h⟩:=h511 q.here (λk l=>z k l (q.kids k l)) d.Kids 0 rfl;exact⟨b,e511 (by rw[cond_neg (by rw[aT];omega)];exact e),λw=> .mk d af (h w)⟩
structure Lt1 (most:Nat) (d:aQ):Prop where
 nm:d.Name.length<=60
 pl:d.Path.length<=80
 ps:∀s∈d.Path,s.length<=60
 kl:d.Kids.length<=most
def WTd (most:Nat) (l:Nat) (d:aQ):Prop:=∃r:Nat,f524 d l most=some (r:Int)/\1<=r/\r<=(82-l) *most+1/\(r<=most->oN d=r/\fE (Lt1 most) d)
def h524p {deep most:Nat} {d:aQ} (L:most<=1000) (K:d.Path.length<=80) {q:Nat->Prop} (B:∃r:Nat,FU deep most 1 0 d=some (r:Int)/\q r) (G:q (most+1)):∀(xs:List (List UInt8)) (i:Nat),d.Path.drop i=xs->∃r:Nat,QJ deep most i d=some (r:Int)/\q r/\(r<=most->∀s∈xs,s.length<=60):=by intro xs;induction xs with
 |nil=>intro i l;obtain⟨r,e,h⟩:=B;exact⟨r,VH (by rw[bq l,az];exact e),h,λ_ s w=>by cases w⟩
 |cons x xs I=>
  intro i l;obtain⟨r,e,h,z⟩:=I (i+1) (aI l);by_cases N:x.length>60
  .exact⟨most+1,VH (by rw[aV l,ak,aM l,cond_pos (by rw[bB];omega),bP af]),G,λh=>by omega⟩
  .refine⟨r,VH (by rw[aV l,ak,aM l,cond_neg (by rw[aT];omega),aR l af];exact e),h,λD s w=> ?_⟩;rcases aJ.1 w with rfl|w
   .omega
   .exact z D s w
def h524k {deep most:Nat} {d:aQ} (K:most<=1000) (D:deep<=80) (hl:d.Kids.length<=most) (q:∀k∈d.Kids,WTd most (deep+1) k):∀(xs:List aQ) (i n:Nat),d.Kids.drop i=xs->1<=n->n<=(82-deep) *most+1->
  ∃r:Nat,FU deep most n i d=some (r:Int)/\1<=r/\r<=(82-deep) *most+1/\(r<=most->r=n+eU xs/\∀k∈xs,fE (Lt1 most) k):=by
 have G:(82-(deep+1)) *most+most=(82-deep) *most:=by rw[show 82-deep=(82-(deep+1))+1 from by omega,jA,Nat.one_mul]
 have B:(82-deep) *most<=82 *1000:=nV af K;intro xs;induction xs with
 |nil=>intro i n l w z;exact⟨n,O4 (by rw[bq l,az]),w,z,λ_=>⟨by simp[eU],λk q=>by cases q⟩⟩
 |cons x xs O=>
  intro i n l w z;by_cases hn:n<=most
  .have N:x∈d.Kids:=by
    have:x∈d.Kids.drop i:=by rw[l];exact gE ..
    exact ji this
   obtain⟨y,e,y1,y2,V⟩:=q x N;obtain⟨r,I,R,S,U⟩:=O (i+1) (n+y) (aI l) af af;refine⟨r,O4 ?_,R,S,λL=> ?_⟩
   .rw[aV l,ak,cond_pos (by rw[bB];omega),aM l,bP af,e,aj,aR l af,QZ (x:=(n:Int)+(y:Int)) af af];exact I
   .obtain⟨P,Q⟩:=U L;obtain⟨z1,z2⟩:=V af;refine⟨by rw[P,eU,z1];omega,λk q=> ?_⟩;rcases aJ.1 q with rfl|q
    .exact z2
    .exact Q k q
  .exact⟨n,O4 (by rw[aV l,ak,cond_neg (by rw[aT];omega)]),w,z,λh=>by omega⟩
def c524 {most:Nat} (z:most<=1000) (d:aQ):∀deep:Nat,deep<=81->WTd most deep d:=by induction d using j8 with
 |h d K=>
  intro deep G;have q:wrap .i64 ((most:Int)+1)=((most+1:Nat):Int):=bP af;have w:most *1<=(82-deep) *most:=by rw[Nat.mul_comm];exact nV af (aU _)
  by_cases h1:deep>80
  .exact⟨most+1,e524 (by rw[cond_pos (by rw[bB];omega),q]),by omega,by omega,λh=>by omega⟩
  by_cases h2:d.Name.length>60
  .exact⟨most+1,e524 (by rw[cond_neg (by rw[aT];omega),cond_pos (by rw[bB];omega),q]),by omega,by omega,λh=>by omega⟩
  by_cases h3:d.Path.length>80
  .exact⟨most+1,e524 (by rw[cond_neg (by rw[aT];omega),cond_neg (by rw[aT];omega),cond_pos (by rw[bB];omega),q]),by omega,by omega,λh=>by omega⟩
  by_cases h4:d.Kids.length>most
  .exact⟨most+1,e524 (by rw[cond_neg (by rw[aT];omega),cond_neg (by rw[aT];omega),cond_neg (by rw[aT];omega),cond_pos (by rw[bB];omega),q]),by omega,by omega,λh=>by omega⟩
  obtain⟨r,e,S,U,V⟩:=h524k z af af (λk I=>K k I (deep+1) af) d.Kids 0 1 rfl af af;obtain⟨l,D,⟨L,N,O⟩,P⟩:=h524p (deep:=deep) z af (q:=λl=>1<=l/\l<=(82-deep) *most+1/\(l<=most->l=1+eU d.Kids/\∀k∈d.Kids,fE (Lt1 most) k)) ⟨r,e,S,U,V⟩ ⟨af,by omega,λh=>by omega⟩ d.Path 0 rfl;refine⟨l,e524 (by rw[cond_neg (by rw[aT];omega),cond_neg (by rw[aT];omega),cond_neg (by rw[aT];omega),cond_neg (by rw[aT];omega)];exact D),L,N,λB=> ?_⟩;obtain⟨Q,R⟩:=O B;exact⟨by rw[zH,Q], .mk d ⟨af,by omega,P B,af⟩ R⟩
def c509 {most:Nat} (l:most<=1000) (d:aQ):∃b,f509 d most=some b/\(b=true->oN d<=most/\fE (Lt1 most) d):=by obtain⟨r,e,B,D,w⟩:=c524 l d 1 af;refine⟨decide ((r:Int)<=(most:Int)),e509 (by rw[show f524 d 1 most=some (r:Int) from e];rfl),λh=> ?_⟩;have h:(r:Int)<=most:=jP h;obtain⟨z,q⟩:=w af;exact⟨af,q⟩
end Go.Proofs.YtbnlhmaaccgbjaaGreatDoor.cl.pf
namespace Go.Proofs.YtbnlhmaaccgbjaaGreatDoor.cl.pf
open Go Go.AM
def Za (op:Int):f545 op=some (op==1||op==2||op==3):=by refine e545 ?_;cases op==1<;>cases op==2<;>rfl
structure Kd (d:aQ):Prop where
 leaf:d.Op=1\/d.Op=2\/d.Op=3->d.Kids.length=0
 one:d.Op=5->d.Kids.length=1
 two:d.Op=7->2<=d.Kids.length
def h554 {d:aQ} (w:d.Kids.length<=1073741824):∀(xs:List aQ) (i:Nat),d.Kids.drop i=xs->∃b,CM d.Kids.length i d=some b:=by intro xs;induction xs with
 |nil=>intro i l;exact⟨_,O8 (by rw[bq l,az])⟩
 |cons x xs z=>
  intro i l;obtain⟨b,e⟩:=z (i+1) (aI l);by_cases q:x.Op=4
  .exact⟨false,O8 (by rw[aV l,ak,aM l,cond_pos (by rw[q];rfl)])⟩
  .exact⟨b,O8 (by rw[aV l,ak,aM l,cond_neg (by simpa using q),aR l w];exact e)⟩
def c554 {d:aQ} (G:d.Kids.length<=1073741824):∃b,f554 d=some b/\(b=true->Kd d):=by
 by_cases l:d.Op=1
 .refine⟨_,e554 (by rw[cond_pos (by rw[l];rfl),cond_pos (by rw[l];rfl)]),λh=> ?_⟩;have h:(d.Kids.length:Int)=0:=by simpa using h
  exact⟨λ_=>by omega,λh=>by omega,λh=>by omega⟩
 by_cases q:d.Op=2
 .refine⟨_,e554 (by rw[cond_neg (by simpa using l),cond_pos (by rw[q];rfl),cond_pos (by rw[q];rfl)]),λh=> ?_⟩;have h:(d.Kids.length:Int)=0:=by simpa using h
  exact⟨λ_=>by omega,λh=>by omega,λh=>by omega⟩
 by_cases w:d.Op=3
 .refine⟨_,e554 (by rw[cond_neg (by simpa using l),cond_neg (by simpa using q),cond_pos (by rw[w];rfl)]),λh=> ?_⟩;have h:(d.Kids.length:Int)=0:=by simpa using h
  exact⟨λ_=>by omega,λh=>by omega,λh=>by omega⟩
 by_cases z:d.Op=5
 .refine⟨_,e554 (by rw[cond_neg (by simpa using l),cond_neg (by simpa using q),cond_neg (by simpa using w),cond_pos (by rw[z];rfl)]),λh=> ?_⟩;have h:(d.Kids.length:Int)=1:=by simpa using h
  exact⟨λh=>by omega,λ_=>by omega,λh=>by omega⟩
 by_cases B:d.Op=7
 .refine⟨_,e554 (by rw[cond_neg (by simpa using l),cond_neg (by simpa using q),cond_neg (by simpa using w),cond_neg (by simpa using z),cond_pos (by rw[B];rfl)]),λh=> ?_⟩;have h:(d.Kids.length:Int)>=2:=by simpa using h
  exact⟨λh=>by omega,λh=>by omega,λ_=>by omega⟩
 by_cases D:d.Op=4
 .obtain⟨b,e⟩:=h554 G d.Kids 0 rfl;exact⟨b,e554 (by rw[cond_neg (by simpa using l),cond_neg (by simpa using q),cond_neg (by simpa using w),cond_neg (by simpa using z),cond_neg (by simpa using B),cond_pos (by rw[D];rfl)];exact e),λ_=>⟨λh=>by omega,λh=>by omega,λh=>by omega⟩⟩
 .exact⟨true,e554 (by rw[cond_neg (by simpa using l),cond_neg (by simpa using q),cond_neg (by simpa using w),cond_neg (by simpa using z),cond_neg (by simpa using B),cond_neg (by simpa using D)]),λ_=>⟨λh=>by omega,λh=>by omega,λh=>by omega⟩⟩
def h538 {d:aQ} (w:d.Kids.length<=1073741824) (hp:d.Path.length<=1073741824):∀(xs:List (List UInt8)) (i:Nat),d.Path.drop i=xs->∃b,LZ i d=some b/\(b=true->Kd d):=by intro xs;induction xs with
 |nil=>intro i l;obtain⟨b,e,h⟩:=c554 w;exact⟨b,VJ (by rw[bq l,az,e,aj]),h⟩
 |cons x xs z=>intro i l;obtain⟨b,e,h⟩:=z (i+1) (aI l);cases q:vW x with
  |false=>exact⟨false,VJ (by rw[aV l,ak,aM l,c372,q,aj,eM,ak]),λh=>by cases h⟩
  |true=>exact⟨b,VJ (by rw[aV l,ak,aM l,c372,q,aj,dx,az,aR l hp];exact e),h⟩
def pth {d:aQ} (h:(!((d.Op==5)==(decide ((length d.Path:Int)>0))))=false) (q:d.Op≠5):d.Path=[]:=by rw[show(d.Op==5)=false by simpa using q] at h;cases hp:d.Path with
 |nil=>rfl
 |cons x l=>rw[hp,show decide ((length (x::l):Int)>0)=true from qb (by rw[bp];omega)] at h;cases h
def c538 {d:aQ} (D:d.Kids.length<=1073741824) (hp:d.Path.length<=1073741824):∃b,f538 d=some b/\(b=true->Kd d/\(d.Op≠5->d.Path=[])):=by obtain⟨b,e,h⟩:=h538 D hp d.Path 0 rfl;cases q: !((d.Op==1||d.Op==2||d.Op==3)==isName d.Name) with
 |true=>exact⟨false,e538 (by rw[Za,aj,JN,aj,q,ak]),λh=>by cases h⟩
 |false=>cases w:(d.Op==1||d.Op==2||d.Op==3) with
  |false=>cases z: !(d.Name==([]:List UInt8)) with
   |true=>exact⟨false,e538 (by rw[Za,aj,JN,aj,q,az,aj,w,eM,ak,z,ak]),λh=>by cases h⟩
   |false=>cases l: !((d.Op==5)==(decide ((length d.Path:Int)>0))) with
    |true=>exact⟨false,e538 (by rw[Za,aj,JN,aj,q,az,aj,w,eM,ak,z,az,l,ak]),λh=>by cases h⟩
    |false=>exact⟨b,e538 (by rw[Za,aj,JN,aj,q,az,aj,w,eM,ak,z,az,l,az];exact e),λB=>⟨h B,pth l⟩⟩
  |true=>cases l: !((d.Op==5)==(decide ((length d.Path:Int)>0))) with
   |true=>exact⟨false,e538 (by rw[Za,aj,JN,aj,q,az,aj,w,dx,az,l,ak]),λh=>by cases h⟩
   |false=>exact⟨b,e538 (by rw[Za,aj,JN,aj,q,az,aj,w,dx,az,l,az];exact e),λB=>⟨h B,pth l⟩⟩
structure Fm (d:aQ):Prop where
 op:1<=d.Op/\d.Op<=8
 kd:Kd d
 pl:d.Path.length<=64
 kl:d.Kids.length<=256
 ph:d.Op≠5->d.Path=[]
def h525 {d:aQ} {inner:Nat} (L:d.Kids.length<=256) (q:∀k∈d.Kids,∃r,f525 k inner=some r/\(r=0->fE Fm k)):∀(xs:List aQ) (i:Nat),d.Kids.drop i=xs->∃r,Aj inner i d=some r/\(r=0->∀k∈xs,fE Fm k):=by intro xs;induction xs with
 |nil=>intro i l;exact⟨0,O5 (by rw[bq l,az]),λ_ k q=>by cases q⟩
 |cons x xs I=>
  intro i l;have G:x∈d.Kids:=by
   have:x∈d.Kids.drop i:=by rw[l];exact gE ..
   exact ji this
  obtain⟨r,e,h⟩:=q x G;obtain⟨K,z,D⟩:=I (i+1) (aI l);by_cases w:r=0
  .refine⟨K,O5 (by rw[aV l,ak,aM l,e,aj,cond_neg (by simpa using w),aR l af];exact z),λB k q=> ?_⟩;rcases aJ.1 q with rfl|q
   .exact h w
   .exact D B k q
  .exact⟨r,O5 (by rw[aV l,ak,aM l,e,aj,cond_pos (by simpa using w)]),λh=>absurd h w⟩
def c525 (d:aQ):∀level:Nat,level<=65->∃r,f525 d level=some r/\(r=0->fE Fm d):=by induction d using j8 with
 |h d D=>
  intro level G;by_cases K:level>64
  .exact⟨7,e525 (by rw[cond_pos (by rw[bB];omega)]),λh=>by omega⟩
  by_cases L:d.Path.length>64
  .exact⟨7,e525 (by rw[cond_neg (by rw[aT];omega),cond_pos (by rw[bB];omega)]),λh=>by omega⟩
  by_cases N:d.Kids.length>256
  .exact⟨7,e525 (by rw[cond_neg (by rw[aT];omega),cond_neg (by rw[aT];omega),cond_pos (by rw[bB];omega)]),λh=>by omega⟩
  by_cases O:d.Op<1
  .exact⟨14,e525 (by rw[cond_neg (by rw[aT];omega),cond_neg (by rw[aT];omega),cond_neg (by rw[aT];omega),cond_pos (by rw[bB];omega)]),λh=>by omega⟩
  by_cases P:d.Op>8
  .exact⟨14,e525 (by rw[cond_neg (by rw[aT];omega),cond_neg (by rw[aT];omega),cond_neg (by rw[aT];omega),cond_neg (by rw[aT];omega),cond_pos (by rw[bB];omega)]),λh=>by omega⟩
  obtain⟨b,e,B⟩:=c538 (d:=d) af af
  have pre:∀r,(bif !b then some 1 else bif d.Op==4 then Aj level 0 d else Aj (wrap .i64 ((level:Int)+1)) 0 d)=some r->f525 d level=some r:=λr I=>e525 (by
   rw[cond_neg (by rw[aT];omega),cond_neg (by rw[aT];omega),cond_neg (by rw[aT];omega),cond_neg (by rw[aT];omega),cond_neg (by rw[aT];omega),e,aj]
   exact I)
  cases b with
  |false=>exact⟨1,pre 1 (by rw[eM,ak]),λh=>by omega⟩
  |true=>
   have hF:Fm d:=⟨⟨af,af⟩,(B rfl).1,by omega,by omega,(B rfl).2⟩
   by_cases z:d.Op=4
   .obtain⟨r,l,h⟩:=h525 (inner:=level) af (λk w=>D k w level af) d.Kids 0 rfl;exact⟨r,pre r (by rw[dx,az,cond_pos (by simpa using z)];exact l),λq=> .mk d hF (h q)⟩
   .obtain⟨r,l,h⟩:=h525 (inner:=level+1) af (λk w=>D k w (level+1) af) d.Kids 0 rfl;exact⟨r,pre r (by rw[dx,az,cond_neg (by simpa using z),bP af];exact l),λq=> .mk d hF (h q)⟩
def c510 (d:aQ):∃r,f510 d=some r/\(r=0->fE Fm d):=by obtain⟨r,e,h⟩:=c525 d 1 af;exact⟨r,e510 (by rw[show f525 d 1=some r from e,aj]),h⟩
structure LD (d:aQ):Prop where
 cnt:oN d<=12
 lt:fE (Lt1 12) d
 fm:fE Fm d
 sh:fE (λd=>d.Path.length<=4) d
def c503 (d:aQ):∃b,f503 d=some b/\(b=true->LD d):=by obtain⟨b,e,h⟩:=c509 (most:=12) af d;have e:f509 d 12=some b:=e;cases b with
 |false=>exact⟨false,e503 (by rw[e,aj,az]),λh=>by cases h⟩
 |true=>
  obtain⟨B,w⟩:=h rfl;obtain⟨r,q,D⟩:=c510 d;by_cases l:r=0
  .obtain⟨b,z,G⟩:=c511 d (w.imp λd h=>by have:=h.kl;omega);exact⟨b,e503 (by rw[e,aj,ak,q,aj,cond_pos (by simpa using l),z,aj]),λI=>⟨B,w,D l,G I⟩⟩
  .exact⟨false,e503 (by rw[e,aj,ak,q,aj,cond_neg (by simpa using l)]),λh=>by cases h⟩
structure YU (x:Def):Prop where
 nm:isName x.Name=true
 st:LD x.jH
 df:∀y∈x.eS,LD y
 dl:x.eS.length<=3
def h523 {x:Def} (I:x.eS.length<=3):∀(xs:List aQ) (i:Nat),x.eS.drop i=xs->∃b,QH i x=some b/\(b=true->∀y∈xs,LD y):=by intro xs;induction xs with
 |nil=>intro i l;exact⟨true,VG (by rw[bq l,az]),λ_ k q=>by cases q⟩
 |cons y xs G=>intro i l;obtain⟨b,e,h⟩:=c503 y;obtain⟨w,z,B⟩:=G (i+1) (aI l);cases b with
  |false=>exact⟨false,VG (by rw[aV l,ak,aM l,e,aj,eM,ak]),λh=>by cases h⟩
  |true=>
   refine⟨w,VG (by rw[aV l,ak,aM l,e,aj,dx,az,aR l af];exact z),λD k q=> ?_⟩;rcases aJ.1 q with rfl|q
   .exact h rfl
   .exact B D k q
def c523 (x:Def):∃b,f523 x=some b/\(b=true->YU x):=by cases l:isName x.Name with
 |false=>exact⟨false,e523 (by rw[JN,l,aj,eM,ak]),λh=>by cases h⟩
 |true=>
  by_cases D:x.eS.length>3
  .exact⟨false,e523 (by rw[JN,l,aj,dx,az,cond_pos (by rw[bB];omega)]),λh=>by cases h⟩
  obtain⟨b,e,w⟩:=c503 x.jH;cases b with
  |false=>exact⟨false,e523 (by rw[JN,l,aj,dx,az,cond_neg (by rw[aT];omega),e,aj,eM,ak]),λh=>by cases h⟩
  |true=>obtain⟨b,q,z⟩:=h523 (x:=x) af x.eS 0 rfl;exact⟨b,e523 (by rw[JN,l,aj,dx,az,cond_neg (by rw[aT];omega),e,aj,dx,az];exact q),λB=>⟨l,w rfl,z B,af⟩⟩
def h502 {l:List Def} (K:l.length<=4):∀(xs:List Def) (i:Nat),l.drop i=xs->∃b,QB l i=some b/\(b=true->∀y∈xs,YU y):=by intro xs;induction xs with
 |nil=>intro i q;exact⟨true,VC (by rw[bq q,az]),λ_ k w=>by cases w⟩
 |cons y xs I=>intro i q;obtain⟨b,e,h⟩:=c523 y;obtain⟨z,B,D⟩:=I (i+1) (aI q);cases b with
  |false=>exact⟨false,VC (by rw[aV q,ak,aM q,e,aj,eM,ak]),λh=>by cases h⟩
  |true=>
   refine⟨z,VC (by rw[aV q,ak,aM q,e,aj,dx,az,aR q af];exact B),λG k w=> ?_⟩;rcases aJ.1 w with rfl|w
   .exact h rfl
   .exact D G k w
def c502 (l:List Def):∃b,f502 l=some b/\(b=true->l.length<=4/\∀y∈l,YU y):=by
 by_cases h:l.length>4
 .exact⟨false,e502 (by rw[cond_pos (by rw[bB];omega)]),λh=>by cases h⟩
 obtain⟨b,e,q⟩:=h502 (l:=l) af l 0 rfl;exact⟨b,e502 (by rw[cond_neg (by rw[aT];omega)];exact e),λw=>⟨af,q w⟩⟩
end Go.Proofs.YtbnlhmaaccgbjaaGreatDoor.cl.pf
namespace Go.Proofs.YtbnlhmaaccgbjaaGreatDoor.cl.pf
open Go Go.AM
def halfI {i j:Nat} (h:i+j<=2097152):wrap .i64 (Int.fdiv (wrap .u64 (wrap .i64 ((i:Int)+(j:Int)))) (2^ min (Int.toNat 1) (IntKind.bits .u64)))=(((i+j) / 2:Nat):Int):=by
 have e1:wrap .i64 ((i:Int)+(j:Int))=((i+j:Nat):Int):=by rw[oy af af];omega
 have l:wrap .u64 ((i+j:Nat):Int)=((i+j:Nat):Int):=xE af;have q:(2^ min (Int.toNat 1) (IntKind.bits .u64):Int)=2:=by rfl
 rw[e1,l,q,Int.fdiv_eq_ediv_of_nonneg _ af];rw[oy af af];omega
def W9 (a b:b9):decide (Mj a b<0)=Op.bytesLess a b:=by unfold Mj;cases Op.bytesLess a b with
 |true=>rfl
 |false=>cases a==b<;>rfl
def cmpS_eq {a b:b9} (h:Op.bytesLess a b=false):(Mj a b==0)=(a==b):=by unfold Mj;rw[h];cases a==b<;>rfl
def Me (t:List Template):Prop:=t.Pairwise λa b=>Op.bytesLess a.Name b.Name=true
def Me.lt {t:List Template} (h:Me t) {i j:Nat} {x y:Template} (z:t[i]? =some x) (B:t[j]? =some y) (l:i<j):Op.bytesLess x.Name y.Name=true:=by obtain⟨q,rfl⟩:=bQ.1 z;obtain⟨w,rfl⟩:=bQ.1 B;exact nT.1 h i j q w l
def h540 {t:List Template} (K:Me t) (U:t.length<=1000) (s:b9):∀(n i j:Nat),j-i=n->i<=j->j<=t.length->(∀k x,k<i->t[k]? =some x->Op.bytesLess x.Name s=true)->(∀k x,j<=k->t[k]? =some x->Op.bytesLess x.Name s=false)->
  ∃(k:Nat) (b:Bool),L0 t s t.length i j=some ((k:Int),b)/\(b=true->∃x,t[k]? =some x/\x.Name=s)/\(b=false->∀x∈t,x.Name≠s):=by
 intro n;induction n using Nat.strongRecOn with
 |_ n O=>
  intro i j V Q R B z;by_cases S:i<j
  .have L:(i+j) / 2<t.length:=af;have q:=aK L;cases e:Op.bytesLess t[(i+j) / 2].Name s with
   |true=>
    obtain⟨k,b,G,I⟩:=O (j-((i+j) / 2+1)) af ((i+j) / 2+1) j rfl af R (λk x w l=>by
     by_cases h:k=(i+j) / 2
     .subst h;rw[q] at l;cases l;exact e
     .exact vI _ _ _ (K.lt l q af) e) z
    refine⟨k,b,O6 ?_,I⟩;rw[cond_pos (by rw[bB];omega),bU (by decide),halfI af,cO L,c556,aj,W9,e,ak,bP af];exact G
   |false=>
    obtain⟨k,b,G,I⟩:=O ((i+j) / 2-i) af i ((i+j) / 2) rfl af af B (λk x w l=>by
     by_cases h:k=(i+j) / 2
     .subst h;rw[q] at l;cases l;exact e
     .cases P:Op.bytesLess x.Name s with
      |false=>rfl
      |true=>rw[vI _ _ _ (K.lt q l af) P] at e;cases e)
    refine⟨k,b,O6 ?_,I⟩;rw[cond_pos (by rw[bB];omega),bU (by decide),halfI af,cO L,c556,aj,W9,e,az];exact G
  .have e:i=j:=af;subst e;by_cases N:i<t.length
   .have q:=aK N;refine⟨i,t[i].Name==s,O6 ?_,λD=>⟨_,q,by simpa using D⟩,λD x l e=> ?_⟩
    .rw[cond_neg (by rw[aT];omega),cond_pos (by rw[bB];omega),cO N,c556,aj,cmpS_eq (z i _ (aU _) q)]
    .obtain⟨k,w⟩:=jO.1 l;rcases zj k i with h|h|h
     .exact JL (B k x h w) e
     .subst h;rw[q] at w;cases w;simp[e] at D
     .have:=K.lt q w h;rw[e,z i _ (aU _) q] at this;cases this
   .refine⟨i,false,O6 ?_,λD=>(by cases D),λ_ x l e=> ?_⟩
    .rw[cond_neg (by rw[aT];omega),cond_neg (by rw[aT];omega)]
    .obtain⟨k,w⟩:=jO.1 l;exact JL (B k x (by have:=(bQ.1 w).1;omega) w) e
abbrev tpos (t:List Template) (s:b9):Int:=sK (λx=>x.Name==s) t 0
def tfind {t:List Template} (B:Me t) (Q:t.length<=1000) (s:b9):∃(k:Nat) (b:Bool),(∀K I A D,R7 s K I t A D=some (((k:Int),b),A,D))/\
  ((b=true/\tpos t s=k/\∃x,t[k]? =some x/\x.Name=s)\/(b=false/\tpos t s= -1)):=by
 obtain⟨k,b,O,L,P⟩:=h540 B Q s t.length 0 t.length af af (aU _) (λk x N=>absurd N af) (λk x N R=>by have:=(bQ.1 R).1;omega);refine⟨k,b,λK I A D=>e528a (by rw[e540 O,aj]),?_⟩;rcases sY (λx:Template=>x.Name==s) t 0 with⟨G,w⟩|⟨j,x,G,w,z,S⟩
 .cases b with
  |true=>obtain⟨x,l,q⟩:=L rfl;have:=w x (aZ l);simp[q] at this
  |false=>exact .inr ⟨rfl,G⟩
 .have z:x.Name=s:=by simpa using z
  cases b with
  |false=>exact(P rfl x (aZ w) z).elim
  |true=>
   obtain⟨y,l,q⟩:=L rfl;refine .inl ⟨rfl,?_,y,l,q⟩
   have:j=k:=by
    rcases zj j k with h|h|h
    .exact(JL (B.lt w l h) (by rw[z,q])).elim
    .exact h
    .exact(JL (B.lt l w h) (by rw[z,q])).elim
   exact G.trans (by rw[this,eO])
structure G4 (t u:List Template):Prop where
 Ay:Me u
 len:u.length<=1000
 same:∀s,(tpos t s= -1/\tpos u s= -1)\/∃(i j:Nat) (x:Template),tpos t s=i/\t[i]? =some x/\tpos u s=j/\u[j]? =some x
theorem G4.refl {t:List Template} (h:Me t) (w:t.length<=1000):G4 t t:=⟨h,w,λs=>by
 rcases sY (λx:Template=>x.Name==s) t 0 with⟨l,_⟩|⟨j,x,l,q,_⟩
 .exact .inl ⟨l,l⟩
 .rw[eO] at l
  exact .inr ⟨j,j,x,l,q,l,q⟩⟩
theorem G4.find {t u:List Template} (h:G4 t u) (s:b9):∃(k:Nat) (b:Bool),(∀D B A w,R7 s D B u A w=some (((k:Int),b),A,w))/\
  ((b=true/\∃(i:Nat) (x:Template),tpos t s=i/\t[i]? =some x/\u[k]? =some x)\/(b=false/\tpos t s= -1)):=by
 obtain⟨k,b,G,I⟩:=tfind h.Ay h.len s;refine⟨k,b,G,?_⟩;rcases h.same s with⟨l,z⟩|⟨i,j,x,l,z,N,K⟩<;>rcases I with⟨q,L,_⟩|⟨q,L⟩
 .omega
 .exact .inr ⟨q,l⟩
 .have:j=k:=af
  exact .inl ⟨q,i,x,l,z,this▸K⟩
 .omega
abbrev mQ (h:aN) (s:b9):Int:=sK (λx=>x.Name==s) h.Types 0
abbrev gP (h:aN) (s:b9):Int:=sK (λx=>x.Name==s) h.bJ 0
def Pw {w:Type} (p:w->Bool) (l:List w):sK p l 0<(l.length:Int)/\-1<=sK p l 0:=by
 rcases sY p l 0 with⟨q,_⟩|⟨j,x,q,z,_⟩
 .rw[q];omega
 .have:=(bQ.1 z).1;rw[q];omega
def h521 {l:Int}:∀(n:Nat) (p:List Int),p.length+n<=100000->QG l (n:Int) p=some (p++List.replicate n l):=by intro n;induction n with
 |zero=>intro p _;refine ac8 ?_;rw[cond_neg (by rfl)];simp
 |succ n q=>intro p hp;refine ac8 ?_;rw[cond_pos (by rw[bB];omega),cC _ af ai af,oz af,q _ aH,eo,Er,<-q7]
def Oe {l:Int} {n:Nat} {p:List Int} (hp:p.length+n<=100000):f521 p l (n:Int)=some (p++List.replicate n l):=by refine e521 ?_;rw[cC _ ai af af,dK];exact h521 n p hp
def h534 {h:aN} (B:h.bJ.length<=1000) {t:List Template} {A:List Node} {w:List (b9×List Int)} {q:List b9} (D:q.length<=1000):∀(xs:List b9) (i:Nat) (p:List Int),q.drop i=xs->p.length+xs.length<=100000->
  Jh q q.length i p h.Types h.bJ t A w=some (p++xs.map (gP h),A,w):=by
 intro xs;induction xs with
 |nil=>intro i p l hp;refine XX ?_;rw[bq l,az];simp
 |cons x xs z=>intro i p l hp;simp only[bp] at hp;refine XX ?_;rw[aV l,ak,aM l,show aN.mk h.Types h.bJ=h from rfl,c363 _ _ af,aj,cC _ af ai af,aR l af,z (i+1) _ (aI l) aH];simp
def aa0 {h:aN} (w:h.bJ.length<=1000) {t:List Template} {A:List Node} {q:List (b9×List Int)} {l:List b9} (z:l.length<=1000) {p:List Int} (hp:p.length<=1000):By p l h.Types h.bJ t A q=some (p++l.map (gP h),A,q):=by refine e534a ?_;rw[c460 af,aj];exact h534 w z l 0 p rfl af
end Go.Proofs.YtbnlhmaaccgbjaaGreatDoor.cl.pf
namespace Go.Proofs.YtbnlhmaaccgbjaaGreatDoor.cl.pf
open Go Go.AM
abbrev yG:b9:=[108,105,115,116]
abbrev AL:b9:=[99,111,110,115]
abbrev yH:b9:=[110,117,108,108]
abbrev uy:b9:=[100,108,105,115,116]
abbrev pK:b9:=[70,73,82,83,84]
abbrev tY:b9:=[82,69,83,84]
abbrev Fx:b9:=[76,73,83,84]
abbrev tX:b9:=[76,65,83,84]
structure LT (h:aN):Prop where
 li:0<=mQ h yG
 co:0<=mQ h AL
 nu:0<=mQ h yH
 dl:0<=mQ h uy
 fi:0<=gP h pK
 re:0<=gP h tY
 he:0<=gP h Fx
 la:0<=gP h tX
 ok:f516 h=some true
def X1 (a b:Int):decide ((if a<b then a else b)<0)=(decide (a<0)||decide (b<0)):=by
 by_cases h:a<b
 .rw[aB h];by_cases l:a<0
  .simp[l]
  .have:¬b<0:=af
   simp[l,this]
 .rw[au h];by_cases l:b<0
  .simp[l]
  .have:¬a<0:=af
   simp[l,this]
section
variable {h:aN} {T F:Nat} {sb:Int->Int->Prop} {bS:Int->Int} {val:Int->Int->Int} (H:HX h T F sb bS val) (hT:T<=1000) (hF:F<=300)
include H hT hF
theorem c529 {nu:Int} (O:0<=nu/\nu<(T:Int)) (w:world) (P:w.null=nu):∃L,(Option.bind (f550 1) λq=>bif(!q) then(some ((FSt.mk ([]:List Node)),7)) else(Option.bind (f551 w) λz=>Option.bind (f552 w z) λB=>Option.bind (f437 B.1) λl=>some (l.1,l.2)))=some (L,(0:Int)):=by
 have D:f550 1=some true:=e550 (k550_2 (by rw[cond_neg (by rfl)]));have G:f551 w=some nu:=e551 (by rw[P]);have I:f552 w nu=some (⟨[⟨nu,[]⟩]⟩,0):=by refine e552 (k552_3 ?_);rw[cond_neg (by rfl),cC _ ai ai af];rfl
 have N:Can T F ⟨[⟨nu,[]⟩]⟩:=vh (T:=T) (F:=F) (π:=[]) (t:=nu) af ai O;have K:=c437 N ai af ai;refine⟨⟨[⟨nu,[]⟩]⟩,?_⟩;rw[D,aj,cond_neg (by rfl),G,aj,I,aj,K,aj]
theorem c516:∃b,f516 h=some b/\(b=true->LT h)/\∃fs e,f529 h=some (fs,e)/\(e !=0)= !b:=by
 have hfl:=H.hv.fl;have Vq:=H.tl;have K:∀s,f352 h s=some (mQ h s):=λs=>c352 s h af
 have L:∀s,f364 h s=some (mQ h s):=λs=>c364 s h af
 have N:∀s,f363 h s=some (gP h s):=λs=>c363 s h af
 have O:∀s,f365 h s=some (gP h s):=λs=>zF s h af
 have tl:∀s,mQ h s<(T:Int):=λs=>by
  have:mQ h s<(h.Types.length:Int):=(Pw _ _).1
  omega
 have l1:=tl yG;have l2:=tl AL;have l3:=tl yH;have l4:=tl uy;by_cases B:0<=mQ h yG/\0<=mQ h AL/\0<=mQ h yH/\0<=mQ h uy/\0<=gP h pK/\0<=gP h tY/\0<=gP h Fx/\0<=gP h tX
 .obtain⟨w,P,z,Q,R,S,U,h8⟩:=B;obtain⟨I,s1,s2,_⟩:=H.ss _ _ w l1 P l2;obtain⟨V,s3,s4,_⟩:=H.ss _ _ w l1 z l3;have l:∀{x:Int},0<=x->decide (x<0)=false:=λhx=>by rw[aT];omega
  have G:f516 h=some (I&&V):=e516 (by rw[L,aj,L,aj,L,aj,l w,az,l P,az,l z,az,L,aj,l Q,az,O,aj,l R,az,O,aj,l S,az,O,aj,l U,az,O,aj,l h8,az,s2,aj];cases I with
   |false=>rw[az];rfl
   |true=>rw[ak,s4,aj];rfl)
  refine⟨I&&V,G,λhb=>⟨w,P,z,Q,R,S,U,h8,by rw[G,hb]⟩,?_⟩
  .have o:∀r,(bif(!I) then(some ((world.mk (aN.mk ([]:List fO) ([]:List cU)) 0 0 0 0 0 0 0 0),(5:Int))) else(Option.bind (f339 h (mQ h yG) (mQ h yH)) λy219=>bif(!y219) then(some ((world.mk (aN.mk ([]:List fO) ([]:List cU)) 0 0 0 0 0 0 0 0),5)) else(some ((world.mk h (mQ h yG) (mQ h AL) (mQ h yH) (mQ h uy) (gP h pK) (gP h tY) (gP h Fx) (gP h tX)),0))))=some r->f549 h=some r:=λr hr=>by
    refine e549 ?_;rw[K,aj,K,aj,K,aj,K,aj,N,aj,N,aj,N,aj,N,aj];simp only[X1,l w,l P,l z,l Q,l R,l S,l U,l h8,rK,az];rw[s1,aj];exact hr
   cases hb:I&&V with
   |true=>
    have e1:I=true:=by cases I<;>simp_all
    have e2:V=true:=by cases V<;>simp_all
    obtain⟨fs,g⟩:=c529 H hT hF ⟨z,l3⟩ (world.mk h (mQ h yG) (mQ h AL) (mQ h yH) (mQ h uy) (gP h pK) (gP h tY) (gP h Fx) (gP h tX)) rfl;refine⟨fs,0,e529 ?_,rfl⟩;have q:f549 h=some (_,0):=o _ (by rw[e1,cond_neg (by rfl),s3,aj,e2,cond_neg (by rfl)]);rw[e541 (r:=(fs,0)) (by rw[q,aj,cond_neg (by rfl)];exact g),aj]
   |false=>
    refine⟨⟨[]⟩,5,e529 ?_,rfl⟩
    have q:f549 h=some (_,5):=o (world.mk (aN.mk ([]:List fO) ([]:List cU)) 0 0 0 0 0 0 0 0,5) (by cases I with
     |false=>rw[cond_pos (by rfl)]
     |true=>cases V with
      |true=>cases hb
      |false=>rw[cond_neg (by rfl),s3,aj,cond_pos (by rfl)])
    rw[e541 (r:=(⟨[]⟩,5)) (by rw[q,aj,cond_pos (by rfl)]),aj]
 .have l:∀{x:Int},¬x<0->decide (x<0)=false:=λhx=>by rw[aT];exact hx
  have D:∀{x:Int},x<0->decide (x<0)=true:=λhx=>qb hx
  refine⟨false,e516 ?_,λhb=>(by cases hb),⟨[]⟩,5,e529 ?_,rfl⟩
  .rw[L,aj,L,aj,L,aj];by_cases w:mQ h yG<0
   .rw[D w,ak]
   rw[l w,az];by_cases P:mQ h AL<0
   .rw[D P,ak]
   rw[l P,az];by_cases z:mQ h yH<0
   .rw[D z,ak]
   rw[l z,az,L,aj];by_cases Q:mQ h uy<0
   .rw[D Q,ak]
   rw[l Q,az,O,aj];by_cases R:gP h pK<0
   .rw[D R,ak]
   rw[l R,az,O,aj];by_cases S:gP h tY<0
   .rw[D S,ak]
   rw[l S,az,O,aj];by_cases U:gP h Fx<0
   .rw[D U,ak]
   rw[l U,az,O,aj,D (x:=gP h tX) af,ak]
  .have q:f549 h=some (world.mk (aN.mk ([]:List fO) ([]:List cU)) 0 0 0 0 0 0 0 0,5):=by
    refine e549 ?_;rw[K,aj,K,aj,K,aj,K,aj,N,aj,N,aj,N,aj,N,aj];simp only[X1];rw[cond_pos];simp only[gK,nM];unfold yG AL yH uy pK tY Fx tX at B;omega
   rw[e541 (r:=(⟨[]⟩,5)) (by rw[q,aj,cond_pos (by rfl)]),aj]
end
