/- Build. -/
import Derived.Test.YtacapiamkgkkjaaGreatDoorClVb
set_option linter.all false
open Go.IntKind (wrap)
open List (length)
namespace Go.Proofs.YtacapiamkgkkjaaGreatDoor.cl.pf
open Go Go.AM
def CT {x:Int} (l:0<=x) (q:x<=1073741824):wrap .i64 x=x:=by obtain⟨n,rfl⟩:=fW l;cases n with
 |zero=>rfl
 |succ n=>exact bJ af
def qH {q:Type} (p:q->Bool):List q->Nat->Int
 |[],_=> -1
 |x::l,i=>if p x then(i:Int) else qH p l (i+1)
theorem nQ {q:Type} (p:q->Bool) (x:q) (l:List q) (i:Nat):qH p (x::l) i=if p x then(i:Int) else qH p l (i+1):=rfl
def oA {w:Type} (p:w->Bool):∀(l:List w) (i:Nat),(qH p l i= -1/\∀x∈l,p x=false)\/∃k,∃x,qH p l i=((i+k:Nat):Int)/\l[k]? =some x/\p x=true/\∀j,j<k->∀y,l[j]? =some y->p y=false
 |[],i=> .inl ⟨rfl,λx G=>by cases G⟩
 |x::l,i=>by rw[nQ];cases hp:p x with
  |true=>exact .inr ⟨0,x,by rfl,rfl,hp,λj q=>absurd q (Nat.not_lt_zero _)⟩
  |false=>
   rw[aA ai];rcases oA p l (i+1) with⟨B,D⟩|⟨k,y,B,D,F,H⟩
   .simp_all
   .refine .inr ⟨k+1,y,by omega,by assumption,F,λj q z I=> ?_⟩;grind
def h364 (s:bV) (h:aV) (q:h.Types.length<=1073741824):∀(xs:List fL) (i:Nat),h.Types.drop i=xs->Rg s i h=some (qH (λx=>x.Name==s) xs i):=by intro xs;induction xs with
 |nil=>intro i l;refine ady ?_;rw[bg l];rfl
 |cons x xs w=>intro i l;refine ady ?_;rw[aR l,aK l,aN l q,w _ (aI l)];grind[nQ]
def c364 (s:bV) (h:aV) (l:h.Types.length<=1073741824):f364 h s=some (qH (λx=>x.Name==s) h.Types 0):=e364 (h364 s h l _ 0 rfl)
def h365 (s:bV) (h:aV) (q:h.bG.length<=1073741824):∀(xs:List dg) (i:Nat),h.bG.drop i=xs->Rh s i h=some (qH (λx=>x.Name==s) xs i):=by intro xs;induction xs with
 |nil=>intro i l;refine adz ?_;rw[bg l];rfl
 |cons x xs w=>intro i l;refine adz ?_;rw[aR l,aK l,aN l q,w _ (aI l)];grind[nQ]
def zZ (s:bV) (h:aV) (l:h.bG.length<=1073741824):f365 h s=some (qH (λx=>x.Name==s) h.bG 0):=e365 (h365 s h l _ 0 rfl)
def h353a (s:bV) (l:List fL) (w:l.length<=1073741824):∀(xs:List fL) (i:Nat),l.drop i=xs->JF l s l.length i=some (qH (λx=>x.Name==s) xs i):=by intro xs;induction xs with
 |nil=>intro i q;refine Yq ?_;rw[bg q];rfl
 |cons x xs z=>intro i q;refine Yq ?_;rw[aR q,aK q,e374 rfl,aN q w,z _ (aI q)];grind[nQ]
def c352 (s:bV) (h:aV) (l:h.Types.length<=1073741824):f352 h s=some (qH (λx=>x.Name==s) h.Types 0):=by refine e352 ?_;rw[e353a (h353a s _ l _ 0 rfl)];rfl
def h363 (s:bV) (h:aV) (l:List dg) (w:l.length<=1073741824):∀(xs:List dg) (i:Nat),l.drop i=xs->Rf s l l.length i h=some (qH (λx=>x.Name==s) xs i):=by intro xs;induction xs with
 |nil=>intro i q;refine adx ?_;rw[bg q];rfl
 |cons x xs z=>intro i q;refine adx ?_;rw[aR q,aK q,aN q w,z _ (aI q)];grind[nQ]
def c363 (s:bV) (h:aV) (l:h.bG.length<=1073741824):f363 h s=some (qH (λx=>x.Name==s) h.bG 0):=e363 (h363 s h _ l _ 0 rfl)
def h515 (s:bV) (t:List Template) (q:t.length<=1073741824):∀(xs:List Template) (i:Nat),t.drop i=xs->RC t s i=some (qH (λx=>x.Name==s) xs i):=by intro xs;induction xs with
 |nil=>intro i l;refine ad4 ?_;rw[bg l];rfl
 |cons x xs w=>intro i l;refine ad4 ?_;rw[aR l,aK l,aN l q,w _ (aI l)];grind[nQ]
def ZU (s:bV) (t:List Template) (l:t.length<=1073741824):f515 t s=some (qH (λx=>x.Name==s) t 0):=e515 (h515 s t l _ 0 rfl)
def h539 (s:bV) (t:List Def) (q:t.length<=1073741824):∀(xs:List Def) (i:Nat),t.drop i=xs->RH t s i=some (qH (λx=>x.Name==s) xs i):=by intro xs;induction xs with
 |nil=>intro i l;refine ad8 ?_;rw[bg l];rfl
 |cons x xs w=>intro i l;refine ad8 ?_;rw[aR l,aK l,aN l q,w _ (aI l)];grind[nQ]
def c539 (s:bV) (t:List Def) (l:t.length<=1073741824):f539 t s=some (qH (λx=>x.Name==s) t 0):=e539 (h539 s t l _ 0 rfl)
def h555 (s:bV) (t:List bV) (q:t.length<=1073741824):∀(xs:List bV) (i:Nat),t.drop i=xs->RK t s i=some (xs.any λx=>x==s):=by intro xs;induction xs with
 |nil=>intro i l;refine aed ?_;rw[bg l];rfl
 |cons x xs w=>intro i l;refine aed ?_;rw[aR l,aK l,aN l q,w _ (aI l)];grind
def c555 (s:bV) (t:List bV) (l:t.length<=1073741824):f555 t s=some (t.any λx=>x==s):=e555 (h555 s t l _ 0 rfl)
def c414 (t:Int):f414 t=some ⟨t,[]⟩:=e414 rfl
def c460 {l:List Int} (w:l.length<=1000000):f460 l=some l:=by refine pX ?_;refine lS ?_;have q:Nat.ble ((List.map (eC .i64) l).length *8) 140737488355328=true:=og (by grind);show(bif Nat.ble _ _ then _ else _)=_;rw[q];rfl
def udN (k:Nat) (x:Node):Node:=⟨x.eF,x.cn.map λa=>⟨a.bP,wrap .i64 (a.To+(k:Int))⟩⟩
def Gh:Nat->List Int->List Node
 |_,[]=>[]
 |k,f::l=>⟨0,[⟨f,(k+1:Nat)⟩]⟩::Gh (k+1) l
def Cj:∀(k:Nat) (l:List Int),(Gh k l).length=l.length
 |_,[]=>rfl
 |k,f::l=>by simp[Gh,bA,Cj _ _]
def CZ (l:List Int) (f:FSt):FSt:=⟨Gh 0 l++f.az.map (udN l.length)⟩
section
variable {p:List Int} {f:FSt} (hp:p.length<=1000000) (hf:f.az.length<=1000000) (ha:∀x∈f.az,x.cn.length<=1000000)
include hp hf ha
theorem h430_12 {i:Nat} (G:i<f.az.length) {l:List cD} (I:l.length<=1000000) {ty:Int} {D:FSt} {o:List Node} (K:o.length<=2000000) {z:List cD} {r:FSt}:∀(xs:List cD) (k:Nat) (w:List cD),l.drop k=xs->w.length=k->
  Mh p ((i+1:Nat):Int) f D (o++[⟨ty,w++xs.map λa=>⟨a.bP,wrap .i64 (a.To+(p.length:Int))⟩⟩])=some r->JJ p i l k f D ty o z w=some r:=by
 intro xs;induction xs with
 |nil=>intro k w q B h;refine Ys ?_;rw[bg q,au,dG ⟨by grind,by grind⟩,bJ af];simp_all
 |cons a xs F=>
  intro k w q B h;have H:k<l.length:=by have:=aU length q;simp at this;omega
  refine Ys ?_;rw[aR q,aj,aK q,aK q,dG ⟨by grind,by grind⟩,bJ af];refine F _ _ (aI q) (by simp[B]) ?_;simp_all
theorem h430_7 {o4:FSt}:∀(xs:List Node) (i:Nat) (o:List Node),f.az.drop i=xs->o.length=p.length+i->Mh p i f o4 o=some ⟨o++xs.map (udN p.length)⟩:=by intro xs;induction xs with
 |nil=>intro i o l w;refine adE ?_;grind
 |cons x xs B=>
  intro i o l w;have q:i<f.az.length:=by have:=aU length l;simp at this;omega
  have z :=by
   have:x∈f.az.drop i:=by rw[l];exact iN ..
   exact jw this
  refine adE ?_;rw[aR l,aj,aK l,aK l];refine h430_12 hp hf ha q (ha x z) af _ 0 _ rfl rfl ?_;rw[B _ _ (aI l) (by grind),dz];rfl
theorem h430_3 {o4:FSt}:∀(xs:List Int) (i:Nat) (o:List Node),p.drop i=xs->i<=p.length->o.length=i->Mg p i f o4 o=some ⟨o++Gh i xs++f.az.map (udN p.length)⟩:=by intro xs;induction xs with
 |nil=>
  intro i o l q z;refine adD ?_;have w :=by have:=aU length l;simp at this;omega
  rw[bg l];have:=h430_7 hp hf ha (o4:=o4) _ 0 o rfl af;simp_all[Gh]
 |cons x xs B=>
  intro i o l q z;have w :=by have:=aU length l;simp at this;omega
  refine adD ?_;rw[aR l,aK l,dG ⟨by grind,by grind⟩,bJ af];rw[B _ _ (aI l) af (by simp_all)];simp[Gh]
theorem c430g:f430 p f=some (CZ p f):=by refine e430 ?_;rw[show Mg p 0 f _ _=_ from h430_3 hp hf ha p 0 _ rfl (cO _) rfl];rfl
theorem h426_12 {i:Nat} (H:i<f.az.length) {l:List cD} (K:l.length<=1000000) {ty:Int} {D:FSt} {G:Node} {o:List Node} (L:o.length<=2000000) {z:List cD} {r:FSt}:∀(xs:List cD) (k:Nat) (w:List cD),l.drop k=xs->w.length=k->
  Mf p f.az f.az.length ((i+1:Nat):Int) f D (o++[⟨ty,w++xs.map λa=>⟨a.bP,wrap .i64 (a.To+(p.length:Int))⟩⟩])=some r->JH p f.az f.az.length i l l.length k f D G ty o z w=some r:=by
 intro xs;induction xs with
 |nil=>intro k w q B h;refine PB ?_;rw[bg q,au,dG ⟨by simp only[dY];omega,by simp only[dY];omega⟩,bJ af];rw[fN,eP] at h;exact h
 |cons a xs F=>
  intro k w q B h;have I:k<l.length:=by have:=aU length q;simp only[iP,bA] at this;omega
  refine PB ?_;rw[aR q,aj,aK q,dG ⟨by simp only[dY];omega,by simp only[dY];omega⟩,bJ af];refine F (k+1) _ (aI q) (by simp[B]) ?_;rw[dz];exact h
theorem h426_8 {o4:FSt}:∀(xs:List Node) (i:Nat) (o:List Node),f.az.drop i=xs->o.length=p.length+i->Mf p f.az f.az.length i f o4 o=some ⟨o++xs.map (udN p.length)⟩:=by intro xs;induction xs with
 |nil=>intro i o l w;refine PD ?_;rw[bg l,au,fN,eP]
 |cons x xs B=>
  intro i o l w;have q:i<f.az.length:=by have:=aU length l;simp only[iP,bA] at this;omega
  have z:x∈f.az:=by
   have:x∈f.az.drop i:=by rw[l];exact iN ..
   exact jw this
  refine PD ?_;rw[aR l,aj,aK l];refine h426_12 hp hf ha q (ha x z) af x.cn 0 [] rfl rfl ?_;rw[B (i+1) _ (aI l) (by rw[bR,dY];omega),dz];rfl
theorem h426_3 {o4:FSt}:∀(xs:List Int) (i:Nat) (o:List Node),p.drop i=xs->i<=p.length->o.length=i->Hi p p p.length i f o4 o=some ⟨o++Gh i xs++f.az.map (udN p.length)⟩:=by intro xs;induction xs with
 |nil=>
  intro i o l q w;refine PC ?_;have z:p.length<=i:=by have:=aU length l;simp only[iP,fK] at this;omega
  rw[bg l,au];have:=h426_8 hp hf ha (o4:=o4) f.az 0 o rfl af;rw[Gh,eP];exact this
 |cons x xs B=>
  intro i o l q w;have z:i<p.length:=by have:=aU length l;simp only[iP,bA] at this;omega
  refine PC ?_;rw[aR l,aj,aK l,dG ⟨by simp only[dY];omega,by simp only[dY];omega⟩,bJ af];rw[B (i+1) _ (aI l) af (by rw[bR,dY,w])];simp[Gh]
theorem c426g:f426 p f=some (CZ p f):=by refine e426 ?_;rw[show Hi p p p.length 0 f ⟨[]⟩ []=_ from h426_3 hp hf ha p 0 [] rfl (cO _) rfl];rfl
end
end Go.Proofs.YtacapiamkgkkjaaGreatDoor.cl.pf
namespace Go.Proofs.YtacapiamkgkkjaaGreatDoor.cl.pf
open Go Go.AM
def oK {P:bQ->Prop} (h:∀d,(∀k∈d.Kids,P k)->P d):∀d,P d
 | .mk a b c l=>h _ λk q=>oK h k
termination_by d=>SizeOf.sizeOf d
decreasing_by
 have:=List.sizeOf_lt_of_mem q;simp only[bQ.Kids,bQ.mk.sizeOf_spec] at *;omega
inductive kN (P:bQ->Prop):bQ->Prop
 |mk (d:bQ):P d->(∀k∈d.Kids,kN P k)->kN P d
def kN.here {P:bQ->Prop} {d:bQ} (h:kN P d):P d:=by cases h;assumption
def kN.kids {P:bQ->Prop} {d:bQ} (h:kN P d):∀k∈d.Kids,kN P k:=by cases h;assumption
def kN.imp {P Q:bQ->Prop} (h:∀d,P d->Q d) {d:bQ} (q:kN P d):kN Q d:=by induction q with
 |mk d l _ w=>exact .mk d (h d l) w
def kN.and {P Q:bQ->Prop}:∀{d:bQ},kN P d->kN Q d->kN (λd=>P d/\Q d) d:=by intro d;induction d using oK with
 |h d z=>exact λq w=> .mk d ⟨q.here,w.here⟩ λk l=>z k l (q.kids k l) (w.kids k l)
mutual
def qW:bQ->Nat
 | .mk _ _ _ l=>1+gx l
def gx:List bQ->Nat
 |[]=>0
 |x::l=>qW x+gx l
end
def DS (d:bQ):qW d=1+gx d.Kids:=by cases d;simp[qW,bQ.Kids]
def h511 {w:bQ} (G:w.Kids.length<=1073741824) (q:∀k∈w.Kids,∃b,f511 k=some b/\(b=true->kN (λd=>d.Path.length<=4) k)):∀(xs:List bQ) (i:Nat),w.Kids.drop i=xs->∃b,RB i w=some b/\(b=true->∀k∈xs,kN (λd=>d.Path.length<=4) k):=by intro xs;induction xs with
 |nil=>intro i l;exact⟨true,Wo (by rw[bg l,au]),λ_ k q=>by cases q⟩
 |cons x xs I=>
  intro i l;have H:x∈w.Kids:=by
   have:x∈w.Kids.drop i:=by rw[l];exact iN ..
   exact jw this
  obtain⟨b,e,h⟩:=q x H;obtain⟨z,B,D⟩:=I (i+1) (aI l);cases b with
  |false=>exact⟨false,Wo (by rw[aR l,aj,aK l,e,ak,fE,aj]),λh=>by cases h⟩
  |true=>
   refine⟨z,Wo (by rw[aR l,aj,aK l,e,ak,dr,au,aN l G];exact B),λF k q=> ?_⟩;rcases aJ.1 q with rfl|q
   .exact h rfl
   .exact D F k q
def c511 (d:bQ):kN (λd=>d.Kids.length<=1073741824) d->∃b,f511 d=some b/\(b=true->kN (λd=>d.Path.length<=4) d):=by induction d using oK with
 |h d z=>
  intro q;by_cases hp:d.Path.length>4
  .exact⟨false,e511 (by rw[cond_pos (by rw[bN];omega)]),λh=>by cases h⟩
  .obtain⟨b,e,h⟩:=h511 q.here (λk l=>z k l (q.kids k l)) d.Kids 0 rfl;exact⟨b,e511 (by rw[cond_neg (by rw[bB];omega)];exact e),λw=> .mk d af (h w)⟩
structure Lt1 (most:Nat) (d:bQ):Prop where
 nm:d.Name.length<=60
 pl:d.Path.length<=80
 ps:∀s∈d.Path,s.length<=60
 kl:d.Kids.length<=most
def WTd (most:Nat) (l:Nat) (d:bQ):Prop:=∃r:Nat,f524 d l most=some (r:Int)/\1<=r/\r<=(82-l) *most+1/\(r<=most->qW d=r/\kN (Lt1 most) d)
def h524p {deep most:Nat} {d:bQ} (I:most<=1000) (H:d.Path.length<=80) {q:Nat->Prop} (B:∃r:Nat,F8 deep most 1 0 d=some (r:Int)/\q r) (F:q (most+1)):∀(xs:List (List UInt8)) (i:Nat),d.Path.drop i=xs->∃r:Nat,RG deep most i d=some (r:Int)/\q r/\(r<=most->∀s∈xs,s.length<=60):=by intro xs;induction xs with
 |nil=>intro i l;obtain⟨r,e,h⟩:=B;exact⟨r,Wq (by rw[bg l,au];exact e),h,λ_ s w=>by cases w⟩
 |cons x xs G=>
  intro i l;obtain⟨r,e,h,z⟩:=G (i+1) (aI l);by_cases K:x.length>60
  .exact⟨most+1,Wq (by rw[aR l,aj,aK l,cond_pos (by rw[bN];omega),bJ af]),F,λh=>by omega⟩
  .refine⟨r,Wq (by rw[aR l,aj,aK l,cond_neg (by rw[bB];omega),aN l af];exact e),h,λD s w=> ?_⟩;rcases aJ.1 w with rfl|w
   .omega
   .exact z D s w
def h524k {deep most:Nat} {d:bQ} (H:most<=1000) (D:deep<=80) (hl:d.Kids.length<=most) (q:∀k∈d.Kids,WTd most (deep+1) k):∀(xs:List bQ) (i n:Nat),d.Kids.drop i=xs->1<=n->n<=(82-deep) *most+1->
  ∃r:Nat,F8 deep most n i d=some (r:Int)/\1<=r/\r<=(82-deep) *most+1/\(r<=most->r=n+gx xs/\∀k∈xs,kN (Lt1 most) k):=by
 have F:(82-(deep+1)) *most+most=(82-deep) *most:=by rw[show 82-deep=(82-(deep+1))+1 from by omega,jE,Nat.one_mul]
 have B:(82-deep) *most<=82 *1000:=ow af H;intro xs;induction xs with
 |nil=>intro i n l w z;exact⟨n,PN (by rw[bg l,au]),w,z,λ_=>⟨by simp[gx],λk q=>by cases q⟩⟩
 |cons x xs L=>
  intro i n l w z;by_cases hn:n<=most
  .have K:x∈d.Kids:=by
    have:x∈d.Kids.drop i:=by rw[l];exact iN ..
    exact jw this
   obtain⟨y,e,y1,y2,S⟩:=q x K;obtain⟨r,G,P,Q,R⟩:=L (i+1) (n+y) (aI l) af af;refine⟨r,PN ?_,P,Q,λI=> ?_⟩
   .rw[aR l,aj,cond_pos (by rw[bN];omega),aK l,bJ af,e,ak,aN l af,CT (x:=(n:Int)+(y:Int)) af af];exact G
   .obtain⟨N,O⟩:=R I;obtain⟨U,V⟩:=S af;refine⟨by rw[N,gx,U];omega,λk q=> ?_⟩;rcases aJ.1 q with rfl|q
    .exact V
    .exact O k q
  .exact⟨n,PN (by rw[aR l,aj,cond_neg (by rw[bB];omega)]),w,z,λh=>by omega⟩
def c524 {most:Nat} (z:most<=1000) (d:bQ):∀deep:Nat,deep<=81->WTd most deep d:=by induction d using oK with
 |h d H=>
  intro deep F;have q:wrap .i64 ((most:Int)+1)=((most+1:Nat):Int):=bJ af;have w:most *1<=(82-deep) *most:=by rw[Nat.mul_comm];exact ow af (aQ _)
  by_cases U:deep>80
  .exact⟨most+1,e524 (by rw[cond_pos (by rw[bN];omega),q]),by omega,by omega,λh=>by omega⟩
  by_cases V:d.Name.length>60
  .exact⟨most+1,e524 (by rw[cond_neg (by rw[bB];omega),cond_pos (by rw[bN];omega),q]),by omega,by omega,λh=>by omega⟩
  by_cases h3:d.Path.length>80
  .exact⟨most+1,e524 (by rw[cond_neg (by rw[bB];omega),cond_neg (by rw[bB];omega),cond_pos (by rw[bN];omega),q]),by omega,by omega,λh=>by omega⟩
  by_cases h4:d.Kids.length>most
  .exact⟨most+1,e524 (by rw[cond_neg (by rw[bB];omega),cond_neg (by rw[bB];omega),cond_neg (by rw[bB];omega),cond_pos (by rw[bN];omega),q]),by omega,by omega,λh=>by omega⟩
  obtain⟨r,e,Q,R,S⟩:=h524k z af af (λk G=>H k G (deep+1) af) d.Kids 0 1 rfl af af;obtain⟨l,D,⟨I,K,L⟩,N⟩:=h524p (deep:=deep) z af (q:=λl=>1<=l/\l<=(82-deep) *most+1/\(l<=most->l=1+gx d.Kids/\∀k∈d.Kids,kN (Lt1 most) k)) ⟨r,e,Q,R,S⟩ ⟨af,by omega,λh=>by omega⟩ d.Path 0 rfl;refine⟨l,e524 (by rw[cond_neg (by rw[bB];omega),cond_neg (by rw[bB];omega),cond_neg (by rw[bB];omega),cond_neg (by rw[bB];omega)];exact D),I,K,λB=> ?_⟩;obtain⟨O,P⟩:=L B;exact⟨by rw[DS,O], .mk d ⟨af,by omega,N B,af⟩ P⟩
def c509 {most:Nat} (l:most<=1000) (d:bQ):∃b,f509 d most=some b/\(b=true->qW d<=most/\kN (Lt1 most) d):=by obtain⟨r,e,B,D,w⟩:=c524 l d 1 af;refine⟨decide ((r:Int)<=(most:Int)),e509 (by rw[show f524 d 1 most=some (r:Int) from e];rfl),λh=> ?_⟩;have h:(r:Int)<=most:=mM h;obtain⟨z,q⟩:=w af;exact⟨af,q⟩
end Go.Proofs.YtacapiamkgkkjaaGreatDoor.cl.pf
namespace Go.Proofs.YtacapiamkgkkjaaGreatDoor.cl.pf
open Go Go.AM
def ZV (op:Int):f545 op=some (op==1||op==2||op==3):=by grind[e545]
structure Kd (d:bQ):Prop where
 leaf:d.Op=1\/d.Op=2\/d.Op=3->d.Kids.length=0
 one:d.Op=5->d.Kids.length=1
 two:d.Op=7->2<=d.Kids.length
def h554 {d:bQ} (q:d.Kids.length<=1073741824):∀(xs:List bQ) (i:Nat),d.Kids.drop i=xs->∃b,CR d.Kids.length i d=some b:=by intro xs;induction xs with
 |nil=>intro i l;exact⟨_,PT (by rw[bg l,au])⟩
 |cons x xs w=>
  intro i l;obtain⟨b,e⟩:=w _ (aI l);by_cases z:x.Op=4
  .exact⟨_,PT (by rw[aR l,aj,aK l,cond_pos (by simp_all)])⟩
  .exact⟨b,PT (by rw[aR l,aj,aK l,cond_neg (by simp_all),aN l q];exact e)⟩
def c554 {d:bQ} (l:d.Kids.length<=1073741824):∃b,f554 d=some b/\(b=true->Kd d):=by
 by_cases q:d.Op=1
 .refine⟨_,e554 (by rw[cond_pos (by simp_all),cond_pos (by simp_all)]),λh=> ?_⟩;have h:(d.Kids.length)=0:=by simpa using h
  exact⟨λ_=>by omega,λh=>by omega,λh=>by omega⟩
 by_cases w:d.Op=2
 .refine⟨_,e554 (by rw[cond_neg (by simp_all),cond_pos (by simp_all),cond_pos (by simp_all)]),λh=> ?_⟩;have h:(d.Kids.length)=0:=by simpa using h
  exact⟨λ_=>by omega,λh=>by omega,λh=>by omega⟩
 by_cases z:d.Op=3
 .refine⟨_,e554 (by rw[cond_neg (by simp_all),cond_neg (by simp_all),cond_pos (by simp_all)]),λh=> ?_⟩;have h:(d.Kids.length)=0:=by simpa using h
  exact⟨λ_=>by omega,λh=>by omega,λh=>by omega⟩
 by_cases D:d.Op=5
 .refine⟨_,e554 (by rw[cond_neg (by simp_all),cond_neg (by simp_all),cond_neg (by simp_all),cond_pos (by simp_all)]),λh=> ?_⟩;have h :=by simpa using h
  exact⟨λh=>by omega,λ_=>by omega,λh=>by omega⟩
 by_cases F:d.Op=7
 .refine⟨_,e554 (by rw[cond_neg (by simp_all),cond_neg (by simp_all),cond_neg (by simp_all),cond_neg (by simp_all),cond_pos (by simp_all)]),λh=> ?_⟩;have h :=by simpa using h
  exact⟨λh=>by omega,λh=>by omega,λ_=>by omega⟩
 by_cases B:d.Op=4
 .obtain⟨b,e⟩:=h554 l _ 0 rfl;exact⟨b,e554 (by simp_all),λ_=>⟨λh=>by omega,λh=>by omega,λh=>by omega⟩⟩
 .exact⟨true,e554 (by grind),λ_=>⟨λh=>by omega,λh=>by omega,λh=>by omega⟩⟩
def h538 {d:bQ} (w:d.Kids.length<=1073741824) (hp:d.Path.length<=1073741824):∀(xs:List (List UInt8)) (i:Nat),d.Path.drop i=xs->∃b,Mw i d=some b/\(b=true->Kd d):=by intro xs;induction xs with
 |nil=>intro i l;obtain⟨b,e,h⟩:=c554 w;exact⟨b,Ws (by rw[bg l,au,e,ak]),h⟩
 |cons x xs z=>intro i l;obtain⟨b,e,h⟩:=z _ (aI l);cases q:wG x with
  |false=>exact⟨_,Ws (by rw[aR l,aj,aK l,c372,q,ak,fE,aj]),λh=>by cases h⟩
  |true=>exact⟨b,Ws (by rw[aR l,aj,aK l,c372,q,ak,dr,au,aN l hp];exact e),h⟩
def c538 {d:bQ} (B:d.Kids.length<=1073741824) (hp:d.Path.length<=1073741824):∃b,f538 d=some b/\(b=true->Kd d):=by obtain⟨b,e,h⟩:=h538 B hp _ 0 rfl;cases l: !((d.Op==1||d.Op==2||d.Op==3)==isName _) with
 |true=>exact⟨_,e538 (by rw[ZV,ak,Ki,ak,l,aj]),λh=>by cases h⟩
 |false=>cases q:(d.Op==1||d.Op==2||d.Op==3) with
  |false=>cases z: !(d.Name==([])) with
   |true=>exact⟨_,e538 (by rw[ZV,ak,Ki,ak,l,au,ak,q,fE,aj,z,aj]),λh=>by cases h⟩
   |false=>cases w: !((d.Op==5)==(decide ((length _:Int)>0))) with
    |true=>exact⟨_,e538 (by rw[ZV,ak,Ki,ak,l,au,ak,q,fE,aj,z,au,w,aj]),λh=>by cases h⟩
    |false=>exact⟨b,e538 (by rw[ZV,ak,Ki,ak,l,au,ak,q,fE,aj,z,au,w,au];exact e),h⟩
  |true=>cases w: !((d.Op==5)==(decide ((length _:Int)>0))) with
   |true=>exact⟨_,e538 (by rw[ZV,ak,Ki,ak,l,au,ak,q,dr,au,w,aj]),λh=>by cases h⟩
   |false=>exact⟨b,e538 (by rw[ZV,ak,Ki,ak,l,au,ak,q,dr,au,w,au];exact e),h⟩
structure Fm (d:bQ):Prop where
 op:1<=d.Op/\d.Op<=8
 kd:Kd d
 pl:d.Path.length<=64
 kl:d.Kids.length<=256
def h525 {d:bQ} {inner:Nat} (I:d.Kids.length<=256) (q:∀k∈d.Kids,∃r,f525 k inner=some r/\(r=0->kN Fm k)):∀(xs:List bQ) (i:Nat),d.Kids.drop i=xs->∃r,AG inner i d=some r/\(r=0->∀k∈xs,kN Fm k):=by intro xs;induction xs with
 |nil=>intro i l;exact⟨0,PO (by rw[bg l,au]),λ_ k q=>by cases q⟩
 |cons x xs B=>
  intro i l;have z :=by
   have:x∈d.Kids.drop i:=by rw[l];exact iN ..
   exact jw this
  obtain⟨r,e,h⟩:=q x z;obtain⟨D,F,H⟩:=B _ (aI l);by_cases w:r=0
  .refine⟨D,PO (by rw[aR l,aj,aK l,e,ak,cond_neg (by simp_all),aN l af];omega),λG k q=> ?_⟩;grind
  .exact⟨r,PO (by rw[aR l,aj,aK l,e,ak,cond_pos (by simp_all)]),λh=>absurd h w⟩
def c525 (d:bQ):∀level:Nat,level<=65->∃r,f525 d level=some r/\(r=0->kN Fm d):=by induction d using oK with
 |h d z=>
  intro level F;by_cases G:level>64
  .exact⟨7,e525 (by grind),λh=>by omega⟩
  by_cases H:d.Path.length>64
  .exact⟨7,e525 (by grind),λh=>by omega⟩
  by_cases I:d.Kids.length>256
  .exact⟨7,e525 (by grind),λh=>by omega⟩
  by_cases K:d.Op<1
  .exact⟨14,e525 (by grind),λh=>by omega⟩
  by_cases L:d.Op>8
  .exact⟨14,e525 (by grind),λh=>by omega⟩
  obtain⟨b,e,D⟩:=c538 (d:=d) af af;have pre:∀r,(bif !b then some 1 else bif d.Op==4 then AG level 0 d else AG (wrap .i64 ((level)+1)) 0 d)=some r->f525 d level=some r:=λr O=>e525 (by grind)
  cases b with
  |false=>simp_all
  |true=>
   have w:Fm d:=⟨⟨af,af⟩,D rfl,by omega,af⟩
   by_cases N:d.Op=4
   .obtain⟨r,B,h⟩:=h525 af (λk q=>z k q _ af) _ 0 rfl;exact⟨r,pre r (by simp_all),λl=> .mk d w (h l)⟩
   .obtain⟨r,B,h⟩:=h525 (inner:=level+1) af (λk q=>z k q _ af) _ 0 rfl;exact⟨r,pre r (by rw[dr,au,cond_neg (by simp_all),bJ af];omega),λl=> .mk d w (h l)⟩
def c510 (d:bQ):∃r,f510 d=some r/\(r=0->kN Fm d):=by obtain⟨r,e,h⟩:=c525 d 1 af;simp_all[e510]
structure LD (d:bQ):Prop where
 cnt:qW d<=12
 lt:kN (Lt1 12) d
 fm:kN Fm d
 sh:kN (λd=>d.Path.length<=4) d
def c503 (d:bQ):∃b,f503 d=some b/\(b=true->LD d):=by obtain⟨b,e,h⟩:=c509 (most:=12) af d;cases b with
 |false=>simp_all[e503]
 |true=>
  obtain⟨q,l⟩:=h rfl;obtain⟨r,F,w⟩:=c510 d;by_cases D:r=0
  .obtain⟨b,G,z⟩:=c511 d (l.imp λd h=>by have:=h.kl;omega);exact⟨b,e503 (by simp_all),λB=>⟨q,l,w D,z B⟩⟩
  simp_all[e503,cond_neg]
structure JX (x:Def):Prop where
 nm:isName x.Name=true
 st:LD x.fR
 df:∀y∈x.c8,LD y
 dl:x.c8.length<=3
def h523 {x:Def} (G:x.c8.length<=3):∀(xs:List bQ) (i:Nat),x.c8.drop i=xs->∃b,RF i x=some b/\(b=true->∀y∈xs,LD y):=by intro xs;induction xs with
 |nil=>intro i l;exact⟨_,Wp (by rw[bg l,au]),λ_ k q=>by cases q⟩
 |cons y xs z=>intro i l;obtain⟨b,e,h⟩:=c503 y;obtain⟨w,B,D⟩:=z _ (aI l);cases b with
  |false=>exact⟨_,Wp (by rw[aR l,aj,aK l,e,ak,fE,aj]),λh=>by cases h⟩
  |true=>refine⟨w,Wp (by rw[aR l,aj,aK l,e,ak,dr,au,aN l af];omega),λF k q=> ?_⟩;grind
def c523 (x:Def):∃b,f523 x=some b/\(b=true->JX x):=by cases l:isName x.Name with
 |false=>simp_all[e523,Ki]
 |true=>
  by_cases D:x.c8.length>3
  .exact⟨_,e523 (by rw[Ki,l,ak,dr,au,cond_pos (by grind)]),λh=>by cases h⟩
  obtain⟨b,e,q⟩:=c503 x.fR;cases b with
  |false=>simp_all[e523,Ki]
  |true=>obtain⟨b,B,w⟩:=h523 (x:=x) af _ 0 rfl;exact⟨b,e523 (by rw[Ki,l,ak,dr,au,cond_neg (by grind),e,ak,dr,au];omega),λz=>⟨l,q rfl,w z,af⟩⟩
def h502 {l:List Def} (H:l.length<=4):∀(xs:List Def) (i:Nat),l.drop i=xs->∃b,RA l i=some b/\(b=true->∀y∈xs,JX y):=by intro xs;induction xs with
 |nil=>intro i q;exact⟨_,Wm (by rw[bg q,au]),λ_ k w=>by cases w⟩
 |cons y xs B=>intro i q;obtain⟨b,e,h⟩:=c523 y;obtain⟨z,D,F⟩:=B _ (aI q);cases b with
  |false=>exact⟨_,Wm (by rw[aR q,aj,aK q,e,ak,fE,aj]),λh=>by cases h⟩
  |true=>refine⟨z,Wm (by rw[aR q,aj,aK q,e,ak,dr,au,aN q af];omega),λG k w=> ?_⟩;grind
def c502 (l:List Def):∃b,f502 l=some b/\(b=true->l.length<=4/\∀y∈l,JX y):=by
 by_cases h:l.length>4
 .exact⟨false,e502 (by grind),λh=>by cases h⟩
 obtain⟨b,e,q⟩:=h502 af l 0 rfl;exact⟨b,e502 (by grind),λw=>⟨af,q w⟩⟩
end Go.Proofs.YtacapiamkgkkjaaGreatDoor.cl.pf
namespace Go.Proofs.YtacapiamkgkkjaaGreatDoor.cl.pf
open Go Go.AM
abbrev Nmd (P:bV->Prop) (d:bQ):Prop:=kN (λd=>d.Op=2->P d.Name) d
def kN.iff {P:bQ->Prop} {d:bQ}:kN P d↔P d/\∀k∈d.Kids,kN P k:=⟨λh=>⟨h.here,h.kids⟩,λh=> .mk d h.1 h.2⟩
mutual
def WQ:bQ->List bV->List bV
 | .mk op nm _ ks,w=>w8 ks (bif op==2&& !(w.any λx=>x==nm) then w++[nm] else w)
def w8:List bQ->List bV->List bV
 |[],w=>w
 |x::l,w=>w8 l (WQ x w)
end
def Qd (d:bQ) (w:List bV):WQ d w=w8 d.Kids (bif d.Op==2&& !(w.any λx=>x==d.Name) then w++[d.Name] else w):=by cases d;rfl
def Am (d:bQ):∀w:List bV,(WQ d w).length<=w.length+qW d:=by induction d using oK with
 |h d z=>
  intro w;have key:∀(l) (w),(∀k∈l,k∈d.Kids)->(w8 l w).length<=w.length+gx l:=by intro l;induction l with
   |nil=>simp_all[w8]
   |cons x l B=>grind[w8,gx]
  have q:=DS d;rw[Qd];grind
def Qc (P:bV->Prop) (d:bQ):∀w:List bV,(∀s∈WQ d w,P s)↔Nmd P d/\∀s∈w,P s:=by induction d using oK with
 |h d z=>
  intro w;have key:∀(l) (w),(∀k∈l,k∈d.Kids)->((∀s∈w8 l w,P s)↔(∀k∈l,Nmd P k)/\∀s∈w,P s):=by intro l;induction l with
   |nil=>intro w _;rw[w8];simp
   |cons x l B=>intro w h;rw[w8,B _ λk q=>h k (dF _ q),z x (h x ai) w];grind
  rw[Qd,key _ _ λk q=>q];show _↔kN _ d/\_;rw[kN.iff];grind
def h548 {d:bQ} (G:d.Kids.length<=256) (q:∀k∈d.Kids,∀w:List (List UInt8),w.length+qW k<=1000000->f548 k w=some (WQ k w)):∀(xs:List bQ) (i:Nat) (w:List (List UInt8)),d.Kids.drop i=xs->w.length+gx xs<=1000000->Ho i d w=some (w8 xs w):=by intro xs;induction xs with
 |nil=>intro i w l z;exact aeb (by rw[bg l,au,w8])
 |cons x xs B=>intro i w l z;have F:gx (x::xs)=qW x+gx _:=rfl;have D:=Am x w;exact aeb (by rw[aR l,aj,aK l,q x (aP (bU l)) w af,ak,aN l af];exact B _ _ (aI l) af)
def c548 (d:bQ):kN Fm d->∀w:List (List UInt8),w.length+qW d<=1000000->f548 d w=some (WQ d w):=by induction d using oK with
 |h d z=>
  intro hf w G;have q:=hf.here.kl;have l:=λk l=>z k l (hf.kids k l)
  have F:=DS d;refine e548 ?_;rw[Qd];by_cases B:d.Op=2
  .rw[cond_pos (by simp_all),show(d.Op==2)=true by simp_all,c555 _ _ af,ak];cases D:(w.any _) with
   |true=>rw[dr,au];exact h548 q l _ 0 w rfl af
   |false=>rw[fE,aj,dG ⟨by grind,by grind⟩];exact h548 q l _ 0 _ rfl (by grind)
  .rw[cond_neg (by simp_all),show(d.Op==2)=false by simp_all];exact h548 q l _ 0 w rfl af
def Uc:∀(l:List bQ) (w:List bV),(∀y∈l,LD y)->(w8 l w).length<=w.length+12 *l.length
 |[],w,_=>by rw[w8];omega
 |x::l,w,h=>by
  have:=Uc l (WQ x w) λy q=>h y (dF _ q)
  have z:=Am x w;have B:=(h x ai).cnt;grind[w8]
def Ub (P:bV->Prop):∀(l:List bQ) (w:List bV),(∀s∈w8 l w,P s)↔(∀y∈l,Nmd P y)/\∀s∈w,P s
 |[],w=>by rw[w8];simp
 |x::l,w=>by rw[w8,Ub P l,Qc P x];grind
def h546 {x:Def} (B:JX x):∀(xs:List bQ) (i:Nat) (w:List (List UInt8)),x.c8.drop i=xs->w.length+12 *xs.length<=1000000->RI i x w=some (w8 xs w):=by intro xs;induction xs with
 |nil=>intro i w l z;exact ad9 (by rw[bg l,au,w8])
 |cons y xs F=>intro i w l z;have q:=B.df y (aP (bU l));have:=q.cnt;have D:=B.dl;have G:=Am y w;rw[bA] at z;exact ad9 (by rw[aR l,aj,aK l,c548 y q.fm w af,ak,aN l af];exact F _ _ (aI l) af)
def nd (x:Def):List bV:=w8 x.c8 (WQ x.fR [])
def aeE {x:Def} (l:JX x):(nd x).length<=48:=by have w:=l.st.cnt;have q:=l.dl;have z:=Am x.fR [];have B:=Uc _ (WQ x.fR []) l.df;grind[nd]
def c546 {x:Def} (l:JX x):f546 x=some (nd x):=by have z:=l.st.cnt;have w:=l.dl;have q:=Am x.fR [];rw[fK] at q;exact e546 (by rw[c548 _ l.st.fm _ (by grind),ak];exact h546 l _ 0 _ rfl af)
def Bb (l:List bV) (w:List bV):Bool:=w.all λs=>l.any λn=>n==s
def yW {q:Type} (p:q->Bool) (l:List q) (i:Nat):decide (qH p l i<0)= !(l.any p):=by
 rcases oA p l i with⟨w,z⟩|⟨k,x,w,z,B,_⟩
 .simp_all
 grind
def h547 {t:List Template} (B:t.length<=1000) {l:List bV} (z:l.length<=1000):∀(xs:List bV) (i:Nat),l.drop i=xs->RJ t l i=some (Bb (t.map (·.Name)) xs):=by intro xs;induction xs with
 |nil=>intro i q;refine aea ?_;rw[bg q];rfl
 |cons x xs w=>intro i q;refine aea ?_;rw[aR q,aK q,ZU _ _ af,ak,yW,aN q af,w _ (aI q)];unfold Bb;grind
def c547 {t:List Template} (q:t.length<=1000) {x:Def} (l:JX x):f547 t x=some (Bb (t.map (·.Name)) (nd x)):=by have:=aeE l;exact e547 (by rw[c546 l,ak];exact h547 q af _ 0 rfl)
def nxt (w:List bV) (l:List Def):List Def->Nat->Int->Int
 |[],_,q=>q
 |x::xs,i,q=>nxt w l xs (i+1) (if(!(w.any λn=>n==x.Name))&&(Bb w (nd x)&&(decide (q<0)||Op.bytesLess x.Name ((l[q.toNat]?.map (·.Name)).getD []))) then(i:Int) else q)
def h526 {t:List Template} (N:t.length<=1000) {l:List Def} (S:l.length<=1000) (K:∀x∈l,JX x):∀(xs:List Def) (i:Nat) (q:Int),l.drop i=xs->(q= -1\/∃b:Nat,q=b/\b<l.length)->
  tj t l q i=some (nxt (t.map (·.Name)) l xs i q)/\(nxt (t.map (·.Name)) l xs i q= -1\/∃b:Nat,nxt (t.map (·.Name)) l xs i q=b/\b<l.length):=by
 intro xs;induction xs with
 |nil=>intro i q w z;exact⟨ad7 (by rw[bg w,au];rfl),z⟩
 |cons x xs I=>
  intro i q w z;have H:i<l.length:=by have:=aU length w;simp only[iP,bA] at this;omega
  have O:x∈l:=by
   have:x∈l.drop i:=by rw[w];exact iN ..
   exact jw this
  have L:=c547 N (K x O);have B:((t.map (·.Name)).any λn=>n==x.Name)=t.any λy=>y.Name==x.Name:=List.any_map
  obtain⟨U,V⟩:=I (i+1) i (aI w) (.inr ⟨i,rfl,H⟩);obtain⟨j1,j2⟩:=I (i+1) q (aI w) z;have pre:∀r,(bif decide (qH (λy=>y.Name==x.Name) t 0<0) then(bif Bb (t.map (·.Name)) (nd x) then(bif decide (q<0) then tj t l i ((i+1:Nat):Int) else bp l i λD=>bp l q λF=>bif Op.bytesLess D.Name F.Name then tj t l i ((i+1:Nat):Int) else tj t l q ((i+1:Nat):Int)) else tj t l q ((i+1:Nat))) else tj t l _ _)=some r->tj t l _ i=some r:=λr h=>by refine ad7 ?_;rw[aR w,aK w,ZU _ _ af,aK w,L,aN w af];exact h
  simp only[nxt,B];rw[yW] at pre;cases Q:(t.any _) with
  |true=>simp_all
  |false=>cases R:Bb _ _ with
   |false=>simp_all
   |true=>
    rcases z with z|⟨b,z,G⟩
    .simp_all
    .subst z;rw[cR H,cR G] at pre;have P:l[i]=x:=by
      have:=aU List.head? w;rw[List.head?_drop] at this;rw[aM _] at this;simpa using this
     grind
def c526 {t:List Template} (D:t.length<=1000) {l:List Def} (B:l.length<=1000) (z:∀x∈l,JX x):f526 t l=some (nxt (t.map (·.Name)) l l 0 (-1))/\(nxt (t.map (·.Name)) l l 0 (-1)= -1\/∃b:Nat,nxt (t.map (·.Name)) l l 0 (-1)=b/\b<l.length):=by obtain⟨q,w⟩:=h526 D B z l 0 _ rfl (.inl rfl);exact⟨e526 q,w⟩
end Go.Proofs.YtacapiamkgkkjaaGreatDoor.cl.pf
namespace Go.Proofs.YtacapiamkgkkjaaGreatDoor.cl.pf
open Go Go.AM
def Qk {q:Type} (p:q->Bool) (l:List q) (i:Nat):decide (qH p l i>=0)=l.any p:=by have h:=yW p l i;grind
def h125 (v:bV) (l:List bV) (w:l.length<=1073741824):∀(xs:List bV) (i:Nat),l.drop i=xs->QU l v l.length i=some (qH (λx=>x==v) xs i):=by intro xs;induction xs with
 |nil=>intro i q;refine ade ?_;rw[bg q];rfl
 |cons x xs z=>intro i q;refine ade ?_;rw[aR q,aK q,aN q w,z _ (aI q),nQ];grind
def c92 (l:List bV) (v:bV) (q:l.length<=1073741824):f92 l v=some (l.any λx=>x==v):=
 e92 (by rw[e125 (h125 v l q l 0 rfl),ak,Qk])
def h572 {d:bQ} (G:d.Kids.length<=256) (q:∀k∈d.Kids,∀w:List (List UInt8),w.length+qW k<=1000000->f572 k w=some (WQ k w)):∀(xs:List bQ) (i:Nat) (w:List (List UInt8)),d.Kids.drop i=xs->w.length+gx xs<=1000000->Hs d.Kids d.Kids.length i d w=some (w8 xs w):=by intro xs;induction xs with
 |nil=>intro i w l z;exact aeh (by rw[bg l,au,w8])
 |cons x xs B=>intro i w l z;have F:gx (x::xs)=qW x+gx _:=rfl;have D:=Am x w;exact aeh (by rw[aR l,aj,aK l,q x (aP (bU l)) w af,ak,aN l af];exact B _ _ (aI l) af)
def c572 (d:bQ):kN Fm d->∀w:List (List UInt8),w.length+qW d<=1000000->f572 d w=some (WQ d w):=by induction d using oK with
 |h d z=>
  intro hf w G;have q:=hf.here.kl;have l:=λk l=>z k l (hf.kids k l)
  have F:=DS d;refine e572 ?_;rw[Qd];by_cases B:d.Op=2
  .rw[cond_pos (by simp_all),show(d.Op==2)=true by simp_all,c92 _ _ af,ak];cases D:(w.any _) with
   |true=>rw[dr,au];exact h572 q l _ 0 w rfl af
   |false=>rw[fE,aj,dG ⟨by grind,by grind⟩];exact h572 q l _ 0 _ rfl (by grind)
  .rw[cond_neg (by simp_all),show(d.Op==2)=false by simp_all];exact h572 q l _ 0 w rfl af
def h124_9 {l:List bV} {k:Nat} (hk:k<l.length) (hl:l.length<=1073741824):∀(n j q:Nat) (o:List bV),l.length=k+j+n->1<=j->q<k+j->o.length=l.length->(∀i,q<=i->o[i]? =l[i]?)->(∀s,s∈o.take q↔s∈l.take (k+j))->
  ∃c m,Az (q:Int) k l.length (j:Int) o=some (c,m)/\c<=m.length/\m.length=l.length/\∀s,s∈m.take c↔s∈l:=by
 intro n;induction n with
 |zero=>
  intro j q o S U V N z H;refine⟨q,(o.take q++List.replicate (o.length-q) [])++o.drop o.length,adb ?_,?_,?_,?_⟩
  .rw[cond_neg (by rw[bB];omega),dG af,dG (aQ _),aS,dG (by rw[bR,bR,dL,mI,iP];omega)]
  .rw[bR,bR,dL,mI,iP];omega
  .rw[bR,bR,dL,mI,iP];omega
  .intro s;rw[dz,vp (by rw[dL];omega),qj,Nat.min_self,H,gI af]
 |succ n Q=>
  intro j q o S U V N z H;have O:k+j<o.length:=af;have B:k+(j-1)<o.length:=af;have e1:o[k+j]? =l[k+j]? :=z _ af;have G:o[k+(j-1)]? =l[k+(j-1)]? :=z _ af;have D:k+j<l.length:=af;have F:k+(j-1)<l.length:=af;rw[aM O,aM D] at e1;rw[aM B,aM F] at G;have e1:=fc e1;have G:=fc G;have w1:wrap .i64 ((j:Int)-1)=((j-1:Nat):Int):=by rw[CT af af];omega
  have R:wrap .i64 ((j:Int)+1)=((j+1:Nat):Int):=bJ af;have w3:wrap .i64 ((q:Int)+1)=((q+1:Nat):Int):=bJ af;have pre:∀r,(bif(!(l[k+j]==l[k+(j-1)])) then Az ((q+1:Nat):Int) k l.length ((j+1:Nat):Int) (o.set q l[k+j]) else Az (q:Int) k l.length ((j+1:Nat):Int) o)=some r->Az (q:Int) k l.length (j:Int) o=some r:=λr I=>by refine adb ?_;rw[cond_pos (by rw[bN];omega),dG af,aS,mQ O,w1,dG af,aS,mQ B,e1,G];cases w:(!(l[k+j]==l[k+(j-1)])) with
   |false=>rw[w,au] at I;rw[au,R];exact I
   |true=>rw[w,aj] at I;rw[aj,dG af,mQ O,e1,dG af,aS,mQ (by omega:q<o.length),R,w3];exact I
  have P:l.take (k+(j+1))=l.take (k+j)++[l[k+j]]:=by rw[<-kz,Bn D]
  cases w:(!(l[k+j]==l[k+(j-1)])) with
  |false=>
   have he:l[k+j]=l[k+(j-1)]:=by simpa using w
   obtain⟨c,m,K,L⟩:=Q (j+1) q o af af af N z (λs=>by
    rw[P,bf,H];refine⟨.inl,λh=>h.elim id λh=> ?_⟩;rw[bZ.1 h,he]
    exact qw.2 ⟨k+(j-1),by omega,rfl⟩)
   exact⟨c,m,pre _ (by rw[w,au];exact K),L⟩
  |true=>
   obtain⟨c,m,K,L⟩:=Q (j+1) (q+1) (o.set q l[k+j]) af af af (by rw[iO];exact N) (λi hi=>by rw[gK af];exact z i af) (λs=>by
    rw[P,bf,<-H,dy,Bo (aQ _),jX af,bf]
    rfl)
   exact⟨c,m,pre _ (by rw[w,aj];exact K),L⟩
def h124_4 {l:List bV} (K:l.length<=1073741824):∀(n k:Nat),l.length=k+n->1<=k->∃c m,Hg (k:Int) l=some (c,m)/\c<=m.length/\m.length=l.length/\∀s,s∈m.take c↔s∈l:=by intro n;induction n with
 |zero=>intro k G H;exact⟨_,_,ada (by rw[cond_neg (by rw[bB];omega)]),aQ _,rfl,λs=>by rw[fZ]⟩
 |succ n L=>
  intro k G H;have D:k<l.length:=af;have F:k-1<l.length:=af;have N:wrap .i64 ((k:Int)-1)=((k-1:Nat):Int):=by rw[CT af af];omega
  have O:wrap .i64 ((k:Int)+1)=((k+1:Nat):Int):=bJ af;have pre:∀r,(bif(l[k]==l[k-1]) then Az (k:Int) k l.length 1 l else Hg ((k+1:Nat):Int) l)=some r->Hg (k:Int) l=some r:=λr w=>by refine ada ?_;rw[cond_pos (by rw[bN];omega),dG af,aS,mQ D,N,dG af,aS,mQ F];cases q:(l[k]==l[k-1]) with
   |true=>rw[q,aj] at w;rw[aj,dG af];exact w
   |false=>rw[q,au] at w;rw[au,O];exact w
  cases q:(l[k]==l[k-1]) with
  |false=>obtain⟨c,m,z,B⟩:=L (k+1) af af;exact⟨c,m,pre _ (by rw[q,au];exact z),B⟩
  |true=>
   have I:l[k]=l[k-1]:=by simpa using q
   obtain⟨c,m,z,B⟩:=h124_9 D K n 1 k l af af af rfl (λ_ _=>rfl) (λs=>by
    rw[Bn D,bf];refine⟨.inl,λh=>h.elim id λh=> ?_⟩;rw[bZ.1 h,I]
    exact qw.2 ⟨k-1,by omega,rfl⟩)
   exact⟨c,m,pre _ (by rw[q,aj];exact z),B⟩
def c124 {l:List bV} (z:l.length<=1073741824):∃c m,f124 l=some (c,m)/\c<=m.length/\m.length=l.length/\∀s,s∈m.take c↔s∈l:=by
 by_cases h:l.length<2
 .exact⟨_,_,e124 (by rw[cond_pos (by rw[bN];omega)]),aQ _,rfl,λs=>by rw[fZ]⟩
 .obtain⟨c,m,q,w⟩:=h124_4 z (l.length-1) 1 af (aQ _);exact⟨c,m,e124 (by rw[cond_neg (by rw[bB];omega)];exact q),w⟩
