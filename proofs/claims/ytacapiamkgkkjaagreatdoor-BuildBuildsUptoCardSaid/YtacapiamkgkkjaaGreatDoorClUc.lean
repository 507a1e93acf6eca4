/- Build. -/
import Derived.Test.YtacapiamkgkkjaaGreatDoorClUd
set_option linter.all false
open Go.IntKind (wrap)
namespace Go.Proofs.YtacapiamkgkkjaaGreatDoor.cl.pf
open Go Go.AM
def XX (op:Int):f545 op=some (op==1||op==2||op==3):=by refine e545 ?_;cases op==1<;>cases op==2<;>rfl
structure Kd (d:bV):Prop where
 leaf:d.Op=1\/d.Op=2\/d.Op=3->d.Kids.length=0
 one:d.Op=5->d.Kids.length=1
 two:d.Op=7->2<=d.Kids.length
def h554 {d:bV} (w:d.Kids.length<=1073741824):∀(xs:List bV) (i:Nat),d.Kids.drop i=xs->∃b,Cl d.Kids.length i d=some b:=by intro xs;induction xs with
 |nil=>intro i l;exact⟨_,Oq (by rw[bp l,au])⟩
 |cons x xs z=>
  intro i l;obtain⟨b,e⟩:=z (i+1) (aJ l);by_cases q:x.Op=4
  .exact⟨false,Oq (by rw[aT l,aj,aP l,cond_pos (by rw[q];rfl)])⟩
  .exact⟨b,Oq (by rw[aT l,aj,aP l,cond_neg (by simpa using q),aQ l w];exact e)⟩
def c554 {d:bV} (G:d.Kids.length<=1073741824):∃b,f554 d=some b/\(b=true->Kd d):=by
 by_cases l:d.Op=1
 .refine⟨_,e554 (by rw[cond_pos (by rw[l];rfl),cond_pos (by rw[l];rfl)]),λh=> ?_⟩;have h:(d.Kids.length:Int)=0:=by simpa using h
  exact⟨λ_=>by omega,λh=>by omega,λh=>by omega⟩
 by_cases q:d.Op=2
 .refine⟨_,e554 (by rw[cond_neg (by simpa using l),cond_pos (by rw[q];rfl),cond_pos (by rw[q];rfl)]),λh=> ?_⟩;have h:(d.Kids.length:Int)=0:=by simpa using h
  exact⟨λ_=>by omega,λh=>by omega,λh=>by omega⟩
 by_cases w:d.Op=3
 .refine⟨_,e554 (by rw[cond_neg (by simpa using l),cond_neg (by simpa using q),cond_pos (by rw[w];rfl)]),λh=> ?_⟩;have h:(d.Kids.length:Int)=0:=by simpa using h
  exact⟨λ_=>by omega,λh=>by omega,λh=>by omega⟩
 by_cases z:d.Op=5
 .refine⟨_,e554 (by rw[cond_neg (by simpa using l),cond_neg (by simpa using q),cond_neg (by simpa using w),cond_pos (by rw[z];rfl)]),λh=> ?_⟩;have h:(d.Kids.length:Int)=1:=by simpa using h
  exact⟨λh=>by omega,λ_=>by omega,λh=>by omega⟩
 by_cases B:d.Op=7
 .refine⟨_,e554 (by rw[cond_neg (by simpa using l),cond_neg (by simpa using q),cond_neg (by simpa using w),cond_neg (by simpa using z),cond_pos (by rw[B];rfl)]),λh=> ?_⟩;have h:(d.Kids.length:Int)>=2:=by simpa using h
  exact⟨λh=>by omega,λh=>by omega,λ_=>by omega⟩
 by_cases D:d.Op=4
 .obtain⟨b,e⟩:=h554 G d.Kids 0 rfl;exact⟨b,e554 (by rw[cond_neg (by simpa using l),cond_neg (by simpa using q),cond_neg (by simpa using w),cond_neg (by simpa using z),cond_neg (by simpa using B),cond_pos (by rw[D];rfl)];exact e),λ_=>⟨λh=>by omega,λh=>by omega,λh=>by omega⟩⟩
 .exact⟨true,e554 (by rw[cond_neg (by simpa using l),cond_neg (by simpa using q),cond_neg (by simpa using w),cond_neg (by simpa using z),cond_neg (by simpa using B),cond_neg (by simpa using D)]),λ_=>⟨λh=>by omega,λh=>by omega,λh=>by omega⟩⟩
def h538 {d:bV} (w:d.Kids.length<=1073741824) (z:d.Path.length<=1073741824):∀(xs:List (List UInt8)) (i:Nat),d.Path.drop i=xs->∃b,La i d=some b/\(b=true->Kd d):=by intro xs;induction xs with
 |nil=>intro i l;obtain⟨b,e,h⟩:=c554 w;exact⟨b,UC (by rw[bp l,au,e,ak]),h⟩
 |cons x xs B=>intro i l;obtain⟨b,e,h⟩:=B (i+1) (aJ l);cases q:vG x with
  |false=>exact⟨false,UC (by rw[aT l,aj,aP l,c372,q,ak,eB,aj]),λh=>by cases h⟩
  |true=>exact⟨b,UC (by rw[aT l,aj,aP l,c372,q,ak,di,au,aQ l z];exact e),h⟩
def c538 {d:bV} (B:d.Kids.length<=1073741824) (D:d.Path.length<=1073741824):∃b,f538 d=some b/\(b=true->Kd d):=by obtain⟨b,e,h⟩:=h538 B D d.Path 0 rfl;cases l: !((d.Op==1||d.Op==2||d.Op==3)==isName d.Name) with
 |true=>exact⟨false,e538 (by rw[XX,ak,I6,ak,l,aj]),λh=>by cases h⟩
 |false=>cases q:(d.Op==1||d.Op==2||d.Op==3) with
  |false=>cases z: !(d.Name==([]:List UInt8)) with
   |true=>exact⟨false,e538 (by rw[XX,ak,I6,ak,l,au,ak,q,eB,aj,z,aj]),λh=>by cases h⟩
   |false=>cases w: !((d.Op==5)==(decide ((List.length d.Path:Int)>0))) with
    |true=>exact⟨false,e538 (by rw[XX,ak,I6,ak,l,au,ak,q,eB,aj,z,au,w,aj]),λh=>by cases h⟩
    |false=>exact⟨b,e538 (by rw[XX,ak,I6,ak,l,au,ak,q,eB,aj,z,au,w,au];exact e),h⟩
  |true=>cases w: !((d.Op==5)==(decide ((List.length d.Path:Int)>0))) with
   |true=>exact⟨false,e538 (by rw[XX,ak,I6,ak,l,au,ak,q,di,au,w,aj]),λh=>by cases h⟩
   |false=>exact⟨b,e538 (by rw[XX,ak,I6,ak,l,au,ak,q,di,au,w,au];exact e),h⟩
structure Fm (d:bV):Prop where
 op:1<=d.Op/\d.Op<=8
 kd:Kd d
 pl:d.Path.length<=64
 kl:d.Kids.length<=256
def h525 {d:bV} {inner:Nat} (L:d.Kids.length<=256) (q:∀k∈d.Kids,∃r,f525 k inner=some r/\(r=0->lN Fm k)):∀(xs:List bV) (i:Nat),d.Kids.drop i=xs->∃r,zM inner i d=some r/\(r=0->∀k∈xs,lN Fm k):=by intro xs;induction xs with
 |nil=>intro i l;exact⟨0,Om (by rw[bp l,au]),λ_ k q=>by cases q⟩
 |cons x xs I=>
  intro i l;have G:x∈d.Kids:=by
   have:x∈d.Kids.drop i:=by rw[l];exact fN ..
   exact iK this
  obtain⟨r,e,h⟩:=q x G;obtain⟨K,z,D⟩:=I (i+1) (aJ l);by_cases w:r=0
  .refine⟨K,Om (by rw[aT l,aj,aP l,e,ak,cond_neg (by simpa using w),aQ l af];exact z),λB k q=> ?_⟩;rcases aI.1 q with rfl|q
   .exact h w
   .exact D B k q
  .exact⟨r,Om (by rw[aT l,aj,aP l,e,ak,cond_pos (by simpa using w)]),λh=>absurd h w⟩
def c525 (d:bV):∀level:Nat,level<=65->∃r,f525 d level=some r/\(r=0->lN Fm d):=by induction d using tA with
 |h d B=>
  intro level G;by_cases K:level>64
  .exact⟨7,e525 (by rw[cond_pos (by rw[bz];omega)]),λh=>by omega⟩
  by_cases L:d.Path.length>64
  .exact⟨7,e525 (by rw[cond_neg (by rw[aS];omega),cond_pos (by rw[bz];omega)]),λh=>by omega⟩
  by_cases N:d.Kids.length>256
  .exact⟨7,e525 (by rw[cond_neg (by rw[aS];omega),cond_neg (by rw[aS];omega),cond_pos (by rw[bz];omega)]),λh=>by omega⟩
  by_cases O:d.Op<1
  .exact⟨14,e525 (by rw[cond_neg (by rw[aS];omega),cond_neg (by rw[aS];omega),cond_neg (by rw[aS];omega),cond_pos (by rw[bz];omega)]),λh=>by omega⟩
  by_cases P:d.Op>8
  .exact⟨14,e525 (by rw[cond_neg (by rw[aS];omega),cond_neg (by rw[aS];omega),cond_neg (by rw[aS];omega),cond_neg (by rw[aS];omega),cond_pos (by rw[bz];omega)]),λh=>by omega⟩
  obtain⟨b,e,D⟩:=c538 (d:=d) af af
  have pre:∀r,(bif !b then some 1 else bif d.Op==4 then zM level 0 d else zM (wrap .i64 ((level:Int)+1)) 0 d)=some r->f525 d level=some r:=λr I=>e525 (by
   rw[cond_neg (by rw[aS];omega),cond_neg (by rw[aS];omega),cond_neg (by rw[aS];omega),cond_neg (by rw[aS];omega),cond_neg (by rw[aS];omega),e,ak]
   exact I)
  cases b with
  |false=>exact⟨1,pre 1 (by rw[eB,aj]),λh=>by omega⟩
  |true=>
   have hF:Fm d:=⟨⟨af,af⟩,D rfl,by omega,af⟩
   by_cases z:d.Op=4
   .obtain⟨r,l,h⟩:=h525 (inner:=level) af (λk w=>B k w level af) d.Kids 0 rfl;exact⟨r,pre r (by rw[di,au,cond_pos (by simpa using z)];exact l),λq=> .mk d hF (h q)⟩
   .obtain⟨r,l,h⟩:=h525 (inner:=level+1) af (λk w=>B k w (level+1) af) d.Kids 0 rfl;exact⟨r,pre r (by rw[di,au,cond_neg (by simpa using z),bQ af];exact l),λq=> .mk d hF (h q)⟩
def c510 (d:bV):∃r,f510 d=some r/\(r=0->lN Fm d):=by obtain⟨r,e,h⟩:=c525 d 1 af;exact⟨r,e510 (by rw[show f525 d 1=some r from e,ak]),h⟩
structure LD (d:bV):Prop where
 cnt:wk d<=12
 lt:lN (Lt1 12) d
 fm:lN Fm d
 sh:lN (λd=>d.Path.length<=4) d
def c503 (d:bV):∃b,f503 d=some b/\(b=true->LD d):=by obtain⟨b,e,h⟩:=c509 (most:=12) af d;have e:f509 d 12=some b:=e;cases b with
 |false=>exact⟨false,e503 (by rw[e,ak,au]),λh=>by cases h⟩
 |true=>
  obtain⟨B,w⟩:=h rfl;obtain⟨r,q,D⟩:=c510 d;by_cases l:r=0
  .obtain⟨b,z,G⟩:=c511 d (w.imp λd h=>by have:=h.kl;omega);exact⟨b,e503 (by rw[e,ak,aj,q,ak,cond_pos (by simpa using l),z,ak]),λI=>⟨B,w,D l,G I⟩⟩
  .exact⟨false,e503 (by rw[e,ak,aj,q,ak,cond_neg (by simpa using l)]),λh=>by cases h⟩
structure XI (x:Def):Prop where
 nm:isName x.Name=true
 st:LD x.jR
 df:∀y∈x.eP,LD y
 dl:x.eP.length<=3
def h523 {x:Def} (I:x.eP.length<=3):∀(xs:List bV) (i:Nat),x.eP.drop i=xs->∃b,PW i x=some b/\(b=true->∀y∈xs,LD y):=by intro xs;induction xs with
 |nil=>intro i l;exact⟨true,Uz (by rw[bp l,au]),λ_ k q=>by cases q⟩
 |cons y xs G=>intro i l;obtain⟨b,e,h⟩:=c503 y;obtain⟨w,z,B⟩:=G (i+1) (aJ l);cases b with
  |false=>exact⟨false,Uz (by rw[aT l,aj,aP l,e,ak,eB,aj]),λh=>by cases h⟩
  |true=>
   refine⟨w,Uz (by rw[aT l,aj,aP l,e,ak,di,au,aQ l af];exact z),λD k q=> ?_⟩;rcases aI.1 q with rfl|q
   .exact h rfl
   .exact B D k q
def c523 (x:Def):∃b,f523 x=some b/\(b=true->XI x):=by cases l:isName x.Name with
 |false=>exact⟨false,e523 (by rw[I6,l,ak,eB,aj]),λh=>by cases h⟩
 |true=>
  by_cases D:x.eP.length>3
  .exact⟨false,e523 (by rw[I6,l,ak,di,au,cond_pos (by rw[bz];omega)]),λh=>by cases h⟩
  obtain⟨b,e,w⟩:=c503 x.jR;cases b with
  |false=>exact⟨false,e523 (by rw[I6,l,ak,di,au,cond_neg (by rw[aS];omega),e,ak,eB,aj]),λh=>by cases h⟩
  |true=>obtain⟨b,q,z⟩:=h523 (x:=x) af x.eP 0 rfl;exact⟨b,e523 (by rw[I6,l,ak,di,au,cond_neg (by rw[aS];omega),e,ak,di,au];exact q),λB=>⟨l,w rfl,z B,af⟩⟩
def h502 {l:List Def} (K:l.length<=4):∀(xs:List Def) (i:Nat),l.drop i=xs->∃b,PO l i=some b/\(b=true->∀y∈xs,XI y):=by intro xs;induction xs with
 |nil=>intro i q;exact⟨true,Uv (by rw[bp q,au]),λ_ k w=>by cases w⟩
 |cons y xs I=>intro i q;obtain⟨b,e,h⟩:=c523 y;obtain⟨z,B,D⟩:=I (i+1) (aJ q);cases b with
  |false=>exact⟨false,Uv (by rw[aT q,aj,aP q,e,ak,eB,aj]),λh=>by cases h⟩
  |true=>
   refine⟨z,Uv (by rw[aT q,aj,aP q,e,ak,di,au,aQ q af];exact B),λG k w=> ?_⟩;rcases aI.1 w with rfl|w
   .exact h rfl
   .exact D G k w
def c502 (l:List Def):∃b,f502 l=some b/\(b=true->l.length<=4/\∀y∈l,XI y):=by
 by_cases h:l.length>4
 .exact⟨false,e502 (by rw[cond_pos (by rw[bz];omega)]),λh=>by cases h⟩
 obtain⟨b,e,q⟩:=h502 (l:=l) af l 0 rfl;exact⟨b,e502 (by rw[cond_neg (by rw[aS];omega)];exact e),λw=>⟨af,q w⟩⟩
end Go.Proofs.YtacapiamkgkkjaaGreatDoor.cl.pf
namespace Go.Proofs.YtacapiamkgkkjaaGreatDoor.cl.pf
open Go Go.AM
def halfI {i j:Nat} (h:i+j<=2097152):wrap .i64 (Int.fdiv (wrap .u64 (wrap .i64 ((i:Int)+(j:Int)))) (2^ min (Int.toNat 1) (IntKind.bits .u64)))=(((i+j) / 2:Nat):Int):=by
 have e1:wrap .i64 ((i:Int)+(j:Int))=((i+j:Nat):Int):=by rw[oz af af];omega
 have l:wrap .u64 ((i+j:Nat):Int)=((i+j:Nat):Int):=xb af;have q:(2^ min (Int.toNat 1) (IntKind.bits .u64):Int)=2:=by rfl
 rw[e1,l,q,DY _ af];rw[oz af af];omega
def VR (a b:cr):decide (Lx a b<0)=Op.bytesLess a b:=by unfold Lx;cases Op.bytesLess a b with
 |true=>rfl
 |false=>cases a==b<;>rfl
def cmpS_eq {a b:cr} (h:Op.bytesLess a b=false):(Lx a b==0)=(a==b):=by unfold Lx;rw[h];cases a==b<;>rfl
def Lr (t:List Template):Prop:=t.Pairwise λa b=>Op.bytesLess a.Name b.Name=true
def Lr.lt {t:List Template} (h:Lr t) {i j:Nat} {x y:Template} (z:t[i]? =some x) (B:t[j]? =some y) (l:i<j):Op.bytesLess x.Name y.Name=true:=by obtain⟨q,rfl⟩:=bP.1 z;obtain⟨w,rfl⟩:=bP.1 B;exact nR.1 h i j q w l
def h540 {t:List Template} (I:Lr t) (S:t.length<=1000) (s:cr):∀(n i j:Nat),j-i=n->i<=j->j<=t.length->(∀k x,k<i->t[k]? =some x->Op.bytesLess x.Name s=true)->(∀k x,j<=k->t[k]? =some x->Op.bytesLess x.Name s=false)->
  ∃(k:Nat) (b:Bool),Lb t s t.length i j=some ((k:Int),b)/\(b=true->∃x,t[k]? =some x/\x.Name=s)/\(b=false->∀x∈t,x.Name≠s):=by
 intro n;induction n using Nat.strongRecOn with
 |_ n N=>
  intro i j hn P Q z w;by_cases R:i<j
  .have K:(i+j) / 2<t.length:=af;have hg:=aN K;cases e:Op.bytesLess t[(i+j) / 2].Name s with
   |true=>
    obtain⟨k,b,D,G⟩:=N (j-((i+j) / 2+1)) af ((i+j) / 2+1) j rfl af Q (λk x q l=>by
     by_cases h:k=(i+j) / 2
     .subst h;rw[hg] at l;cases l;exact e
     .exact vq _ _ _ (I.lt l hg af) e) w
    refine⟨k,b,On ?_,G⟩;rw[cond_pos (by rw[bz];omega),bU (by decide),halfI af,cQ K,c556,ak,VR,e,aj,bQ af];exact D
   |false=>
    obtain⟨k,b,D,G⟩:=N ((i+j) / 2-i) af i ((i+j) / 2) rfl af af z (λk x q l=>by
     by_cases h:k=(i+j) / 2
     .subst h;rw[hg] at l;cases l;exact e
     .cases O:Op.bytesLess x.Name s with
      |false=>rfl
      |true=>rw[vq _ _ _ (I.lt hg l af) O] at e;cases e)
    refine⟨k,b,On ?_,G⟩;rw[cond_pos (by rw[bz];omega),bU (by decide),halfI af,cQ K,c556,ak,VR,e,au];exact D
  .have e:i=j:=af;subst e;by_cases L:i<t.length
   .have hg:=aN L;refine⟨i,t[i].Name==s,On ?_,λB=>⟨_,hg,by simpa using B⟩,λB x l e=> ?_⟩
    .rw[cond_neg (by rw[aS];omega),cond_pos (by rw[bz];omega),cQ L,c556,ak,cmpS_eq (w i _ (aW _) hg)]
    .obtain⟨k,q⟩:=jJ.1 l;rcases yR k i with h|h|h
     .exact I4 (z k x h q) e
     .subst h;rw[hg] at q;cases q;simp[e] at B
     .have:=I.lt hg q h;rw[e,w i _ (aW _) hg] at this;cases this
   .refine⟨i,false,On ?_,λB=>(by cases B),λ_ x l e=> ?_⟩
    .rw[cond_neg (by rw[aS];omega),cond_neg (by rw[aS];omega)]
    .obtain⟨k,q⟩:=jJ.1 l;exact I4 (z k x (by have:=(bP.1 q).1;omega) q) e
abbrev tpos (t:List Template) (s:cr):Int:=sB (λx=>x.Name==s) t 0
def tfind {t:List Template} (B:Lr t) (Q:t.length<=1000) (s:cr):∃(k:Nat) (b:Bool),(∀K I A D,Rg s K I t A D=some (((k:Int),b),A,D))/\
  ((b=true/\tpos t s=k/\∃x,t[k]? =some x/\x.Name=s)\/(b=false/\tpos t s= -1)):=by
 obtain⟨k,b,O,L,P⟩:=h540 B Q s t.length 0 t.length af af (aW _) (λk x N=>absurd N af) (λk x N R=>by have:=(bP.1 R).1;omega);refine⟨k,b,λK I A D=>e528a (by rw[e540 O,ak]),?_⟩;rcases sO (λx:Template=>x.Name==s) t 0 with⟨G,w⟩|⟨j,x,G,w,z,S⟩
 .cases b with
  |true=>obtain⟨x,l,q⟩:=L rfl;have:=w x (bf l);simp[q] at this
  |false=>exact .inr ⟨rfl,G⟩
 .have z:x.Name=s:=by simpa using z
  cases b with
  |false=>exact(P rfl x (bf w) z).elim
  |true=>
   obtain⟨y,l,q⟩:=L rfl;refine .inl ⟨rfl,?_,y,l,q⟩
   have:j=k:=by
    rcases yR j k with h|h|h
    .exact(I4 (B.lt w l h) (by rw[z,q])).elim
    .exact h
    .exact(I4 (B.lt l w h) (by rw[z,q])).elim
   exact G.trans (by rw[this,eN])
structure HR (t u:List Template):Prop where
 Aj:Lr u
 len:u.length<=1000
 same:∀s,(tpos t s= -1/\tpos u s= -1)\/∃(i j:Nat) (x:Template),tpos t s=i/\t[i]? =some x/\tpos u s=j/\u[j]? =some x
theorem HR.refl {t:List Template} (h:Lr t) (w:t.length<=1000):HR t t:=⟨h,w,λs=>by
 rcases sO (λx:Template=>x.Name==s) t 0 with⟨l,_⟩|⟨j,x,l,q,_⟩
 .exact .inl ⟨l,l⟩
 .rw[eN] at l
  exact .inr ⟨j,j,x,l,q,l,q⟩⟩
theorem HR.find {t u:List Template} (h:HR t u) (s:cr):∃(k:Nat) (b:Bool),(∀D B A w,Rg s D B u A w=some (((k:Int),b),A,w))/\
  ((b=true/\∃(i:Nat) (x:Template),tpos t s=i/\t[i]? =some x/\u[k]? =some x)\/(b=false/\tpos t s= -1)):=by
 obtain⟨k,b,G,I⟩:=tfind h.Aj h.len s;refine⟨k,b,G,?_⟩;rcases h.same s with⟨l,z⟩|⟨i,j,x,l,z,N,K⟩<;>rcases I with⟨q,L,_⟩|⟨q,L⟩
 .omega
 .exact .inr ⟨q,l⟩
 .have:j=k:=af
  exact .inl ⟨q,i,x,l,z,this▸K⟩
 .omega
abbrev n9 (h:aU) (s:cr):Int:=sB (λx=>x.Name==s) h.Types 0
abbrev iY (h:aU) (s:cr):Int:=sB (λx=>x.Name==s) h.bN 0
def ON {w:Type} (p:w->Bool) (l:List w):sB p l 0<(l.length:Int)/\-1<=sB p l 0:=by
 rcases sO p l 0 with⟨q,_⟩|⟨j,x,q,z,_⟩
 .rw[q];omega
 .have:=(bP.1 z).1;rw[q];omega
def h521 {l:Int}:∀(n:Nat) (p:List Int),p.length+n<=100000->PV l (n:Int) p=some (p++List.replicate n l):=by intro n;induction n with
 |zero=>intro p _;refine abJ ?_;rw[cond_neg (by rfl)];simp
 |succ n q=>intro p w;refine abJ ?_;rw[cond_pos (by rw[bz];omega),cH _ af ai af,oA af,q _ aH,ew,List.singleton_append,<-tu]
def Nr {l:Int} {n:Nat} {p:List Int} (q:p.length+n<=100000):f521 p l (n:Int)=some (p++List.replicate n l):=by refine e521 ?_;rw[cH _ ai af af,dS];exact h521 n p q
def h534 {h:aU} (D:h.bN.length<=1000) {t:List Template} {A:List Node} {z:List (cr×List Int)} {q:List cr} (hn:q.length<=1000):∀(xs:List cr) (i:Nat) (p:List Int),q.drop i=xs->p.length+xs.length<=100000->
  ID q q.length i p h.Types h.bN t A z=some (p++xs.map (iY h),A,z):=by
 intro xs;induction xs with
 |nil=>intro i p l w;refine WK ?_;rw[bp l,au];simp
 |cons x xs B=>intro i p l w;simp only[bw] at w;refine WK ?_;rw[aT l,aj,aP l,show aU.mk h.Types h.bN=h from rfl,c363 _ _ af,ak,cH _ af ai af,aQ l af,B (i+1) _ (aJ l) aH];simp
def ZI {h:aU} (w:h.bN.length<=1000) {t:List Template} {A:List Node} {q:List (cr×List Int)} {l:List cr} (hn:l.length<=1000) {p:List Int} (z:p.length<=1000):A3 p l h.Types h.bN t A q=some (p++l.map (iY h),A,q):=by refine e534a ?_;rw[c460 af,ak];exact h534 w hn l 0 p rfl af
end Go.Proofs.YtacapiamkgkkjaaGreatDoor.cl.pf
namespace Go.Proofs.YtacapiamkgkkjaaGreatDoor.cl.pf
open Go Go.AM
abbrev CU:cr:=[108,105,115,116]
abbrev E5:cr:=[99,111,110,115]
abbrev CV:cr:=[110,117,108,108]
abbrev zy:cr:=[100,108,105,115,116]
abbrev sj:cr:=[70,73,82,83,84]
abbrev yh:cr:=[82,69,83,84]
abbrev E6:cr:=[76,73,83,84]
abbrev wU:cr:=[76,65,83,84]
structure LT (h:aU):Prop where
 li:0<=n9 h CU
 co:0<=n9 h E5
 nu:0<=n9 h CV
 dl:0<=n9 h zy
 fi:0<=iY h sj
 re:0<=iY h yh
 he:0<=iY h E6
 la:0<=iY h wU
def WO (a b:Int):decide ((if a<b then a else b)<0)=(decide (a<0)||decide (b<0)):=by
 by_cases h:a<b
 .rw[aB h];by_cases l:a<0
  .simp[l]
  .have:¬b<0:=af
   simp[l,this]
 .rw[aA h];by_cases l:b<0
  .simp[l]
  .have:¬a<0:=af
   simp[l,this]
section
variable {h:aU} {T F:Nat} {sb:Int->Int->Prop} {cD:Int->Int} {val:Int->Int->Int} (H:HX h T F sb cD val) (hT:T<=1000) (hF:F<=300)
include H hT hF
theorem c529 {nu:Int} (hn:0<=nu/\nu<(T:Int)) (w:world) (O:w.null=nu):∃L,(Option.bind (f550 1) λq=>bif(!q) then(some ((FSt.mk ([]:List Node)),7)) else(Option.bind (f551 w) λz=>Option.bind (f552 w z) λB=>Option.bind (f437 B.1) λl=>some (l.1,l.2)))=some (L,(0:Int)):=by
 have D:f550 1=some true:=e550 (k550_2 (by rw[cond_neg (by rfl)]));have G:f551 w=some nu:=e551 (by rw[O]);have I:f552 w nu=some (⟨[⟨nu,[]⟩]⟩,0):=by refine e552 (k552_3 ?_);rw[cond_neg (by rfl),cH _ ai ai af];rfl
 have N:Can T F ⟨[⟨nu,[]⟩]⟩:=u6 (T:=T) (F:=F) (π:=[]) (t:=nu) af ai hn;have K:=c437 N ai af ai;refine⟨⟨[⟨nu,[]⟩]⟩,?_⟩;rw[D,ak,cond_neg (by rfl),G,ak,I,ak,K,ak]
theorem c516:∃b,f516 h=some b/\(b=true->LT h)/\∃fs e,f529 h=some (fs,e)/\(e !=0)= !b:=by
 have hfl:=H.hv.fl;have Uk:=H.tl;have G:∀s,f352 h s=some (n9 h s):=λs=>c352 s h af
 have I:∀s,f364 h s=some (n9 h s):=λs=>c364 s h af
 have K:∀s,f363 h s=some (iY h s):=λs=>c363 s h af
 have L:∀s,f365 h s=some (iY h s):=λs=>oT s h af
 have tl:∀s,n9 h s<(T:Int):=λs=>by
  have:n9 h s<(h.Types.length:Int):=(ON _ _).1
  omega
 have l1:=tl CU;have l2:=tl E5;have l3:=tl CV;have l4:=tl zy;by_cases B:0<=n9 h CU/\0<=n9 h E5/\0<=n9 h CV/\0<=n9 h zy/\0<=iY h sj/\0<=iY h yh/\0<=iY h E6/\0<=iY h wU
 .obtain⟨w,N,z,P,Q,R,S,h8⟩:=B;obtain⟨O,s1,s2,_⟩:=H.ss _ _ w l1 N l2;obtain⟨U,s3,s4,_⟩:=H.ss _ _ w l1 z l3;have l:∀{x:Int},0<=x->decide (x<0)=false:=λhx=>by rw[aS];omega
  refine⟨O&&U,e516 ?_,λ_=>⟨w,N,z,P,Q,R,S,h8⟩,?_⟩
  .rw[I,ak,I,ak,I,ak,l w,au,l N,au,l z,au,I,ak,l P,au,L,ak,l Q,au,L,ak,l R,au,L,ak,l S,au,L,ak,l h8,au,s2,ak];cases O with
   |false=>rw[au];rfl
   |true=>rw[aj,s4,ak];rfl
  .have o:∀r,(bif(!O) then(some ((world.mk (aU.mk ([]:List fG) ([]:List cU)) 0 0 0 0 0 0 0 0),(5:Int))) else(Option.bind (f339 h (n9 h CU) (n9 h CV)) λV=>bif(!V) then(some ((world.mk (aU.mk ([]:List fG) ([]:List cU)) 0 0 0 0 0 0 0 0),5)) else(some ((world.mk h (n9 h CU) (n9 h E5) (n9 h CV) (n9 h zy) (iY h sj) (iY h yh) (iY h E6) (iY h wU)),0))))=some r->f549 h=some r:=λr hr=>by
    refine e549 ?_;rw[G,ak,G,ak,G,ak,G,ak,K,ak,K,ak,K,ak,K,ak];simp only[WO,l w,l N,l z,l P,l Q,l R,l S,l h8,rB,au];rw[s1,ak];exact hr
   cases hb:O&&U with
   |true=>
    have e1:O=true:=by cases O<;>simp_all
    have e2:U=true:=by cases U<;>simp_all
    obtain⟨fs,g⟩:=c529 H hT hF ⟨z,l3⟩ (world.mk h (n9 h CU) (n9 h E5) (n9 h CV) (n9 h zy) (iY h sj) (iY h yh) (iY h E6) (iY h wU)) rfl;refine⟨fs,0,e529 ?_,rfl⟩;have q:f549 h=some (_,0):=o _ (by rw[e1,cond_neg (by rfl),s3,ak,e2,cond_neg (by rfl)]);rw[e541 (r:=(fs,0)) (by rw[q,ak,cond_neg (by rfl)];exact g),ak]
   |false=>
    refine⟨⟨[]⟩,5,e529 ?_,rfl⟩
    have q:f549 h=some (_,5):=o (world.mk (aU.mk ([]:List fG) ([]:List cU)) 0 0 0 0 0 0 0 0,5) (by cases O with
     |false=>rw[cond_pos (by rfl)]
     |true=>cases U with
      |true=>cases hb
      |false=>rw[cond_neg (by rfl),s3,ak,cond_pos (by rfl)])
    rw[e541 (r:=(⟨[]⟩,5)) (by rw[q,ak,cond_pos (by rfl)]),ak]
 .have l:∀{x:Int},¬x<0->decide (x<0)=false:=λhx=>by rw[aS];exact hx
  have D:∀{x:Int},x<0->decide (x<0)=true:=λhx=>uS hx
  refine⟨false,e516 ?_,λhb=>(by cases hb),⟨[]⟩,5,e529 ?_,rfl⟩
  .rw[I,ak,I,ak,I,ak];by_cases w:n9 h CU<0
   .rw[D w,aj]
   rw[l w,au];by_cases N:n9 h E5<0
   .rw[D N,aj]
   rw[l N,au];by_cases z:n9 h CV<0
   .rw[D z,aj]
   rw[l z,au,I,ak];by_cases P:n9 h zy<0
   .rw[D P,aj]
   rw[l P,au,L,ak];by_cases Q:iY h sj<0
   .rw[D Q,aj]
   rw[l Q,au,L,ak];by_cases R:iY h yh<0
   .rw[D R,aj]
   rw[l R,au,L,ak];by_cases S:iY h E6<0
   .rw[D S,aj]
   rw[l S,au,L,ak,D (x:=iY h wU) af,aj]
  .have q:f549 h=some (world.mk (aU.mk ([]:List fG) ([]:List cU)) 0 0 0 0 0 0 0 0,5):=by
    refine e549 ?_;rw[G,ak,G,ak,G,ak,G,ak,K,ak,K,ak,K,ak,K,ak];simp only[WO];rw[cond_pos];simp only[gA,je];unfold CU E5 CV zy sj yh E6 wU at B;omega
   rw[e541 (r:=(⟨[]⟩,5)) (by rw[q,ak,cond_pos (by rfl)]),ak]
end
end Go.Proofs.YtacapiamkgkkjaaGreatDoor.cl.pf
namespace Go.Proofs.YtacapiamkgkkjaaGreatDoor.cl.pf
open Go Go.AM
structure Kn (h:aU) (t:List Template) (d:bV):Prop where
 ty:d.Op=1->0<=n9 h d.Name
 tm:d.Op=2->∃(i:Nat) (x:Template),tpos t d.Name=(i:Int)/\t[i]? =some x
 ls:6<=d.Op->LT h
 pt:3<=d.Op->∀s∈d.Path,0<=iY h s
section
variable {h:aU} {T F:Nat} {sb:Int->Int->Prop} {cD:Int->Int} {val:Int->Int->Int} (H:HX h T F sb cD val) (hT:T<=1000) (hF:F<=300) {t u:List Template} (ht:t.length<=1000)
include H hT hF ht
theorem h507p {d:bV} (R:d.Path.length<=64):∀(xs:List cr) (i:Nat),d.Path.drop i=xs->
  (oL t i h d=some false/\∀A l,mz d.Path d.Path.length i d h.Types h.bN u A l=some (false,A,l))\/
  ((∀s∈xs,0<=iY h s)/\(∀r,Fo t 0 h d=some r->oL t i h d=some r)/\∀A l r,(dU (VY d.Kids h.Types h.bN u A l) λD z B=>some ((!D),z,B))=some r->mz d.Path d.Path.length i d h.Types h.bN u A l=some r):=by
 have P:=H.hv.fl;intro xs;induction xs with
 |nil=>
  intro i q;refine .inr ⟨ai,λr w=>Oh ?_,λA l r w=>JL ?_⟩
  .rw[bp q,au];exact w
  .rw[bp q,au];exact w
 |cons x xs Q=>
  intro i q;by_cases G:iY h x<0
  .refine .inl ⟨Oh ?_,λA l=>JL ?_⟩
   .rw[aT q,aj,aP q,oT _ _ af,ak,cond_pos (by rw[bz];exact G)]
   .rw[aT q,aj,aP q,show aU.mk h.Types h.bN=h from rfl,c363 _ _ af,ak,cond_pos (by rw[bz];exact G)]
  .have e1:∀r,oL t ((i+1:Nat):Int) h d=some r->oL t i h d=some r:=λr w=>by
    refine Oh ?_;rw[aT q,aj,aP q,oT _ _ af,ak,cond_neg (by rw[aS];exact G),aQ q af];exact w
   have N:∀A l r,mz d.Path d.Path.length ((i+1:Nat):Int) d h.Types h.bN u A l=some r->mz d.Path d.Path.length i d h.Types h.bN u A l=some r:=λA l r w=>by refine JL ?_;rw[aT q,aj,aP q,show aU.mk h.Types h.bN=h from rfl,c363 _ _ af,ak,cond_neg (by rw[aS];exact G),aQ q af];exact w
   rcases Q (i+1) (aJ q) with⟨I,K⟩|⟨O,I,K⟩
   .exact .inl ⟨e1 _ I,λA l=>N _ _ _ (K A l)⟩
   .exact .inr ⟨λs L=>by
     rcases aI.1 L with rfl|L
     .omega
     .exact O s L,λr w=>e1 r (I r w),λA l r w=>N A l r (K A l r w)⟩
theorem h507k {d:bV} (U:d.Kids.length<=256) (G:∀k∈d.Kids,∃b,f507 h t k=some b/\(HR t u->∀A w,Mf k h.Types h.bN u A w=some (b,A,w))/\(b=true->lN (Kn h t) k)):∀(xs:List bV) (i:Nat),d.Kids.drop i=xs->
  ∃b,Fo t i h d=some b/\(HR t u->∀A w,∃v,IE d.Kids d.Kids.length i h.Types h.bN u A w=some (v,A,w)/\decide (v>=0)= !b)/\(b=true->∀k∈xs,lN (Kn h t) k):=by
 intro xs;induction xs with
 |nil=>
  intro i l;refine⟨true,Oi ?_,λ_ A w=>⟨-1,Oo ?_,rfl⟩,λ_=>by simp⟩
  .rw[bp l,au]
  .rw[bp l,au]
 |cons x xs N=>
  intro i l;obtain⟨b,I,K,L⟩:=G x (bf (cn l));have q:HR t u->∀A w,aac x h.Types h.bN u A w=some (!b,A,w):=λz A w=>e560a (by rw[K z,bg])
  cases b with
  |false=>
   refine⟨false,Oi ?_,λz A w=>⟨(i:Int),Oo ?_,ai⟩,λB=>by cases B⟩
   .rw[aT l,aj,aP l,I,ak,cond_pos (by rfl)]
   .rw[aT l,aj,aP l,q z,bg,cond_pos (by rfl)]
  |true=>
   obtain⟨b,O,P,Q⟩:=N (i+1) (aJ l);refine⟨b,Oi ?_,λz A w=> ?_,λB k D=> ?_⟩
   .rw[aT l,aj,aP l,I,ak,cond_neg (by rfl),aQ l af];exact O
   .obtain⟨v,R,S⟩:=P z A w;refine⟨v,Oo ?_,S⟩;rw[aT l,aj,aP l,q z,bg,cond_neg (by rfl),aQ l af];exact R
   .rcases aI.1 D with rfl|D
    .exact L rfl
    .exact Q B k D
theorem c507 (d:bV):lN Fm d->∃b,f507 h t d=some b/\(HR t u->∀A l,Mf d h.Types h.bN u A l=some (b,A,l))/\(b=true->lN (Kn h t) d):=by
 refine tA (P:=λd=>lN Fm d->∃b,f507 h t d=some b/\(HR t u->∀A l,Mf d h.Types h.bN u A l=some (b,A,l))/\(b=true->lN (Kn h t) d)) (λd ih hd=> ?_) d;have hfl:=H.hv.fl;have Uk:=H.tl;have fm:=hd.here;have hp:=fm.pl;have O:=fm.kl;have nk:d.Op=1\/d.Op=2\/d.Op=3->d.Kids=[]:=λh=>nS.1 (fm.kd.leaf h)
 have S:3<=d.Op->(6<=d.Op->LT h)->∃b,oL t 0 h d=some b/\(HR t u->∀A l,mz d.Path d.Path.length 0 d h.Types h.bN u A l=some (b,A,l))/\(b=true->lN (Kn h t) d):=λho hls=>by
  obtain⟨b,G,I,K⟩:=h507k H hT hF ht (d:=d) O (λk U=>ih k U (hd.kids k U)) d.Kids 0 rfl;rcases h507p H hT hF ht hp d.Path 0 rfl with⟨w1,w2⟩|⟨w0,w1,w2⟩
  .exact⟨false,w1,λ_=>w2,λL=>by cases L⟩
  .refine⟨b,w1 _ G,λw A l=>w2 A l _ ?_,λL=>⟨_,⟨λe=>by omega,λe=>by omega,hls,λ_=>w0⟩,K L⟩⟩;obtain⟨v,v1,v2⟩:=I w A l;have q:VY d.Kids h.Types h.bN u A l=some (!b,A,l):=e533c (by rw[e543c v1,bg,v2]);rw[q,bg,Bool.not_not]
 have D:6<=d.Op->∃b,(Option.bind (f516 h) λy205=>bif(!y205) then(some false) else(oL t 0 h d))=some b/\(HR t u->∀A l,(Option.bind (f529 h) λy208=>bif(y208.2 !=0) then(some (false,A,l)) else(mz d.Path d.Path.length 0 d h.Types h.bN u A l))=some (b,A,l))/\(b=true->lN (Kn h t) d):=λho=>by obtain⟨bl,j1,j2,fs,e,j3,j4⟩:=c516 H hT hF;cases bl with
  |false=>exact⟨false,by rw[j1,ak,cond_pos (by rfl)],λ_ A l=>by rw[j3,ak,j4,cond_pos (by rfl)],λL=>by cases L⟩
  |true=>obtain⟨b,G,I,K⟩:=S af (λ_=>j2 rfl);exact⟨b,by rw[j1,ak,cond_neg (by rfl)];exact G,λw A l=>by rw[j3,ak,j4,cond_neg (by rfl)];exact I w A l,K⟩
 have ho:=fm.op;have hh:aU.mk h.Types h.bN=h:=rfl;by_cases V:d.Op=1
 .refine⟨decide (n9 h d.Name>=0),e507 ?_,λ_ A l=>Me ?_,λL=>⟨_,⟨λ_=>by simpa using L,λe=>by omega,λe=>by omega,λe=>by omega⟩,λk O=>by rw[nk (.inl V)] at O;cases O⟩⟩
  .rw[cond_pos (by rw[V];rfl),c364 _ _ af,ak]
  .rw[cond_pos (by rw[V];rfl),hh,c352 _ _ af,ak]
 by_cases Q:d.Op=2
 .have hc:=XW d.Name t af;have P:=sO (λx:Template=>x.Name==d.Name) t 0;refine⟨decide (tpos t d.Name>=0),e507 ?_,λw A l=>Me ?_,λL=>⟨_,⟨λe=>by omega,λ_=> ?_,λe=>by omega,λe=>by omega⟩,λk O=>by rw[nk (.inr (.inl Q))] at O;cases O⟩⟩
  .rw[cond_neg (by rw[Q];rfl),cond_pos (by rw[Q];rfl),hc,ak]
  .obtain⟨k,b,R,q2⟩:=w.find d.Name;rw[cond_neg (by rw[Q];rfl),cond_pos (by rw[Q];rfl),R,bg];rcases q2 with⟨rfl,i,x,q3,_⟩|⟨rfl,q3⟩
   .rw[q3]
    have:decide ((i:Int)>=0)=true:=by rw[bz];omega
    rw[this]
   .rw[q3];rfl
  .rcases P with⟨R,_⟩|⟨j,x,R,q2,_⟩
   .exfalso;have R:tpos t d.Name= -1:=R;rw[R] at L;simp at L
   .exact⟨j,x,R.trans (by rw[eN]),q2⟩
 by_cases N:d.Op=6
 .obtain⟨b,G,I,K⟩:=D af;refine⟨b,e507 ?_,λw A l=>Me ?_,K⟩
  .rw[cond_neg (by rw[N];rfl),cond_neg (by rw[N];rfl),cond_pos (by rw[N];rfl),cond_pos (by rw[N];rfl)];exact G
  .rw[cond_neg (by rw[N];rfl),cond_neg (by rw[N];rfl),cond_pos (by rw[N];rfl),cond_pos (by rw[N];rfl)];exact I w A l
 by_cases z:d.Op=7
 .obtain⟨b,G,I,K⟩:=D af;refine⟨b,e507 ?_,λw A l=>Me ?_,K⟩
  .rw[cond_neg (by rw[z];rfl),cond_neg (by rw[z];rfl),cond_neg (by rw[z];rfl),cond_pos (by rw[z];rfl),cond_pos (by rw[z];rfl)];exact G
  .rw[cond_neg (by rw[z];rfl),cond_neg (by rw[z];rfl),cond_neg (by rw[z];rfl),cond_pos (by rw[z];rfl),cond_pos (by rw[z];rfl)];exact I w A l
 by_cases B:d.Op=8
 .obtain⟨b,G,I,K⟩:=D af;refine⟨b,e507 ?_,λw A l=>Me ?_,K⟩
  .rw[cond_neg (by rw[B];rfl),cond_neg (by rw[B];rfl),cond_neg (by rw[B];rfl),cond_neg (by rw[B];rfl),cond_pos (by rw[B];rfl)];exact G
  .rw[cond_neg (by rw[B];rfl),cond_neg (by rw[B];rfl),cond_neg (by rw[B];rfl),cond_neg (by rw[B];rfl),cond_pos (by rw[B];rfl)];exact I w A l
 .obtain⟨b,G,I,K⟩:=S af (λe=>by omega);have ne:∀k:Int,d.Op≠k->(d.Op==k)=false:=λk O=>by simpa using O
  refine⟨b,e507 ?_,λw A l=>Me ?_,K⟩
  .rw[ne 1 V,au,ne 2 Q,au,ne 6 N,au,ne 7 z,au,ne 8 B,au];exact G
  .rw[ne 1 V,au,ne 2 Q,au,ne 6 N,au,ne 7 z,au,ne 8 B,au];exact I w A l
end
end Go.Proofs.YtacapiamkgkkjaaGreatDoor.cl.pf
namespace Go.Proofs.YtacapiamkgkkjaaGreatDoor.cl.pf
open Go Go.AM
def S6:∀(k:Nat) (l:List Int) (i:Nat) (h:i<l.length),(Fx k l)[i]? =some ⟨0,[⟨l[i],(k+i+1:Nat)⟩]⟩
 |k,f::l,0,h=>by simp[Fx]
 |k,f::l,i+1,h=>by simp only[Fx,rH,D1];rw[S6 (k+1) l i (by simpa using h)];congr 4;omega
def Fy {p:List Int} {f:FSt}:(Ct p f).az.length=p.length+f.az.length:=by simp[Ct,BK]
def S7 {p:List Int} {f:FSt} {i:Nat} (h:i<p.length):(Ct p f).az[i]? =some ⟨0,[⟨p[i],(i+1:Nat)⟩]⟩:=by unfold Ct;rw[eX (by rw[BK];exact h),S6 0 p i h,eN]
def S8 {p:List Int} {f:FSt} {j:Nat}:(Ct p f).az[p.length+j]? =(f.az[j]?).map (udN p.length):=by unfold Ct;rw[fD (by rw[BK];omega),BK,Nat.add_sub_cancel_left,dP]
def IF {p:List Int} {f:FSt} {i:Nat} (h:i<p.length):kY (Ct p f) i=[(p[i],i+1)]:=by unfold kY;rw[S7 h];simp[Zb]
def und_tyL {p:List Int} {f:FSt} {i:Nat} (h:i<p.length):sU (Ct p f) i=0:=by unfold sU;rw[S7 h]
def und_tyR {p:List Int} {f:FSt} {j:Nat}:sU (Ct p f) (p.length+j)=sU f j:=by unfold sU;rw[S8];cases f.az[j]? <;>rfl
def Zu (f:FSt):Prop:=∀x∈f.az,∀a∈x.cu,0<=a.To/\a.To<=1000000
def IG {p:List Int} (G:p.length<=1000000) {f:FSt} (w:Zu f) {j:Nat}:kY (Ct p f) (p.length+j)=(kY f j).map λq=>(q.1,p.length+q.2):=by unfold kY;rw[S8];cases z:f.az[j]? with
 |none=>rfl
 |some x=>
  show Zb (udN p.length x)=(Zb x).map _;unfold Zb udN;rw[fk,fk];refine gR λa l=> ?_
  obtain⟨B,D⟩:=w x (bf z) a l;simp only[Function.comp];rw[show wrap .i64 (a.To+(p.length:Int))=a.To+(p.length:Int) from Qa af af];congr 1;omega
def M9 {sc sc':Nat->List (Int×Nat)} {n:Nat} {L:List Nat} (w:∀y∈L,y<n) (B:∀y,sc' (n+y)=(sc y).map λq=>(q.1,n+q.2)):∀(k x:Nat) (o:List Nat),nx sc' k (n+x) (L++o.map (n+ ·))=L++(nx sc k x o).map (n+ ·)
 |0,x,o=>rfl
 |k+1,x,o=>by
  have z:n+x∈L++o.map (n+ ·)↔x∈o:=by
   rw[bA];constructor
   .rintro (h|h)
    .have:=w _ h;omega
    .obtain⟨y,G,e⟩:=aD.1 h
     have:y=x:=af
     exact this▸G
   .exact λh=> .inr (iH h)
  unfold nx;by_cases h:x∈o
  .rw[aB h,aB (z.2 h)]
  .rw[aA h,aA (λD=>h (z.1 D)),B x];have key:∀(l:List (Int×Nat)) (o:List Nat),(l.map λq=>(q.1,n+q.2)).foldl (λo p=>nx sc' k p.2 o) (L++o.map (n+ ·))=L++(l.foldl (λo p=>nx sc k p.2 o) o).map (n+ ·):=by
    intro l;induction l with
    |nil=>intro o;rfl
    |cons q l I=>intro o;simp only[bu,fO];rw[M9 w B k q.2 o];exact I _
   have:=key (sc x) (o++[x]);rw[bZ,List.map_singleton,<-ew] at this;exact this
def und_vis {T F:Nat} {p:List Int} (z:p.length<=1000000) {f:FSt} (l:Can T F f) (ht:Zu f):∀(j i:Nat),p.length=i+j->nx (kY (Ct p f)) (f.az.length+1+j) i (List.range i)=List.range (p.length+f.az.length):=by intro j;induction j with
 |zero=>intro i q;have e:i=p.length:=af;have:=M9 (sc:=kY f) (sc':=kY (Ct p f)) (n:=p.length) (L:=List.range p.length) (λy B=>gp.1 B) (λy=>IG z ht) (f.az.length+1) 0 [];rw[eY,dN] at this;rw[e,lX];refine Eq.trans this ?_;have w:nx (kY f) (f.az.length+1) 0 []=List.range f.az.length:=l.ord;rw[w,<-wv]
 |succ j D=>intro i q;rw[show f.az.length+1+(j+1)=(f.az.length+1+j)+1 from rfl,nx,aA ai,IF af,<-kL];exact D (i+1) af
def und_go {T F:Nat} (hT:0<T) {p:List Int} (I:p.length<=1000000) (hπ:∀g∈p,0<=g/\g<(F:Int)) {f:FSt} (K:Can T F f) (ht:Zu f):GO T F (qe (Ct p f)) (Ct p f).az.length:=by
 have hn:=K.ne;have hg:=K.go;rw[Fy];have L:∀i,i<p.length+f.az.length->i<p.length\/∃j,j<f.az.length/\i=p.length+j:=λi z=>by
  by_cases h:i<p.length
  .exact .inl h
  .exact .inr ⟨i-p.length,by omega,af⟩
 refine⟨λi z q l=> ?_,λi z=> ?_,λi z q l=> ?_,λi z=> ?_⟩<;>rcases L i z with h|⟨j,B,rfl⟩
 .have l:q∈kY (Ct p f) i:=l;rw[IF h] at l;simp at l;subst l;show i+1<_;omega
 .have l:q∈kY (Ct p f) (p.length+j):=l;rw[IG I ht] at l;obtain⟨D,w,rfl⟩:=aD.1 l;have:=hg.bd j B D w;show p.length+D.2<_;omega
 .show Cn (kY _ i);rw[IF h];exact uR _ _
 .show Cn (kY _ _);rw[IG I ht];exact List.Pairwise.map _ (λa b G=>G) (hg.Aj j B)
 .have l:q∈kY (Ct p f) i:=l;rw[IF h] at l;simp at l;subst l;exact hπ _ (cG h)
 .have l:q∈kY (Ct p f) (p.length+j):=l;rw[IG I ht] at l;obtain⟨D,w,rfl⟩:=aD.1 l;exact hg.ft j B D w
 .show 0<=sU _ i/\sU _ i<_;rw[und_tyL h];omega
 .show 0<=sU _ _/\sU _ _<_;rw[und_tyR];exact hg.tp j B
def Xy {T F:Nat} (hT:0<T) {p:List Int} (B:p.length<=1000000) (hπ:∀g∈p,0<=g/\g<(F:Int)) {f:FSt} (z:Can T F f) (ht:Zu f):Can T F (Ct p f):=by
 have hn:=z.ne;refine Da (by rw[Fy];omega) (und_go hT B hπ z ht) (λx l a q=> ?_) ?_
 .unfold Ct at l;rcases bA.1 l with l|l
  .have key:∀(k:Nat) (w:List Int),∀x∈Fx k w,∀a∈x.cu,0<=a.To:=by
    intro k w;induction w generalizing k with
    |nil=>intro x l;cases l
    |cons g w I=>
     intro x l a q;rcases aI.1 l with rfl|l
     .simp at q;subst q;show(0:Int)<=((k+1:Nat):Int);omega
     .exact I _ x l a q
   exact key 0 p x l a q
  .obtain⟨y,G,rfl⟩:=aD.1 l;obtain⟨b,D,rfl⟩:=aD.1 q;obtain⟨K,L⟩:=ht y G b D;show 0<=wrap .i64 (b.To+(p.length:Int));rw[show wrap .i64 (b.To+(p.length:Int))=b.To+(p.length:Int) from Qa af af];omega
 .rw[Fy];have:=und_vis B z ht p.length 0 af;rw[show f.az.length+1+p.length=p.length+f.az.length+1 from by omega] at this;exact this
end Go.Proofs.YtacapiamkgkkjaaGreatDoor.cl.pf
namespace Go.Proofs.YtacapiamkgkkjaaGreatDoor.cl.pf
open Go Go.AM
def to_ok {T F:Nat} {f:FSt} (q:Can T F f) (hn:f.az.length<=1000000) (hF:F<=1000000):Zu f:=λx w a l=>(q.small hn hF x w).2 a l
section
variable {h:aU} {T F:Nat} {sb:Int->Int->Prop} (H:HM h T sb) {A:FSt} (hA:Can T F A) {g:FSt} (hg:Can T F g) (hT:0<T) (hF:F<=300) {p:List Int} (hπ:∀x∈p,0<=x/\x<(F:Int)) (hn:A.az.length+(p.length+g.az.length)<=1000000)
include H hA hg hT hF hπ hn
theorem at_same:(∃f,f542 h A p g=some (f,true)/\f536 h A p g=some (f,true)/\Zq T F sb A (Ct p g) f)\/
  (f542 h A p g=some (⟨[]⟩,false)/\f536 h A p g=some (⟨[]⟩,false)/\∀C,Can T F C->Le sb A C->Le sb (Ct p g) C->False):=by
 have z:=to_ok hg af af;have B:=Xy hT af hπ hg z;have D:∀x∈g.az,x.cu.length<=1000000:=λx N=>(hg.small af af x N).1
 have O:=c426g (p:=p) (f:=g) af af D;have P:=c430g (p:=p) (f:=g) af af D;have G:A.az.length+(Ct p g).az.length<=1000000:=by rw[Fy];exact hn
 have I:∀f b,f433 h A (Ct p g)=some (f,b)->f542 h A p g=some (f,b):=λf b e=>e542 (by rw[O,ak,e];rfl)
 have K:∀f b,f440 h A (Ct p g)=some (f,b)->f536 h A p g=some (f,b):=λf b e=>e536 (by rw[P,ak,e];rfl)
 rcases c433 H hA B af G with⟨f,e1,l⟩|⟨e1,l⟩<;>rcases c440 H hA B hF G with⟨L,w,q⟩|⟨w,q⟩
 .have:=Zq.uniq H.to hA B l q;subst this;exact .inl ⟨f,I _ _ e1,K _ _ w,l⟩
 .exact(q f l.can l.l l.r).elim
 .exact(l L q.can q.l q.r).elim
 .exact .inr ⟨I _ _ e1,K _ _ w,l⟩
end
