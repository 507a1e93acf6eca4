/- Build. -/
import Derived.Test.YthphfjcnkinkpaaGreatDoorClUd
set_option linter.all false
open Go.IntKind (wrap)
open List (length)
namespace Go.Proofs.YthphfjcnkinkpaaGreatDoor.cl.pf
open Go Go.AM
def Y7 (op:Int):f545 op=some (op==1||op==2||op==3):=by grind[e545]
structure Kd (d:bI):Prop where
 leaf:d.Op=1\/d.Op=2\/d.Op=3->d.Kids.length=0
 one:d.Op=5->d.Kids.length=1
 two:d.Op=7->2<=d.Kids.length
 an:d.Op=4->2<=d.Kids.length
def h554 {d:bI} (z:d.Kids.length<=1073741824):∀(xs:List bI) (i:Nat),d.Kids.drop i=xs->∃b,CF d.Kids.length i d=some b/\(b=true->2<=d.Kids.length):=by intro xs;induction xs with
 |nil=>intro i l;exact⟨_,O9 (by rw[aW l,aA]),λh=>(by
   have h:(d.Kids.length:Int)>=2:=by simpa using h
   omega)⟩
 |cons x xs B=>
  intro i l;obtain⟨b,e,w⟩:=B (i+1) (aH l);by_cases q:x.Op=4
  .exact⟨false,O9 (by rw[aP l,ak,aJ l,cond_pos (by rw[q];rfl)]),λh=>by cases h⟩
  .exact⟨b,O9 (by rw[aP l,ak,aJ l,cond_neg (by simpa using q),aN l z];exact e),w⟩
def c554 {d:bI} (K:d.Kids.length<=1073741824):∃b,f554 d=some b/\(b=true->Kd d):=by
 by_cases l:d.Op=1
 .refine⟨_,e554 (by rw[cond_pos (by rw[l];rfl),cond_pos (by rw[l];rfl)]),λh=> ?_⟩;have h:(d.Kids.length:Int)=0:=by simpa using h
  exact⟨λ_=>by omega,λh=>by omega,λh=>by omega,λh=>by omega⟩
 by_cases q:d.Op=2
 .refine⟨_,e554 (by rw[cond_neg (by simpa using l),cond_pos (by rw[q];rfl),cond_pos (by rw[q];rfl)]),λh=> ?_⟩;have h:(d.Kids.length:Int)=0:=by simpa using h
  exact⟨λ_=>by omega,λh=>by omega,λh=>by omega,λh=>by omega⟩
 by_cases w:d.Op=3
 .refine⟨_,e554 (by rw[cond_neg (by simpa using l),cond_neg (by simpa using q),cond_pos (by rw[w];rfl)]),λh=> ?_⟩;have h:(d.Kids.length:Int)=0:=by simpa using h
  exact⟨λ_=>by omega,λh=>by omega,λh=>by omega,λh=>by omega⟩
 by_cases z:d.Op=5
 .refine⟨_,e554 (by rw[cond_neg (by simpa using l),cond_neg (by simpa using q),cond_neg (by simpa using w),cond_pos (by rw[z];rfl)]),λh=> ?_⟩;have h:(d.Kids.length:Int)=1:=by simpa using h
  exact⟨λh=>by omega,λ_=>by omega,λh=>by omega,λh=>by omega⟩
 by_cases B:d.Op=7
 .refine⟨_,e554 (by rw[cond_neg (by simpa using l),cond_neg (by simpa using q),cond_neg (by simpa using w),cond_neg (by simpa using z),cond_pos (by rw[B];rfl)]),λh=> ?_⟩;have h:(d.Kids.length:Int)>=2:=by simpa using h
  exact⟨λh=>by omega,λh=>by omega,λ_=>by omega,λh=>by omega⟩
 by_cases D:d.Op=4
 .obtain⟨b,e,G⟩:=h554 K d.Kids 0 rfl;exact⟨b,e554 (by rw[cond_neg (by simpa using l),cond_neg (by simpa using q),cond_neg (by simpa using w),cond_neg (by simpa using z),cond_neg (by simpa using B),cond_pos (by rw[D];rfl)];exact e),λI=>⟨λh=>by omega,λh=>by omega,λh=>by omega,λ_=>G I⟩⟩
 .exact⟨true,e554 (by rw[cond_neg (by simpa using l),cond_neg (by simpa using q),cond_neg (by simpa using w),cond_neg (by simpa using z),cond_neg (by simpa using B),cond_neg (by simpa using D)]),λ_=>⟨λh=>by omega,λh=>by omega,λh=>by omega,λh=>by omega⟩⟩
def h538 {d:bI} (w:d.Kids.length<=1073741824) (z:d.Path.length<=1073741824):∀(xs:List (List UInt8)) (i:Nat),d.Path.drop i=xs->∃b,LJ i d=some b/\(b=true->Kd d):=by intro xs;induction xs with
 |nil=>intro i l;obtain⟨b,e,h⟩:=c554 w;exact⟨b,VT (by rw[aW l,aA,e,aj]),h⟩
 |cons x xs B=>intro i l;obtain⟨b,e,h⟩:=B _ (aH l);cases q:vX x with
  |false=>exact⟨_,VT (by rw[aP l,ak,aJ l,c372,q,aj,fS,ak]),λh=>by cases h⟩
  |true=>exact⟨b,VT (by rw[aP l,ak,aJ l,c372,q,aj,dS,aA,aN l z];exact e),h⟩
def pth {d:bI} (h:(!((d.Op==5)==(decide ((length d.Path:Int)>0))))=false) (q:d.Op≠5):d.Path=[]:=by rw[show(d.Op==5)=false by simpa using q] at h;cases w:d.Path with
 |nil=>rfl
 |cons x l=>rw[w,show decide ((length (x::l):Int)>0)=true from qb (by rw[bD];omega)] at h;cases h
def c538 {d:bI} (D:d.Kids.length<=1073741824) (G:d.Path.length<=1073741824):∃b,f538 d=some b/\(b=true->Kd d/\(d.Op≠5->d.Path=[])):=by obtain⟨b,e,h⟩:=h538 D G d.Path 0 rfl;cases q: !((d.Op==1||d.Op==2||d.Op==3)==isName d.Name) with
 |true=>exact⟨false,e538 (by rw[Y7,aj,Jw,aj,q,ak]),λh=>by cases h⟩
 |false=>cases w:(d.Op==1||d.Op==2||d.Op==3) with
  |false=>cases z: !(d.Name==([]:List UInt8)) with
   |true=>exact⟨false,e538 (by rw[Y7,aj,Jw,aj,q,aA,aj,w,fS,ak,z,ak]),λh=>by cases h⟩
   |false=>cases l: !((d.Op==5)==(decide ((length d.Path:Int)>0))) with
    |true=>exact⟨false,e538 (by rw[Y7,aj,Jw,aj,q,aA,aj,w,fS,ak,z,aA,l,ak]),λh=>by cases h⟩
    |false=>exact⟨b,e538 (by rw[Y7,aj,Jw,aj,q,aA,aj,w,fS,ak,z,aA,l,aA];exact e),λB=>⟨h B,pth l⟩⟩
  |true=>cases l: !((d.Op==5)==(decide ((length d.Path:Int)>0))) with
   |true=>exact⟨false,e538 (by rw[Y7,aj,Jw,aj,q,aA,aj,w,dS,aA,l,ak]),λh=>by cases h⟩
   |false=>exact⟨b,e538 (by rw[Y7,aj,Jw,aj,q,aA,aj,w,dS,aA,l,aA];exact e),λB=>⟨h B,pth l⟩⟩
structure Fm (d:bI):Prop where
 op:1<=d.Op/\d.Op<=8
 kd:Kd d
 pl:d.Path.length<=64
 kl:d.Kids.length<=256
 ph:d.Op≠5->d.Path=[]
def h525 {d:bI} {inner:Nat} (L:d.Kids.length<=256) (q:∀k∈d.Kids,∃r,f525 k inner=some r/\(r=0->iW Fm k)):∀(xs:List bI) (i:Nat),d.Kids.drop i=xs->∃r,Aj inner i d=some r/\(r=0->∀k∈xs,iW Fm k):=by intro xs;induction xs with
 |nil=>intro i l;exact⟨0,O6 (by rw[aW l,aA]),λ_ k q=>by cases q⟩
 |cons x xs B=>
  intro i l;have z :=by
   have:x∈d.Kids.drop i:=by rw[l];exact gz ..
   exact je this
  obtain⟨r,e,h⟩:=q x z;obtain⟨D,G,K⟩:=B _ (aH l);by_cases w:r=0
  .refine⟨D,O6 (by rw[aP l,ak,aJ l,e,aj,cond_neg (by simp_all),aN l af];omega),λI k q=> ?_⟩;grind
  .exact⟨r,O6 (by rw[aP l,ak,aJ l,e,aj,cond_pos (by simp_all)]),λh=>absurd h w⟩
def c525 (d:bI):∀level:Nat,level<=65->∃r,f525 d level=some r/\(r=0->iW Fm d):=by induction d using qC with
 |h d D=>
  intro level G;by_cases K:level>64
  .exact⟨7,e525 (by rw[cond_pos (by rw[bg];omega)]),λh=>by omega⟩
  by_cases L:d.Path.length>64
  .exact⟨7,e525 (by rw[cond_neg (by rw[aQ];omega),cond_pos (by rw[bg];omega)]),λh=>by omega⟩
  by_cases N:d.Kids.length>256
  .exact⟨7,e525 (by rw[cond_neg (by rw[aQ];omega),cond_neg (by rw[aQ];omega),cond_pos (by rw[bg];omega)]),λh=>by omega⟩
  by_cases O:d.Op<1
  .exact⟨14,e525 (by rw[cond_neg (by rw[aQ];omega),cond_neg (by rw[aQ];omega),cond_neg (by rw[aQ];omega),cond_pos (by rw[bg];omega)]),λh=>by omega⟩
  by_cases P:d.Op>8
  .exact⟨14,e525 (by rw[cond_neg (by rw[aQ];omega),cond_neg (by rw[aQ];omega),cond_neg (by rw[aQ];omega),cond_neg (by rw[aQ];omega),cond_pos (by rw[bg];omega)]),λh=>by omega⟩
  obtain⟨b,e,B⟩:=c538 (d:=d) af af
  have pre:∀r,(bif !b then some 1 else bif d.Op==4 then Aj level 0 d else Aj (wrap .i64 ((level:Int)+1)) 0 d)=some r->f525 d level=some r:=λr I=>e525 (by
   rw[cond_neg (by rw[aQ];omega),cond_neg (by rw[aQ];omega),cond_neg (by rw[aQ];omega),cond_neg (by rw[aQ];omega),cond_neg (by rw[aQ];omega),e,aj]
   exact I)
  cases b with
  |false=>exact⟨1,pre 1 (by rw[fS,ak]),λh=>by omega⟩
  |true=>
   have hF:Fm d:=⟨⟨af,af⟩,(B rfl).1,by omega,by omega,(B rfl).2⟩
   by_cases z:d.Op=4
   .obtain⟨r,l,h⟩:=h525 (inner:=level) af (λk w=>D k w level af) d.Kids 0 rfl;exact⟨r,pre r (by rw[dS,aA,cond_pos (by simpa using z)];exact l),λq=> .mk d hF (h q)⟩
   .obtain⟨r,l,h⟩:=h525 (inner:=level+1) af (λk w=>D k w (level+1) af) d.Kids 0 rfl;exact⟨r,pre r (by rw[dS,aA,cond_neg (by simpa using z),bM af];exact l),λq=> .mk d hF (h q)⟩
def c510 (d:bI):∃r,f510 d=some r/\(r=0->iW Fm d):=by obtain⟨r,e,h⟩:=c525 d 1 af;simp_all[e510]
structure LD (d:bI):Prop where
 cnt:jH d<=12
 lt:iW (Lt1 12) d
 fm:iW Fm d
 sh:iW (λd=>d.Path.length<=4) d
def c503 (d:bI):∃b,f503 d=some b/\(b=true->LD d):=by obtain⟨b,e,h⟩:=c509 (most:=12) af d;cases b with
 |false=>simp_all[e503]
 |true=>
  obtain⟨q,l⟩:=h rfl;obtain⟨r,G,w⟩:=c510 d;by_cases D:r=0
  .obtain⟨b,I,z⟩:=c511 d (l.imp λd h=>by have:=h.kl;omega);exact⟨b,e503 (by simp_all),λB=>⟨q,l,w D,z B⟩⟩
  simp_all[e503,cond_neg]
structure YV (x:Def):Prop where
 nm:isName x.Name=true
 st:LD x.gZ
 df:∀y∈x.fc,LD y
 dl:x.fc.length<=3
def h523 {x:Def} (I:x.fc.length<=3):∀(xs:List bI) (i:Nat),x.fc.drop i=xs->∃b,QZ i x=some b/\(b=true->∀y∈xs,LD y):=by intro xs;induction xs with
 |nil=>intro i l;exact⟨_,VQ (by rw[aW l,aA]),λ_ k q=>by cases q⟩
 |cons y xs z=>intro i l;obtain⟨b,e,h⟩:=c503 y;obtain⟨w,B,D⟩:=z _ (aH l);cases b with
  |false=>exact⟨_,VQ (by rw[aP l,ak,aJ l,e,aj,fS,ak]),λh=>by cases h⟩
  |true=>refine⟨w,VQ (by rw[aP l,ak,aJ l,e,aj,dS,aA,aN l af];omega),λG k q=> ?_⟩;grind
def c523 (x:Def):∃b,f523 x=some b/\(b=true->YV x):=by cases l:isName x.Name with
 |false=>simp_all[e523,Jw]
 |true=>
  by_cases D:x.fc.length>3
  .exact⟨_,e523 (by rw[Jw,l,aj,dS,aA,cond_pos (by grind)]),λh=>by cases h⟩
  obtain⟨b,e,q⟩:=c503 x.gZ;cases b with
  |false=>simp_all[e523,Jw]
  |true=>obtain⟨b,B,w⟩:=h523 (x:=x) af _ 0 rfl;exact⟨b,e523 (by rw[Jw,l,aj,dS,aA,cond_neg (by grind),e,aj,dS,aA];omega),λz=>⟨l,q rfl,w z,af⟩⟩
def h502 {l:List Def} (K:l.length<=4):∀(xs:List Def) (i:Nat),l.drop i=xs->∃b,QT l i=some b/\(b=true->∀y∈xs,YV y):=by intro xs;induction xs with
 |nil=>intro i q;exact⟨_,VM (by rw[aW q,aA]),λ_ k w=>by cases w⟩
 |cons y xs B=>intro i q;obtain⟨b,e,h⟩:=c523 y;obtain⟨z,D,G⟩:=B _ (aH q);cases b with
  |false=>exact⟨_,VM (by rw[aP q,ak,aJ q,e,aj,fS,ak]),λh=>by cases h⟩
  |true=>refine⟨z,VM (by rw[aP q,ak,aJ q,e,aj,dS,aA,aN q af];omega),λI k w=> ?_⟩;grind
def c502 (l:List Def):∃b,f502 l=some b/\(b=true->l.length<=4/\∀y∈l,YV y):=by
 by_cases h:l.length>4
 .exact⟨false,e502 (by grind),λh=>by cases h⟩
 obtain⟨b,e,q⟩:=h502 af l 0 rfl;exact⟨b,e502 (by grind),λw=>⟨af,q w⟩⟩
end Go.Proofs.YthphfjcnkinkpaaGreatDoor.cl.pf
namespace Go.Proofs.YthphfjcnkinkpaaGreatDoor.cl.pf
open Go Go.AM
def halfI {i j:Nat} (h:i+j<=2097152):wrap .i64 (Int.fdiv (wrap .u64 (wrap .i64 ((i:Int)+(j:Int)))) (2^ min (Int.toNat 1) (IntKind.bits .u64)))=(((i+j) / 2:Nat):Int):=by
 have e1:wrap .i64 ((i:Int)+(j:Int))=((i+j:Nat):Int):=by rw[oE af af];omega
 have l:wrap .u64 ((i+j:Nat):Int)=((i+j:Nat):Int):=xG af;have q:(2^ min (Int.toNat 1) (IntKind.bits .u64):Int)=2:=by rfl
 rw[e1,l,q,Int.fdiv_eq_ediv_of_nonneg _ af];rw[oE af af];omega
def Xh (a b:cn):decide (L8 a b<0)=Op.bytesLess a b:=by unfold L8;cases Op.bytesLess a b with
 |true=>rfl
 |false=>cases a==b<;>rfl
def cmpS_eq {a b:cn} (h:Op.bytesLess a b=false):(L8 a b==0)=(a==b):=by unfold L8;rw[h];cases a==b<;>rfl
def L2 (t:List Template):Prop:=t.Pairwise λa b=>Op.bytesLess a.Name b.Name=true
def L2.lt {t:List Template} (h:L2 t) {i j:Nat} {x y:Template} (z:t[i]? =some x) (B:t[j]? =some y) (l:i<j):Op.bytesLess x.Name y.Name=true:=by obtain⟨q,rfl⟩:=bR.1 z;obtain⟨w,rfl⟩:=bR.1 B;exact nQ.1 h i j q w l
def h540 {t:List Template} (I:L2 t) (S:t.length<=1000) (s:cn):∀(n i j:Nat),j-i=n->i<=j->j<=t.length->(∀k x,k<i->t[k]? =some x->Op.bytesLess x.Name s=true)->(∀k x,j<=k->t[k]? =some x->Op.bytesLess x.Name s=false)->
  ∃(k:Nat) (b:Bool),LK t s t.length i j=some ((k:Int),b)/\(b=true->∃x,t[k]? =some x/\x.Name=s)/\(b=false->∀x∈t,x.Name≠s):=by
 intro n;induction n using Nat.strongRecOn with
 |_ n N=>
  intro i j hn P Q z w;by_cases R:i<j
  .have K:(i+j) / 2<t.length:=af;have hg:=aM K;cases e:Op.bytesLess t[(i+j) / 2].Name s with
   |true=>
    obtain⟨k,b,D,G⟩:=N (j-((i+j) / 2+1)) af ((i+j) / 2+1) j rfl af Q (λk x q l=>by
     by_cases h:k=(i+j) / 2
     .subst h;rw[hg] at l;cases l;exact e
     .exact vK _ _ _ (I.lt l hg af) e) w
    refine⟨k,b,O7 ?_,G⟩;rw[cond_pos (by rw[bg];omega),bT (by decide),halfI af,bU K,c556,aj,Xh,e,ak,bM af];exact D
   |false=>
    obtain⟨k,b,D,G⟩:=N ((i+j) / 2-i) af i ((i+j) / 2) rfl af af z (λk x q l=>by
     by_cases h:k=(i+j) / 2
     .subst h;rw[hg] at l;cases l;exact e
     .cases O:Op.bytesLess x.Name s with
      |false=>rfl
      |true=>rw[vK _ _ _ (I.lt hg l af) O] at e;cases e)
    refine⟨k,b,O7 ?_,G⟩;rw[cond_pos (by rw[bg];omega),bT (by decide),halfI af,bU K,c556,aj,Xh,e,aA];exact D
  .have e:i=j:=af;subst e;by_cases L:i<t.length
   .have hg:=aM L;refine⟨i,t[i].Name==s,O7 ?_,λB=>⟨_,hg,by simpa using B⟩,λB x l e=> ?_⟩
    .rw[cond_neg (by rw[aQ];omega),cond_pos (by rw[bg];omega),bU L,c556,aj,cmpS_eq (w i _ (aZ _) hg)]
    .obtain⟨k,q⟩:=iG.1 l;rcases zk k i with h|h|h
     .exact Ju (z k x h q) e
     .subst h;rw[hg] at q;cases q;simp[e] at B
     .have:=I.lt hg q h;rw[e,w i _ (aZ _) hg] at this;cases this
   .refine⟨i,false,O7 ?_,λB=>(by cases B),λ_ x l e=> ?_⟩
    .rw[cond_neg (by rw[aQ];omega),cond_neg (by rw[aQ];omega)]
    .obtain⟨k,q⟩:=iG.1 l;exact Ju (z k x (by have:=(bR.1 q).1;omega) q) e
abbrev tpos (t:List Template) (s:cn):Int:=sU (λx=>x.Name==s) t 0
def tfind {t:List Template} (B:L2 t) (Q:t.length<=1000) (s:cn):∃(k:Nat) (b:Bool),(∀K I A D,Sl s K I t A D=some (((k:Int),b),A,D))/\
  ((b=true/\tpos t s=k/\∃x,t[k]? =some x/\x.Name=s)\/(b=false/\tpos t s= -1)):=by
 obtain⟨k,b,O,L,P⟩:=h540 B Q s t.length 0 t.length af af (aZ _) (λk x N=>absurd N af) (λk x N R=>by have:=(bR.1 R).1;omega);refine⟨k,b,λK I A D=>e528a (by rw[e540 O,aj]),?_⟩;rcases tu (λx:Template=>x.Name==s) t 0 with⟨G,w⟩|⟨j,x,G,w,z,S⟩
 .cases b with
  |true=>obtain⟨x,l,q⟩:=L rfl;have:=w x (aR l);simp[q] at this
  |false=>exact .inr ⟨rfl,G⟩
 .have z:x.Name=s:=by simpa using z
  cases b with
  |false=>exact(P rfl x (aR w) z).elim
  |true=>
   obtain⟨y,l,q⟩:=L rfl;refine .inl ⟨rfl,?_,y,l,q⟩
   have:j=k:=by
    rcases zk j k with h|h|h
    .exact(Ju (B.lt w l h) (by rw[z,q])).elim
    .exact h
    .exact(Ju (B.lt l w h) (by rw[z,q])).elim
   exact G.trans (by rw[this,eO])
structure HZ (t u:List Template):Prop where
 wT:L2 u
 len:u.length<=1000
 same:∀s,(tpos t s= -1/\tpos u s= -1)\/∃(i j:Nat) (x:Template),tpos t s=i/\t[i]? =some x/\tpos u s=j/\u[j]? =some x
theorem HZ.refl {t:List Template} (h:L2 t) (w:t.length<=1000):HZ t t:=⟨h,w,λs=>by
 rcases tu (λx:Template=>x.Name==s) t 0 with⟨l,_⟩|⟨j,x,l,q,_⟩
 .exact .inl ⟨l,l⟩
 .rw[eO] at l
  exact .inr ⟨j,j,x,l,q,l,q⟩⟩
theorem HZ.find {t u:List Template} (h:HZ t u) (s:cn):∃(k:Nat) (b:Bool),(∀D B A w,Sl s D B u A w=some (((k:Int),b),A,w))/\
  ((b=true/\∃(i:Nat) (x:Template),tpos t s=i/\t[i]? =some x/\u[k]? =some x)\/(b=false/\tpos t s= -1)):=by
 obtain⟨k,b,G,I⟩:=tfind h.wT h.len s;refine⟨k,b,G,?_⟩;rcases h.same s with⟨l,z⟩|⟨i,j,x,l,z,N,K⟩<;>rcases I with⟨q,L,_⟩|⟨q,L⟩
 .omega
 .exact .inr ⟨q,l⟩
 .have:j=k:=af
  exact .inl ⟨q,i,x,l,z,this▸K⟩
 .omega
abbrev jC (h:aK) (s:cn):Int:=sU (λx=>x.Name==s) h.Types 0
abbrev fC (h:aK) (s:cn):Int:=sU (λx=>x.Name==s) h.bC 0
def IN {w:Type} (p:w->Bool) (l:List w):sU p l 0<(l.length:Int)/\-1<=sU p l 0:=by
 rcases tu p l 0 with⟨q,_⟩|⟨j,x,q,z,_⟩
 .rw[q];omega
 .have:=(bR.1 z).1;rw[q];omega
def h521 {l:Int}:∀(n:Nat) (p:List Int),p.length+n<=100000->QY l (n:Int) p=some (p++List.replicate n l):=by intro n;induction n with
 |zero=>intro p _;refine ac9 ?_;rw[cond_neg (by rfl)];simp
 |succ n q=>intro p w;refine ac9 ?_;rw[cond_pos (by rw[bg];omega),cC _ af ai af,oF af,q _ aI,ef,List.singleton_append,<-mb]
def N7 {l:Int} {n:Nat} {p:List Int} (q:p.length+n<=100000):f521 p l (n:Int)=some (p++List.replicate n l):=by refine e521 ?_;rw[cC _ ai af af,dQ];exact h521 n p q
def h534 {h:aK} (D:h.bC.length<=1000) {t:List Template} {A:List Node} {z:List (cn×List Int)} {q:List cn} (hn:q.length<=1000):∀(xs:List cn) (i:Nat) (p:List Int),q.drop i=xs->p.length+xs.length<=100000->
  I8 q q.length i p h.Types h.bC t A z=some (p++xs.map (fC h),A,z):=by
 intro xs;induction xs with
 |nil=>intro i p l w;refine X4 ?_;rw[aW l,aA];simp
 |cons x xs B=>intro i p l w;simp only[bD] at w;refine X4 ?_;rw[aP l,ak,aJ l,show aK.mk h.Types h.bC=h from rfl,c363 _ _ af,aj,cC _ af ai af,aN l af,B (i+1) _ (aH l) aI];simp
def aaT {h:aK} (w:h.bC.length<=1000) {t:List Template} {A:List Node} {q:List (cn×List Int)} {l:List cn} (hn:l.length<=1000) {p:List Int} (z:p.length<=1000):Bz p l h.Types h.bC t A q=some (p++l.map (fC h),A,q):=by refine e534a ?_;rw[c460 af,aj];exact h534 w hn l 0 p rfl af
end Go.Proofs.YthphfjcnkinkpaaGreatDoor.cl.pf
namespace Go.Proofs.YthphfjcnkinkpaaGreatDoor.cl.pf
open Go Go.AM
abbrev rG:cn:=[108,105,115,116]
abbrev xx:cn:=[99,111,110,115]
abbrev ua:cn:=[110,117,108,108]
abbrev qX:cn:=[100,108,105,115,116]
abbrev mY:cn:=[70,73,82,83,84]
abbrev oz:cn:=[82,69,83,84]
abbrev AP:cn:=[76,73,83,84]
abbrev qv:cn:=[76,65,83,84]
structure LT (h:aK):Prop where
 li:0<=jC h rG
 co:0<=jC h xx
 nu:0<=jC h ua
 dl:0<=jC h qX
 fi:0<=fC h mY
 re:0<=fC h oz
 he:0<=fC h AP
 la:0<=fC h qv
 ok:f516 h=some true
 w:f549 h=some (⟨h,jC h rG,jC h xx,jC h ua,jC h qX,fC h mY,fC h oz,fC h AP,fC h qv⟩,0)
def X9 (a b:Int):decide ((if a<b then a else b)<0)=(decide (a<0)||decide (b<0)):=by
 by_cases h:a<b
 .rw[aB h];by_cases l:a<0
  .simp[l]
  .have:¬b<0:=af
   simp[l,this]
 .rw[az h];by_cases l:b<0
  .simp[l]
  .have:¬a<0:=af
   simp[l,this]
section
variable {h:aK} {T F:Nat} {sb:Int->Int->Prop} {bQ:Int->Int} {val:Int->Int->Int} (H:HX h T F sb bQ val) (hT:T<=1000) (hF:F<=300)
include H hT hF
theorem c529 {nu:Int} (hn:0<=nu/\nu<(T:Int)) (w:world) (O:w.null=nu):∃L,(Option.bind (f550 1) λq=>bif(!q) then(some ((FSt.mk ([]:List Node)),7)) else(Option.bind (f551 w) λz=>Option.bind (f552 w z) λB=>Option.bind (f437 B.1) λl=>some (l.1,l.2)))=some (L,(0:Int)):=by
 have D:f550 1=some true:=e550 (k550_2 (by rw[cond_neg (by rfl)]));have G:f551 w=some nu:=e551 (by rw[O]);have I:f552 w nu=some (⟨[⟨nu,[]⟩]⟩,0):=by refine e552 (k552_3 ?_);rw[cond_neg (by rfl),cC _ ai ai af];rfl
 have N:Can T F ⟨[⟨nu,[]⟩]⟩:=vj (T:=T) (F:=F) (π:=[]) (t:=nu) af ai hn;have K:=c437 N ai af ai;refine⟨⟨[⟨nu,[]⟩]⟩,?_⟩;rw[D,aj,cond_neg (by rfl),G,aj,I,aj,K,aj]
theorem c516:∃b,f516 h=some b/\(b=true->LT h)/\∃fs e,f529 h=some (fs,e)/\(e !=0)= !b:=by
 have hfl:=H.hv.fl;have SN:=H.tl;have N:∀s,f352 h s=some (jC h s):=λs=>Y6 s h af
 have O:∀s,f364 h s=some (jC h s):=λs=>aaP s h af
 have P:∀s,f363 h s=some (fC h s):=λs=>c363 s h af
 have Q:∀s,f365 h s=some (fC h s):=λs=>yh s h af
 have tl:∀s,jC h s<(T:Int):=λs=>by
  have:jC h s<(h.Types.length:Int):=(IN _ _).1
  omega
 have l1:=tl rG;have l2:=tl xx;have l3:=tl ua;have l4:=tl qX;by_cases D:0<=jC h rG/\0<=jC h xx/\0<=jC h ua/\0<=jC h qX/\0<=fC h mY/\0<=fC h oz/\0<=fC h AP/\0<=fC h qv
 .obtain⟨z,R,B,U,V,h6,h7,h8⟩:=D;obtain⟨w,s1,s2,_⟩:=H.ss _ _ z l1 R l2;obtain⟨S,s3,s4,_⟩:=H.ss _ _ z l1 B l3;have l:∀{x:Int},0<=x->decide (x<0)=false:=λhx=>by rw[aQ];omega
  have K:f516 h=some (w&&S):=e516 (by rw[O,aj,O,aj,O,aj,l z,aA,l R,aA,l B,aA,O,aj,l U,aA,Q,aj,l V,aA,Q,aj,l h6,aA,Q,aj,l h7,aA,Q,aj,l h8,aA,s2,aj];cases w with
   |false=>rw[aA];rfl
   |true=>rw[ak,s4,aj];rfl)
  have o:∀r,(bif(!w) then(some ((world.mk (aK.mk ([]:List fM) ([]:List cW)) 0 0 0 0 0 0 0 0),(5:Int))) else(Option.bind (f339 h (jC h rG) (jC h ua)) λy219=>bif(!y219) then(some ((world.mk (aK.mk ([]:List fM) ([]:List cW)) 0 0 0 0 0 0 0 0),5)) else(some ((world.mk h (jC h rG) (jC h xx) (jC h ua) (jC h qX) (fC h mY) (fC h oz) (fC h AP) (fC h qv)),0))))=some r->f549 h=some r:=λr hr=>by refine e549 ?_;rw[N,aj,N,aj,N,aj,N,aj,P,aj,P,aj,P,aj,P,aj];simp only[X9,l z,l R,l B,l U,l V,l h6,l h7,l h8,rN,aA];rw[s1,aj];exact hr
  have L:(w&&S)=true->f549 h=some (⟨h,jC h rG,jC h xx,jC h ua,jC h qX,fC h mY,fC h oz,fC h AP,fC h qv⟩,0):=λG=>by
   have e1:w=true:=by cases w<;>simp_all
   have e2:S=true:=by cases S<;>simp_all
   exact o _ (by rw[e1,cond_neg (by rfl),s3,aj,e2,cond_neg (by rfl)])
  refine⟨w&&S,K,λG=>⟨z,R,B,U,V,h6,h7,h8,by rw[K,G],L G⟩,?_⟩
  .cases G:w&&S with
   |true=>obtain⟨fs,g⟩:=c529 H hT hF ⟨B,l3⟩ (world.mk h (jC h rG) (jC h xx) (jC h ua) (jC h qX) (fC h mY) (fC h oz) (fC h AP) (fC h qv)) rfl;refine⟨fs,0,e529 ?_,rfl⟩;have q:=L G;rw[e541 (r:=(fs,0)) (by rw[q,aj,cond_neg (by rfl)];exact g),aj]
   |false=>
    refine⟨⟨[]⟩,5,e529 ?_,rfl⟩
    have q:f549 h=some (_,5):=o (world.mk (aK.mk ([]:List fM) ([]:List cW)) 0 0 0 0 0 0 0 0,5) (by cases w with
     |false=>rw[cond_pos (by rfl)]
     |true=>cases S with
      |true=>cases G
      |false=>rw[cond_neg (by rfl),s3,aj,cond_pos (by rfl)])
    rw[e541 (r:=(⟨[]⟩,5)) (by rw[q,aj,cond_pos (by rfl)]),aj]
 .have l:∀{x:Int},¬x<0->decide (x<0)=false:=λhx=>by rw[aQ];exact hx
  have I:∀{x:Int},x<0->decide (x<0)=true:=λhx=>qb hx
  refine⟨false,e516 ?_,λG=>(by cases G),⟨[]⟩,5,e529 ?_,rfl⟩
  .rw[O,aj,O,aj,O,aj];by_cases z:jC h rG<0
   .rw[I z,ak]
   rw[l z,aA];by_cases R:jC h xx<0
   .rw[I R,ak]
   rw[l R,aA];by_cases B:jC h ua<0
   .rw[I B,ak]
   rw[l B,aA,O,aj];by_cases U:jC h qX<0
   .rw[I U,ak]
   rw[l U,aA,Q,aj];by_cases V:fC h mY<0
   .rw[I V,ak]
   rw[l V,aA,Q,aj];by_cases h6:fC h oz<0
   .rw[I h6,ak]
   rw[l h6,aA,Q,aj];by_cases h7:fC h AP<0
   .rw[I h7,ak]
   rw[l h7,aA,Q,aj,I (x:=fC h qv) af,ak]
  .have q:f549 h=some (world.mk (aK.mk ([]:List fM) ([]:List cW)) 0 0 0 0 0 0 0 0,5):=by
    refine e549 ?_;rw[N,aj,N,aj,N,aj,N,aj,P,aj,P,aj,P,aj,P,aj];simp only[X9];rw[cond_pos];simp only[gE,p6];unfold rG xx ua qX mY oz AP qv at D;omega
   rw[e541 (r:=(⟨[]⟩,5)) (by rw[q,aj,cond_pos (by rfl)]),aj]
end
end Go.Proofs.YthphfjcnkinkpaaGreatDoor.cl.pf
namespace Go.Proofs.YthphfjcnkinkpaaGreatDoor.cl.pf
open Go Go.AM
structure Kn (h:aK) (t:List Template) (d:bI):Prop where
 ty:d.Op=1->0<=jC h d.Name
 tm:d.Op=2->∃(i:Nat) (x:Template),tpos t d.Name=(i:Int)/\t[i]? =some x
 ls:6<=d.Op->LT h
 pt:3<=d.Op->∀s∈d.Path,0<=fC h s
section
variable {h:aK} {T F:Nat} {sb:Int->Int->Prop} {bQ:Int->Int} {val:Int->Int->Int} (H:HX h T F sb bQ val) (hT:T<=1000) (hF:F<=300) {t u:List Template} (ht:t.length<=1000)
include H hT hF ht
theorem h507p {d:bI} (S:d.Path.length<=64):∀(xs:List cn) (i:Nat),d.Path.drop i=xs->
  ((∃s∈xs,fC h s<0)/\oP t i h d=some false/\∀A l,mC d.Path d.Path.length i d h.Types h.bC u A l=some (false,A,l))\/
  ((∀s∈xs,0<=fC h s)/\(∀r,FC t 0 h d=some r->oP t i h d=some r)/\∀A l r,(eM (Xn d.Kids h.Types h.bC u A l) λI D G=>some ((!I),D,G))=some r->mC d.Path d.Path.length i d h.Types h.bC u A l=some r):=by
 have Q:=H.hv.fl;intro xs;induction xs with
 |nil=>
  intro i q;refine .inr ⟨ai,λr w=>O2 ?_,λA l r w=>Kf ?_⟩
  .rw[aW q,aA];exact w
  .rw[aW q,aA];exact w
 |cons x xs R=>
  intro i q;by_cases B:fC h x<0
  .refine .inl ⟨⟨x,by simp,B⟩,O2 ?_,λA l=>Kf ?_⟩
   .rw[aP q,ak,aJ q,yh _ _ af,aj,cond_pos (by rw[bg];exact B)]
   .rw[aP q,ak,aJ q,show aK.mk h.Types h.bC=h from rfl,c363 _ _ af,aj,cond_pos (by rw[bg];exact B)]
  .have e1:∀r,oP t ((i+1:Nat):Int) h d=some r->oP t i h d=some r:=λr w=>by
    refine O2 ?_;rw[aP q,ak,aJ q,yh _ _ af,aj,cond_neg (by rw[aQ];exact B),aN q af];exact w
   have O:∀A l r,mC d.Path d.Path.length ((i+1:Nat):Int) d h.Types h.bC u A l=some r->mC d.Path d.Path.length i d h.Types h.bC u A l=some r:=λA l r w=>by refine Kf ?_;rw[aP q,ak,aJ q,show aK.mk h.Types h.bC=h from rfl,c363 _ _ af,aj,cond_neg (by rw[aQ];exact B),aN q af];exact w
   rcases R (i+1) (aH q) with⟨⟨s,z,N⟩,K,L⟩|⟨P,K,L⟩
   .exact .inl ⟨⟨s,by simp[z],N⟩,e1 _ K,λA l=>O _ _ _ (L A l)⟩
   .exact .inr ⟨λs z=>by
     rcases aS.1 z with rfl|z
     .omega
     .exact P s z,λr w=>e1 r (K r w),λA l r w=>O A l r (L A l r w)⟩
theorem h507k {d:bI} (U:d.Kids.length<=256) (G:∀k∈d.Kids,∃b,f507 h t k=some b/\(HZ t u->∀A w,MS k h.Types h.bC u A w=some (b,A,w))/\(b=true↔iW (Kn h t) k)):∀(xs:List bI) (i:Nat),d.Kids.drop i=xs->
  ∃b,FC t i h d=some b/\(HZ t u->∀A w,∃v,I9 d.Kids d.Kids.length i h.Types h.bC u A w=some (v,A,w)/\decide (v>=0)= !b)/\(b=true↔∀k∈xs,iW (Kn h t) k):=by
 intro xs;induction xs with
 |nil=>
  intro i l;refine⟨true,O3 ?_,λ_ A w=>⟨-1,O8 ?_,rfl⟩,ai⟩
  .rw[aW l,aA]
  .rw[aW l,aA]
 |cons x xs O=>
  intro i l;obtain⟨b,I,N,K⟩:=G x (aR (bV l));have q:HZ t u->∀A w,abo x h.Types h.bC u A w=some (!b,A,w):=λz A w=>e560a (by rw[N z,bG])
  cases b with
  |false=>
   refine⟨false,O3 ?_,λz A w=>⟨(i:Int),O8 ?_,ai⟩,λD=>(by cases D),λz=>K.2 (z x ai)⟩
   .rw[aP l,ak,aJ l,I,aj,cond_pos (by rfl)]
   .rw[aP l,ak,aJ l,q z,bG,cond_pos (by rfl)]
  |true=>
   obtain⟨b,P,Q,L⟩:=O (i+1) (aH l);refine⟨b,O3 ?_,λz A w=> ?_,λD k B=> ?_,λz=>L.2 λk B=>z k (by simp[B])⟩
   .rw[aP l,ak,aJ l,I,aj,cond_neg (by rfl),aN l af];exact P
   .obtain⟨v,R,S⟩:=Q z A w;refine⟨v,O8 ?_,S⟩;rw[aP l,ak,aJ l,q z,bG,cond_neg (by rfl),aN l af];exact R
   .rcases aS.1 B with rfl|B
    .exact K.1 rfl
    .exact L.1 D k B
theorem c507 (d:bI):iW Fm d->∃b,f507 h t d=some b/\(HZ t u->∀A l,MS d h.Types h.bC u A l=some (b,A,l))/\(b=true↔iW (Kn h t) d):=by
 refine qC (P:=λd=>iW Fm d->∃b,f507 h t d=some b/\(HZ t u->∀A l,MS d h.Types h.bC u A l=some (b,A,l))/\(b=true↔iW (Kn h t) d)) (λd ih hd=> ?_) d;have hfl:=H.hv.fl;have SN:=H.tl;have fm:=hd.here;have hp:=fm.pl;have O:=fm.kl;have nk:d.Op=1\/d.Op=2\/d.Op=3->d.Kids=[]:=λh=>kG.1 (fm.kd.leaf h)
 have U:3<=d.Op->(6<=d.Op->LT h)->∃b,oP t 0 h d=some b/\(HZ t u->∀A l,mC d.Path d.Path.length 0 d h.Types h.bC u A l=some (b,A,l))/\(b=true↔iW (Kn h t) d):=λho hls=>by
  obtain⟨b,I,K,z⟩:=h507k H hT hF ht (d:=d) O (λk V=>ih k V (hd.kids k V)) d.Kids 0 rfl;rcases h507p H hT hF ht hp d.Path 0 rfl with⟨⟨s,w0,w3⟩,w1,w2⟩|⟨w0,w1,w2⟩
  .exact⟨false,w1,λ_=>w2,λL=>(by cases L),λw=>by have:=w.here.pt ho s w0;omega⟩
  .refine⟨b,w1 _ I,λw A l=>w2 A l _ ?_,λL=>⟨_,⟨λe=>by omega,λe=>by omega,hls,λ_=>w0⟩,z.1 L⟩,λw=>z.2 w.kids⟩;obtain⟨v,v1,v2⟩:=K w A l;have q:Xn d.Kids h.Types h.bC u A l=some (!b,A,l):=e533c (by rw[e543c v1,bG,v2]);rw[q,bG,Bool.not_not]
 have G:6<=d.Op->∃b,(Option.bind (f516 h) λy205=>bif(!y205) then(some false) else(oP t 0 h d))=some b/\(HZ t u->∀A l,(Option.bind (f529 h) λy208=>bif(y208.2 !=0) then(some (false,A,l)) else(mC d.Path d.Path.length 0 d h.Types h.bC u A l))=some (b,A,l))/\(b=true↔iW (Kn h t) d):=λho=>by obtain⟨bl,j1,j2,fs,e,j3,j4⟩:=c516 H hT hF;cases bl with
  |false=>exact⟨false,by rw[j1,aj,cond_pos (by rfl)],λ_ A l=>by rw[j3,aj,j4,cond_pos (by rfl)],λL=>(by cases L),λw=>by have:=(w.here.ls ho).ok;rw[j1] at this;cases this⟩
  |true=>obtain⟨b,I,K,z⟩:=U af (λ_=>j2 rfl);exact⟨b,by rw[j1,aj,cond_neg (by rfl)];exact I,λw A l=>by rw[j3,aj,j4,cond_neg (by rfl)];exact K w A l,z⟩
 have ho:=fm.op;have hh:aK.mk h.Types h.bC=h:=rfl;by_cases S:d.Op=1
 .refine⟨decide (jC h d.Name>=0),e507 ?_,λ_ A l=>MQ ?_,λL=>⟨_,⟨λ_=>by simpa using L,λe=>by omega,λe=>by omega,λe=>by omega⟩,λk O=>by rw[nk (.inl S)] at O;cases O⟩,λw=>qb (w.here.ty S)⟩
  .rw[cond_pos (by rw[S];rfl),aaP _ _ af,aj]
  .rw[cond_pos (by rw[S];rfl),hh,Y6 _ _ af,aj]
 by_cases P:d.Op=2
 .have hc:=UZ d.Name t af;have Q:=tu (λx:Template=>x.Name==d.Name) t 0
  refine⟨decide (tpos t d.Name>=0),e507 ?_,λw A l=>MQ ?_,λL=>⟨_,⟨λe=>by omega,λ_=> ?_,λe=>by omega,λe=>by omega⟩,λk O=>by rw[nk (.inr (.inl P))] at O;cases O⟩,λw=>by
   obtain⟨i,x,w1,_⟩:=w.here.tm P
   rw[bg];omega⟩
  .rw[cond_neg (by rw[P];rfl),cond_pos (by rw[P];rfl),hc,aj]
  .obtain⟨k,b,R,q2⟩:=w.find d.Name;rw[cond_neg (by rw[P];rfl),cond_pos (by rw[P];rfl),R,bG];rcases q2 with⟨rfl,i,x,q3,_⟩|⟨rfl,q3⟩
   .rw[q3]
    have:decide ((i:Int)>=0)=true:=by rw[bg];omega
    rw[this]
   .rw[q3];rfl
  .rcases Q with⟨R,_⟩|⟨j,x,R,q2,_⟩
   .exfalso;have R:tpos t d.Name= -1:=R;rw[R] at L;simp at L
   .exact⟨j,x,R.trans (by rw[eO]),q2⟩
 by_cases N:d.Op=6
 .obtain⟨b,I,K,z⟩:=G af;refine⟨b,e507 ?_,λw A l=>MQ ?_,z⟩
  .rw[cond_neg (by rw[N];rfl),cond_neg (by rw[N];rfl),cond_pos (by rw[N];rfl),cond_pos (by rw[N];rfl)];exact I
  .rw[cond_neg (by rw[N];rfl),cond_neg (by rw[N];rfl),cond_pos (by rw[N];rfl),cond_pos (by rw[N];rfl)];exact K w A l
 by_cases B:d.Op=7
 .obtain⟨b,I,K,z⟩:=G af;refine⟨b,e507 ?_,λw A l=>MQ ?_,z⟩
  .rw[cond_neg (by rw[B];rfl),cond_neg (by rw[B];rfl),cond_neg (by rw[B];rfl),cond_pos (by rw[B];rfl),cond_pos (by rw[B];rfl)];exact I
  .rw[cond_neg (by rw[B];rfl),cond_neg (by rw[B];rfl),cond_neg (by rw[B];rfl),cond_pos (by rw[B];rfl),cond_pos (by rw[B];rfl)];exact K w A l
 by_cases D:d.Op=8
 .obtain⟨b,I,K,z⟩:=G af;refine⟨b,e507 ?_,λw A l=>MQ ?_,z⟩
  .rw[cond_neg (by rw[D];rfl),cond_neg (by rw[D];rfl),cond_neg (by rw[D];rfl),cond_neg (by rw[D];rfl),cond_pos (by rw[D];rfl)];exact I
  .rw[cond_neg (by rw[D];rfl),cond_neg (by rw[D];rfl),cond_neg (by rw[D];rfl),cond_neg (by rw[D];rfl),cond_pos (by rw[D];rfl)];exact K w A l
 .obtain⟨b,I,K,z⟩:=U af (λe=>by omega);have ne:∀k:Int,d.Op≠k->(d.Op==k)=false:=λk O=>by simpa using O
  refine⟨b,e507 ?_,λw A l=>MQ ?_,z⟩
  .rw[ne 1 S,aA,ne 2 P,aA,ne 6 N,aA,ne 7 B,aA,ne 8 D,aA];exact I
  .rw[ne 1 S,aA,ne 2 P,aA,ne 6 N,aA,ne 7 B,aA,ne 8 D,aA];exact K w A l
end
end Go.Proofs.YthphfjcnkinkpaaGreatDoor.cl.pf
namespace Go.Proofs.YthphfjcnkinkpaaGreatDoor.cl.pf
open Go Go.AM
def Uo:∀(k:Nat) (l:List Int) (i:Nat) (h:i<l.length),(DS k l)[i]? =some ⟨0,[⟨l[i],(k+i+1:Nat)⟩]⟩
 |k,f::l,0,h=>by simp[DS]
 |k,f::l,i+1,h=>by simp only[DS,rS,Ea];rw[Uo (k+1) l i (by simpa using h)];congr 4;omega
def FN {p:List Int} {f:FSt}:(vz p f).au.length=p.length+f.au.length:=by simp[vz,Cc]
def Up {p:List Int} {f:FSt} {i:Nat} (h:i<p.length):(vz p f).au[i]? =some ⟨0,[⟨p[i],(i+1:Nat)⟩]⟩:=by unfold vz;rw[fV (by rw[Cc];exact h),Uo 0 p i h,eO]
def Uq {p:List Int} {f:FSt} {j:Nat}:(vz p f).au[p.length+j]? =(f.au[j]?).map (udN p.length):=by unfold vz;rw[gD (by rw[Cc];omega),Cc,u6,dK]
def vA {p:List Int} {f:FSt} {i:Nat} (h:i<p.length):iD (vz p f) i=[(p[i],i+1)]:=by unfold iD;rw[Up h];simp[PX]
def YM {p:List Int} {f:FSt} {i:Nat} (h:i<p.length):mI (vz p f) i=0:=by unfold mI;rw[Up h]
def Rk {p:List Int} {f:FSt} {j:Nat}:mI (vz p f) (p.length+j)=mI f j:=by unfold mI;rw[Uq];cases f.au[j]? <;>rfl
def NW (f:FSt):Prop:=∀x∈f.au,∀a∈x.bJ,0<=a.To/\a.To<=1000000
def vB {p:List Int} (G:p.length<=1000000) {f:FSt} (w:NW f) {j:Nat}:iD (vz p f) (p.length+j)=(iD f j).map λq=>(q.1,p.length+q.2):=by unfold iD;rw[Uq];cases z:f.au[j]? with
 |none=>rfl
 |some x=>
  show PX (udN p.length x)=(PX x).map _;unfold PX udN;rw[e8,e8];refine iE λa l=> ?_
  obtain⟨B,D⟩:=w x (aR z) a l;simp only[Function.comp];rw[show wrap .i64 (a.To+(p.length:Int))=a.To+(p.length:Int) from Rq af af];congr 1;omega
theorem NL {sc sc':Nat->List (Int×Nat)} {n:Nat} {L:List Nat} (w:∀y∈L,y<n) (B:∀y,sc' (n+y)=(sc y).map λq=>(q.1,n+q.2)):∀(k x:Nat) (o:List Nat),nh sc' k (n+x) (L++o.map (n+ ·))=L++(nh sc k x o).map (n+ ·)
 |0,x,o=>rfl
 |k+1,x,o=>by
  have z:n+x∈L++o.map (n+ ·)↔x∈o:=by
   rw[bu];constructor
   .rintro (h|h)
    .have:=w _ h;omega
    .obtain⟨y,G,e⟩:=aG.1 h
     have:y=x:=af
     exact this▸G
   .exact λh=> .inr (nP h)
  unfold nh;by_cases h:x∈o
  .rw[aB h,aB (z.2 h)]
  .rw[az h,az (λD=>h (z.1 D)),B x];have key:∀(l:List (Int×Nat)) (o:List Nat),(l.map λq=>(q.1,n+q.2)).foldl (λo p=>nh sc' k p.2 o) (L++o.map (n+ ·))=L++(l.foldl (λo p=>nh sc k p.2 o) o).map (n+ ·):=by
    intro l;induction l with
    |nil=>intro o;rfl
    |cons q l I=>intro o;simp only[bS,gx];rw[NL w B k q.2 o];exact I _
   have:=key (sc x) (o++[x]);rw[cL,List.map_singleton,<-ef] at this;exact this
def und_vis {T F:Nat} {p:List Int} (z:p.length<=1000000) {f:FSt} (l:Can T F f) (ht:NW f):∀(j i:Nat),p.length=i+j->nh (iD (vz p f)) (f.au.length+1+j) i (List.range i)=List.range (p.length+f.au.length):=by intro j;induction j with
 |zero=>intro i q;have e:i=p.length:=af;have:=NL (sc:=iD f) (sc':=iD (vz p f)) (n:=p.length) (L:=List.range p.length) (λy B=>gU.1 B) (λy=>vB z ht) (f.au.length+1) 0 [];rw[fI,dF] at this;rw[e,lY];refine Eq.trans this ?_;have w:nh (iD f) (f.au.length+1) 0 []=List.range f.au.length:=l.ord;rw[w,<-wM]
 |succ j D=>intro i q;rw[show f.au.length+1+(j+1)=(f.au.length+1+j)+1 from rfl,nh,az ai,vA af,<-kE];exact D (i+1) af
def und_go {T F:Nat} (hT:0<T) {p:List Int} (I:p.length<=1000000) (hπ:∀g∈p,0<=g/\g<(F:Int)) {f:FSt} (K:Can T F f) (ht:NW f):GO T F (jI (vz p f)) (vz p f).au.length:=by
 have hn:=K.ne;have hg:=K.go;rw[FN];have L:∀i,i<p.length+f.au.length->i<p.length\/∃j,j<f.au.length/\i=p.length+j:=λi z=>by
  by_cases h:i<p.length
  .exact .inl h
  .exact .inr ⟨i-p.length,by omega,af⟩
 refine⟨λi z q l=> ?_,λi z=> ?_,λi z q l=> ?_,λi z=> ?_⟩<;>rcases L i z with h|⟨j,B,rfl⟩
 .have l:q∈iD (vz p f) i:=l;rw[vA h] at l;simp at l;subst l;show i+1<_;omega
 .have l:q∈iD (vz p f) (p.length+j):=l;rw[vB I ht] at l;obtain⟨D,w,rfl⟩:=aG.1 l;have:=hg.bd j B D w;show p.length+D.2<_;omega
 .show yb (iD _ i);rw[vA h];exact rY _ _
 .show yb (iD _ _);rw[vB I ht];exact List.Pairwise.map _ (λa b G=>G) (hg.wT j B)
 .have l:q∈iD (vz p f) i:=l;rw[vA h] at l;simp at l;subst l;exact hπ _ (bB h)
 .have l:q∈iD (vz p f) (p.length+j):=l;rw[vB I ht] at l;obtain⟨D,w,rfl⟩:=aG.1 l;exact hg.ft j B D w
 .show 0<=mI _ i/\mI _ i<_;rw[YM h];omega
 .show 0<=mI _ _/\mI _ _<_;rw[Rk];exact hg.tp j B
def YL {T F:Nat} (hT:0<T) {p:List Int} (B:p.length<=1000000) (hπ:∀g∈p,0<=g/\g<(F:Int)) {f:FSt} (z:Can T F f) (ht:NW f):Can T F (vz p f):=by
 have hn:=z.ne;refine Dp (by rw[FN];omega) (und_go hT B hπ z ht) (λx l a q=> ?_) ?_
 .unfold vz at l;rcases bu.1 l with l|l
  .have key:∀(k:Nat) (w:List Int),∀x∈DS k w,∀a∈x.bJ,0<=a.To:=by
    intro k w;induction w generalizing k with
    |nil=>intro x l;cases l
    |cons g w I=>
     intro x l a q;rcases aS.1 l with rfl|l
     .simp at q;subst q;show(0:Int)<=((k+1:Nat):Int);omega
     .exact I _ x l a q
   exact key 0 p x l a q
  .obtain⟨y,G,rfl⟩:=aG.1 l;obtain⟨b,D,rfl⟩:=aG.1 q;obtain⟨K,L⟩:=ht y G b D;show 0<=wrap .i64 (b.To+(p.length:Int));rw[show wrap .i64 (b.To+(p.length:Int))=b.To+(p.length:Int) from Rq af af];omega
 .rw[FN];have:=und_vis B z ht p.length 0 af;rw[show f.au.length+1+p.length=p.length+f.au.length+1 from by omega] at this;exact this
end Go.Proofs.YthphfjcnkinkpaaGreatDoor.cl.pf
namespace Go.Proofs.YthphfjcnkinkpaaGreatDoor.cl.pf
open Go Go.AM
def aee {T F:Nat} {f:FSt} (q:Can T F f) (hn:f.au.length<=1000000) (hF:F<=1000000):NW f:=λx w a l=>(q.small hn hF x w).2 a l
section
variable {h:aK} {T F:Nat} {sb:Int->Int->Prop} (H:HM h T sb) {A:FSt} (hA:Can T F A) {g:FSt} (hg:Can T F g) (hT:0<T) (hF:F<=300) {p:List Int} (hπ:∀x∈p,0<=x/\x<(F:Int)) (hn:A.au.length+(p.length+g.au.length)<=1000000)
include H hA hg hT hF hπ hn
theorem at_same:(∃f,f542 h A p g=some (f,true)/\f536 h A p g=some (f,true)/\Uw T F sb A (vz p g) f)\/
  (f542 h A p g=some (⟨[]⟩,false)/\f536 h A p g=some (⟨[]⟩,false)/\∀C,Can T F C->Le sb A C->Le sb (vz p g) C->False):=by
 have z:=aee hg af af;have B:=YL hT af hπ hg z;have D:∀x∈g.au,x.bJ.length<=1000000:=λx N=>(hg.small af af x N).1
 have O:=c426g (p:=p) (f:=g) af af D;have P:=c430g (p:=p) (f:=g) af af D;have G:A.au.length+(vz p g).au.length<=1000000:=by rw[FN];exact hn
 have I:∀f b,f433 h A (vz p g)=some (f,b)->f542 h A p g=some (f,b):=λf b e=>e542 (by rw[O,aj,e];rfl)
 have K:∀f b,f440 h A (vz p g)=some (f,b)->f536 h A p g=some (f,b):=λf b e=>e536 (by rw[P,aj,e];rfl)
 rcases c433 H hA B af G with⟨f,e1,l⟩|⟨e1,l⟩<;>rcases c440 H hA B hF G with⟨L,w,q⟩|⟨w,q⟩
 .have:=Uw.uniq H.to hA B l q;subst this;exact .inl ⟨f,I _ _ e1,K _ _ w,l⟩
 .exact(q f l.can l.l l.r).elim
 .exact(l L q.can q.l q.r).elim
 .exact .inr ⟨I _ _ e1,K _ _ w,l⟩
end
