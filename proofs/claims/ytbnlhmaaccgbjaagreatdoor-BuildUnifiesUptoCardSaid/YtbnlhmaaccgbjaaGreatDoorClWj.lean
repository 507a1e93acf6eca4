/- Build. -/
import Derived.Test.YtbnlhmaaccgbjaaGreatDoorClWl
import Derived.Test.YtbnlhmaaccgbjaaGreatDoorClVb
set_option linter.all false
open Go.IntKind (wrap)
open Int (toNat)
open List (length replicate)
namespace Go.Proofs.YtbnlhmaaccgbjaaGreatDoor.cl.pf
open Go Go.AM
structure Kn (h:aN) (t:List Template) (d:aQ):Prop where
 ty:d.Op=1->0<=mQ h d.Name
 tm:d.Op=2->∃(i:Nat) (x:Template),tpos t d.Name=(i:Int)/\t[i]? =some x
 ls:6<=d.Op->LT h
 pt:3<=d.Op->∀s∈d.Path,0<=gP h s
section
variable {h:aN} {T F:Nat} {sb:Int->Int->Prop} {bS:Int->Int} {val:Int->Int->Int} (H:HX h T F sb bS val) (hT:T<=1000) (hF:F<=300) {t u:List Template} (ht:t.length<=1000)
include H hT hF ht
theorem h507p {d:aQ} (hl:d.Path.length<=64):∀(xs:List b9) (i:Nat),d.Path.drop i=xs->
  ((∃s∈xs,gP h s<0)/\oL t i h d=some false/\∀A w,mD d.Path d.Path.length i d h.Types h.bJ u A w=some (false,A,w))\/
  ((∀s∈xs,0<=gP h s)/\(∀r,FR t 0 h d=some r->oL t i h d=some r)/\∀A w r,(e9 (Xg d.Kids h.Types h.bJ u A w) λO L N=>some ((!O),L,N))=some r->mD d.Path d.Path.length i d h.Types h.bJ u A w=some r):=by
 have V:=H.hv.fl;intro xs;induction xs with
 |nil=>
  intro i z;refine .inr ⟨ai,λr G=>O1 ?_,λA w r G=>Kx ?_⟩
  .rw[bq z,az];exact G
  .rw[bq z,az];exact G
 |cons x xs ih=>
  intro i z;by_cases K:gP h x<0
  .refine .inl ⟨⟨x,by simp,K⟩,O1 ?_,λA w=>Kx ?_⟩
   .rw[aV z,ak,aM z,zF _ _ af,aj,cond_pos (by rw[bB];exact K)]
   .rw[aV z,ak,aM z,show aN.mk h.Types h.bJ=h from rfl,c363 _ _ af,aj,cond_pos (by rw[bB];exact K)]
  .have e1:∀r,oL t ((i+1:Nat):Int) h d=some r->oL t i h d=some r:=λr G=>by
    refine O1 ?_;rw[aV z,ak,aM z,zF _ _ af,aj,cond_neg (by rw[aT];exact K),aR z af];exact G
   have S:∀A w r,mD d.Path d.Path.length ((i+1:Nat):Int) d h.Types h.bJ u A w=some r->mD d.Path d.Path.length i d h.Types h.bJ u A w=some r:=λA w r G=>by refine Kx ?_;rw[aV z,ak,aM z,show aN.mk h.Types h.bJ=h from rfl,c363 _ _ af,aj,cond_neg (by rw[aT];exact K),aR z af];exact G
   rcases ih (i+1) (aI z) with⟨⟨s,I,R⟩,P,Q⟩|⟨U,P,Q⟩
   .exact .inl ⟨⟨s,by simp[I],R⟩,e1 _ P,λA w=>S _ _ _ (Q A w)⟩
   .exact .inr ⟨λs I=>by
     rcases aJ.1 I with rfl|I
     .omega
     .exact U s I,λr G=>e1 r (P r G),λA w r G=>S A w r (Q A w r G)⟩
theorem h507k {d:aQ} (hl:d.Kids.length<=256) (L:∀k∈d.Kids,∃b,f507 h t k=some b/\(G4 t u->∀A z,MY k h.Types h.bJ u A z=some (b,A,z))/\(b=true↔fE (Kn h t) k)):∀(xs:List aQ) (i:Nat),d.Kids.drop i=xs->
  ∃b,FR t i h d=some b/\(G4 t u->∀A z,∃v,Ji d.Kids d.Kids.length i h.Types h.bJ u A z=some (v,A,z)/\decide (v>=0)= !b)/\(b=true↔∀k∈xs,fE (Kn h t) k):=by
 intro xs;induction xs with
 |nil=>
  intro i w;refine⟨true,O2 ?_,λ_ A z=>⟨-1,O7 ?_,rfl⟩,ai⟩
  .rw[bq w,az]
  .rw[bq w,az]
 |cons x xs R=>
  intro i w;obtain⟨b,N,Q,O⟩:=L x (aZ (bZ w));have q:G4 t u->∀A z,abw x h.Types h.bJ u A z=some (!b,A,z):=λG A z=>e560a (by rw[Q G,bI])
  cases b with
  |false=>
   refine⟨false,O2 ?_,λG A z=>⟨(i:Int),O7 ?_,ai⟩,λK=>(by cases K),λG=>O.2 (G x ai)⟩
   .rw[aV w,ak,aM w,N,aj,cond_pos (by rfl)]
   .rw[aV w,ak,aM w,q G,bI,cond_pos (by rfl)]
  |true=>
   obtain⟨b,S,U,P⟩:=R (i+1) (aI w);refine⟨b,O2 ?_,λG A z=> ?_,λK k I=> ?_,λG=>P.2 λk I=>G k (by simp[I])⟩
   .rw[aV w,ak,aM w,N,aj,cond_neg (by rfl),aR w af];exact S
   .obtain⟨v,V,v2⟩:=U G A z;refine⟨v,O7 ?_,v2⟩;rw[aV w,ak,aM w,q G,bI,cond_neg (by rfl),aR w af];exact V
   .rcases aJ.1 I with rfl|I
    .exact O.1 rfl
    .exact P.1 K k I
theorem c507 (d:aQ):fE Fm d->∃b,f507 h t d=some b/\(G4 t u->∀A w,MY d h.Types h.bJ u A w=some (b,A,w))/\(b=true↔fE (Kn h t) d):=by
 refine j8 (P:=λd=>fE Fm d->∃b,f507 h t d=some b/\(G4 t u->∀A w,MY d h.Types h.bJ u A w=some (b,A,w))/\(b=true↔fE (Kn h t) d)) (λd ih hd=> ?_) d;have hfl:=H.hv.fl;have Vq:=H.tl;have fm:=hd.here;have hp:=fm.pl;have R:=fm.kl;have nk:d.Op=1\/d.Op=2\/d.Op=3->d.Kids=[]:=λh=>nU.1 (fm.kd.leaf h)
 have big:3<=d.Op->(6<=d.Op->LT h)->∃b,oL t 0 h d=some b/\(G4 t u->∀A w,mD d.Path d.Path.length 0 d h.Types h.bJ u A w=some (b,A,w))/\(b=true↔fE (Kn h t) d):=λho hls=>by
  obtain⟨b,N,O,G⟩:=h507k H hT hF ht (d:=d) R (λk hkm=>ih k hkm (hd.kids k hkm)) d.Kids 0 rfl;rcases h507p H hT hF ht hp d.Path 0 rfl with⟨⟨s,w0,w3⟩,w1,w2⟩|⟨w0,w1,w2⟩
  .exact⟨false,w1,λ_=>w2,λP=>(by cases P),λz=>by have:=z.here.pt ho s w0;omega⟩
  .refine⟨b,w1 _ N,λz A w=>w2 A w _ ?_,λP=>⟨_,⟨λe=>by omega,λe=>by omega,hls,λ_=>w0⟩,G.1 P⟩,λz=>G.2 z.kids⟩;obtain⟨v,v1,v2⟩:=O z A w;have q:Xg d.Kids h.Types h.bJ u A w=some (!b,A,w):=e533c (by rw[e543c v1,bI,v2]);rw[q,bI,Bool.not_not]
 have L:6<=d.Op->∃b,(Option.bind (f516 h) λy205=>bif(!y205) then(some false) else(oL t 0 h d))=some b/\(G4 t u->∀A w,(Option.bind (f529 h) λy208=>bif(y208.2 !=0) then(some (false,A,w)) else(mD d.Path d.Path.length 0 d h.Types h.bJ u A w))=some (b,A,w))/\(b=true↔fE (Kn h t) d):=λho=>by obtain⟨bl,j1,j2,fs,e,j3,j4⟩:=c516 H hT hF;cases bl with
  |false=>exact⟨false,by rw[j1,aj,cond_pos (by rfl)],λ_ A w=>by rw[j3,aj,j4,cond_pos (by rfl)],λP=>(by cases P),λz=>by have:=(z.here.ls ho).ok;rw[j1] at this;cases this⟩
  |true=>obtain⟨b,N,O,G⟩:=big af (λ_=>j2 rfl);exact⟨b,by rw[j1,aj,cond_neg (by rfl)];exact N,λz A w=>by rw[j3,aj,j4,cond_neg (by rfl)];exact O z A w,G⟩
 have ho:=fm.op;have hh:aN.mk h.Types h.bJ=h:=rfl;by_cases o1:d.Op=1
 .refine⟨decide (mQ h d.Name>=0),e507 ?_,λ_ A w=>MW ?_,λP=>⟨_,⟨λ_=>by simpa using P,λe=>by omega,λe=>by omega,λe=>by omega⟩,λk R=>by rw[nk (.inl o1)] at R;cases R⟩,λz=>qb (z.here.ty o1)⟩
  .rw[cond_pos (by rw[o1];rfl),c364 _ _ af,aj]
  .rw[cond_pos (by rw[o1];rfl),hh,c352 _ _ af,aj]
 by_cases S:d.Op=2
 .have hc:=Y9 d.Name t af;have U:=sY (λx:Template=>x.Name==d.Name) t 0
  refine⟨decide (tpos t d.Name>=0),e507 ?_,λz A w=>MW ?_,λP=>⟨_,⟨λe=>by omega,λ_=> ?_,λe=>by omega,λe=>by omega⟩,λk R=>by rw[nk (.inr (.inl S))] at R;cases R⟩,λz=>by
   obtain⟨i,x,w1,_⟩:=z.here.tm S
   rw[bB];omega⟩
  .rw[cond_neg (by rw[S];rfl),cond_pos (by rw[S];rfl),hc,aj]
  .obtain⟨k,b,V,q2⟩:=z.find d.Name;rw[cond_neg (by rw[S];rfl),cond_pos (by rw[S];rfl),V,bI];rcases q2 with⟨rfl,i,x,q3,_⟩|⟨rfl,q3⟩
   .rw[q3]
    have:decide ((i:Int)>=0)=true:=by rw[bB];omega
    rw[this]
   .rw[q3];rfl
  .rcases U with⟨V,_⟩|⟨j,x,V,q2,_⟩
   .exfalso;have V:tpos t d.Name= -1:=V;rw[V] at P;simp at P
   .exact⟨j,x,V.trans (by rw[eO]),q2⟩
 by_cases Q:d.Op=6
 .obtain⟨b,N,O,G⟩:=L af;refine⟨b,e507 ?_,λz A w=>MW ?_,G⟩
  .rw[cond_neg (by rw[Q];rfl),cond_neg (by rw[Q];rfl),cond_pos (by rw[Q];rfl),cond_pos (by rw[Q];rfl)];exact N
  .rw[cond_neg (by rw[Q];rfl),cond_neg (by rw[Q];rfl),cond_pos (by rw[Q];rfl),cond_pos (by rw[Q];rfl)];exact O z A w
 by_cases I:d.Op=7
 .obtain⟨b,N,O,G⟩:=L af;refine⟨b,e507 ?_,λz A w=>MW ?_,G⟩
  .rw[cond_neg (by rw[I];rfl),cond_neg (by rw[I];rfl),cond_neg (by rw[I];rfl),cond_pos (by rw[I];rfl),cond_pos (by rw[I];rfl)];exact N
  .rw[cond_neg (by rw[I];rfl),cond_neg (by rw[I];rfl),cond_neg (by rw[I];rfl),cond_pos (by rw[I];rfl),cond_pos (by rw[I];rfl)];exact O z A w
 by_cases K:d.Op=8
 .obtain⟨b,N,O,G⟩:=L af;refine⟨b,e507 ?_,λz A w=>MW ?_,G⟩
  .rw[cond_neg (by rw[K];rfl),cond_neg (by rw[K];rfl),cond_neg (by rw[K];rfl),cond_neg (by rw[K];rfl),cond_pos (by rw[K];rfl)];exact N
  .rw[cond_neg (by rw[K];rfl),cond_neg (by rw[K];rfl),cond_neg (by rw[K];rfl),cond_neg (by rw[K];rfl),cond_pos (by rw[K];rfl)];exact O z A w
 .obtain⟨b,N,O,G⟩:=big af (λe=>by omega);have ne:∀k:Int,d.Op≠k->(d.Op==k)=false:=λk R=>by simpa using R
  refine⟨b,e507 ?_,λz A w=>MW ?_,G⟩
  .rw[ne 1 o1,az,ne 2 S,az,ne 6 Q,az,ne 7 I,az,ne 8 K,az];exact N
  .rw[ne 1 o1,az,ne 2 S,az,ne 6 Q,az,ne 7 I,az,ne 8 K,az];exact O z A w
end
end Go.Proofs.YtbnlhmaaccgbjaaGreatDoor.cl.pf
namespace Go.Proofs.YtbnlhmaaccgbjaaGreatDoor.cl.pf
open Go Go.AM
def Ua:∀(k:Nat) (w:List Int) (i:Nat) (h:i<w.length),(D5 k w)[i]? =some ⟨0,[⟨w[i],(k+i+1:Nat)⟩]⟩
 |k,f::w,0,h=>by simp[D5]
 |k,f::w,i+1,h=>by simp only[D5,rQ,Eo];rw[Ua (k+1) w i (by simpa using h)];congr 4;omega
def F5 {p:List Int} {f:FSt}:(Ap p f).aA.length=p.length+f.aA.length:=by simp[Ap,Cb]
def Ub {p:List Int} {f:FSt} {i:Nat} (h:i<p.length):(Ap p f).aA[i]? =some ⟨0,[⟨p[i],(i+1:Nat)⟩]⟩:=by unfold Ap;rw[fL (by rw[Cb];exact h),Ua 0 p i h,eO]
def Uc {p:List Int} {f:FSt} {j:Nat}:(Ap p f).aA[p.length+j]? =(f.aA[j]?).map (udN p.length):=by unfold Ap;rw[fK (by rw[Cb];omega),Cb,Nat.add_sub_cancel_left,dN]
def Jj {p:List Int} {f:FSt} {i:Nat} (h:i<p.length):kE (Ap p f) i=[(p[i],i+1)]:=by unfold kE;rw[Ub h];simp[scN]
def und_tyL {p:List Int} {f:FSt} {i:Nat} (h:i<p.length):rE (Ap p f) i=0:=by unfold rE;rw[Ub h]
def und_tyR {p:List Int} {f:FSt} {j:Nat}:rE (Ap p f) (p.length+j)=rE f j:=by unfold rE;rw[Uc];cases f.aA[j]? <;>rfl
def aaL (f:FSt):Prop:=∀x∈f.aA,∀a∈x.cu,0<=a.To/\a.To<=1000000
def Jk {p:List Int} (hp:p.length<=1000000) {f:FSt} (z:aaL f) {j:Nat}:kE (Ap p f) (p.length+j)=(kE f j).map λq=>(q.1,p.length+q.2):=by unfold kE;rw[Uc];cases G:f.aA[j]? with
 |none=>rfl
 |some x=>
  show scN (udN p.length x)=(scN x).map _;unfold scN udN;rw[fo,fo];refine gY λa w=> ?_
  obtain⟨I,K⟩:=z x (aZ G) a w;simp only[Function.comp];rw[show wrap .i64 (a.To+(p.length:Int))=a.To+(p.length:Int) from QZ af af];congr 1;omega
def NY {sc sc':Nat->List (Int×Nat)} {n:Nat} {L:List Nat} (w:∀y∈L,y<n) (G:∀y,sc' (n+y)=(sc y).map λq=>(q.1,n+q.2)):∀(k x:Nat) (o:List Nat),nD sc' k (n+x) (L++o.map (n+ ·))=L++(nD sc k x o).map (n+ ·)
 |0,x,o=>rfl
 |k+1,x,o=>by
  have z:n+x∈L++o.map (n+ ·)↔x∈o:=by
   rw[bu];constructor
   .rintro (h|h)
    .have:=w _ h;omega
    .obtain⟨y,K,e⟩:=aD.1 h
     have:y=x:=af
     exact this▸K
   .exact λh=> .inr (iK h)
  unfold nD;by_cases h:x∈o
  .rw[aB h,aB (z.2 h)]
  .rw[au h,au (λI=>h (z.1 I)),G x];have key:∀(l:List (Int×Nat)) (o:List Nat),(l.map λq=>(q.1,n+q.2)).foldl (λo p=>nD sc' k p.2 o) (L++o.map (n+ ·))=L++(l.foldl (λo p=>nD sc k p.2 o) o).map (n+ ·):=by
    intro l;induction l with
    |nil=>intro o;rfl
    |cons q l N=>intro o;simp only[bw,gJ];rw[NY w G k q.2 o];exact N _
   have:=key (sc x) (o++[x]);rw[cn,List.map_singleton,<-eo] at this;exact this
def und_vis {T F:Nat} {p:List Int} (hp:p.length<=1000000) {f:FSt} (w:Can T F f) (ht:aaL f):∀(j i:Nat),p.length=i+j->nD (kE (Ap p f)) (f.aA.length+1+j) i (List.range i)=List.range (p.length+f.aA.length):=by intro j;induction j with
 |zero=>intro i z;have e:i=p.length:=af;have:=NY (sc:=kE f) (sc':=kE (Ap p f)) (n:=p.length) (L:=List.range p.length) (λy I=>gL.1 I) (λy=>Jk hp ht) (f.aA.length+1) 0 [];rw[di,dP] at this;rw[e,mb];refine Eq.trans this ?_;have G:nD (kE f) (f.aA.length+1) 0 []=List.range f.aA.length:=w.ord;rw[G,<-wL]
 |succ j K=>intro i z;rw[show f.aA.length+1+(j+1)=(f.aA.length+1+j)+1 from rfl,nD,au ai,Jj af,<-kP];exact K (i+1) af
def und_go {T F:Nat} (hT:0<T) {p:List Int} (hp:p.length<=1000000) (hπ:∀g∈p,0<=g/\g<(F:Int)) {f:FSt} (L:Can T F f) (ht:aaL f):GO T F (oP (Ap p f)) (Ap p f).aA.length:=by
 have hn:=L.ne;have hg:=L.go;rw[F5];have N:∀i,i<p.length+f.aA.length->i<p.length\/∃j,j<f.aA.length/\i=p.length+j:=λi z=>by
  by_cases h:i<p.length
  .exact .inl h
  .exact .inr ⟨i-p.length,by omega,af⟩
 refine⟨λi z q hq=> ?_,λi z=> ?_,λi z q hq=> ?_,λi z=> ?_⟩<;>rcases N i z with h|⟨j,G,rfl⟩
 .have hq:q∈kE (Ap p f) i:=hq;rw[Jj h] at hq;simp at hq;subst hq;show i+1<_;omega
 .have hq:q∈kE (Ap p f) (p.length+j):=hq;rw[Jk hp ht] at hq;obtain⟨I,w,rfl⟩:=aD.1 hq;have:=hg.bd j G I w;show p.length+I.2<_;omega
 .show CO (kE _ i);rw[Jj h];exact uZ _ _
 .show CO (kE _ _);rw[Jk hp ht];exact List.Pairwise.map _ (λa b K=>K) (hg.Ay j G)
 .have hq:q∈kE (Ap p f) i:=hq;rw[Jj h] at hq;simp at hq;subst hq;exact hπ _ (cG h)
 .have hq:q∈kE (Ap p f) (p.length+j):=hq;rw[Jk hp ht] at hq;obtain⟨I,w,rfl⟩:=aD.1 hq;exact hg.ft j G I w
 .show 0<=rE _ i/\rE _ i<_;rw[und_tyL h];omega
 .show 0<=rE _ _/\rE _ _<_;rw[und_tyR];exact hg.tp j G
def YM {T F:Nat} (hT:0<T) {p:List Int} (hp:p.length<=1000000) (hπ:∀g∈p,0<=g/\g<(F:Int)) {f:FSt} (I:Can T F f) (ht:aaL f):Can T F (Ap p f):=by
 have hn:=I.ne;refine DA (by rw[F5];omega) (und_go hT hp hπ I ht) (λx w a z=> ?_) ?_
 .unfold Ap at w;rcases bu.1 w with w|w
  .have key:∀(k:Nat) (G:List Int),∀x∈D5 k G,∀a∈x.cu,0<=a.To:=by
    intro k G;induction G generalizing k with
    |nil=>intro x w;cases w
    |cons g G N=>
     intro x w a z;rcases aJ.1 w with rfl|w
     .simp at z;subst z;show(0:Int)<=((k+1:Nat):Int);omega
     .exact N _ x w a z
   exact key 0 p x w a z
  .obtain⟨y,L,rfl⟩:=aD.1 w;obtain⟨b,K,rfl⟩:=aD.1 z;obtain⟨O,P⟩:=ht y L b K;show 0<=wrap .i64 (b.To+(p.length:Int));rw[show wrap .i64 (b.To+(p.length:Int))=b.To+(p.length:Int) from QZ af af];omega
 .rw[F5];have:=und_vis hp I ht p.length 0 af;rw[show f.aA.length+1+p.length=p.length+f.aA.length+1 from by omega] at this;exact this
end Go.Proofs.YtbnlhmaaccgbjaaGreatDoor.cl.pf
namespace Go.Proofs.YtbnlhmaaccgbjaaGreatDoor.cl.pf
open Go Go.AM
def to_ok {T F:Nat} {f:FSt} (z:Can T F f) (hn:f.aA.length<=1000000) (hF:F<=1000000):aaL f:=λx G a w=>(z.small hn hF x G).2 a w
section
variable {h:aN} {T F:Nat} {sb:Int->Int->Prop} (H:HM h T sb) {A:FSt} (hA:Can T F A) {g:FSt} (hg:Can T F g) (hT:0<T) (hF:F<=300) {p:List Int} (hπ:∀x∈p,0<=x/\x<(F:Int)) (hn:A.aA.length+(p.length+g.aA.length)<=1000000)
include H hA hg hT hF hπ hn
theorem at_same:(∃f,f542 h A p g=some (f,true)/\f536 h A p g=some (f,true)/\Ui T F sb A (Ap p g) f)\/
  (f542 h A p g=some (⟨[]⟩,false)/\f536 h A p g=some (⟨[]⟩,false)/\∀C,Can T F C->Le sb A C->Le sb (Ap p g) C->False):=by
 have I:=to_ok hg af af;have K:=YM hT af hπ hg I;have L:∀x∈g.aA,x.cu.length<=1000000:=λx R=>(hg.small af af x R).1
 have S:=c426g (p:=p) (f:=g) af af L;have U:=c430g (p:=p) (f:=g) af af L;have N:A.aA.length+(Ap p g).aA.length<=1000000:=by rw[F5];exact hn
 have O:∀f b,f433 h A (Ap p g)=some (f,b)->f542 h A p g=some (f,b):=λf b e=>e542 (by rw[S,aj,e];rfl)
 have P:∀f b,f440 h A (Ap p g)=some (f,b)->f536 h A p g=some (f,b):=λf b e=>e536 (by rw[U,aj,e];rfl)
 rcases c433 H hA K af N with⟨f,e1,w⟩|⟨e1,w⟩<;>rcases c440 H hA K hF N with⟨Q,G,z⟩|⟨G,z⟩
 .have:=Ui.uniq H.to hA K w z;subst this;exact .inl ⟨f,O _ _ e1,P _ _ G,w⟩
 .exact(z f w.can w.l w.r).elim
 .exact(w Q z.can z.l z.r).elim
 .exact .inr ⟨O _ _ e1,P _ _ G,w⟩
end
end Go.Proofs.YtbnlhmaaccgbjaaGreatDoor.cl.pf
namespace Go.Proofs.YtbnlhmaaccgbjaaGreatDoor.cl.pf
open Go Go.AM
structure Eqt (T F:Nat) (sb:Int->Int->Prop) (A:FSt) (p q:List Int) (f:FSt):Prop where
 can:Can T F f
 l:Le sb A f
 at_:∃k,xY f p=some k/\xY f q=some k
 least:∀C,Can T F C->Le sb A C->(∃k,xY C p=some k/\xY C q=some k)->Le sb f C
def Eqt.uniq {T F:Nat} {sb:Int->Int->Prop} (hT:TO T sb) {A:FSt} {p q:List Int} {f g:FSt} (w:Eqt T F sb A p q f) (z:Eqt T F sb A p q g):f=g:=
 Le.anti hT w.can z.can (w.least g z.can z.l z.at_) (z.least f w.can w.l w.at_)
structure Emb (T F:Nat) (l:List Node) (s:Nat) (B:FSt):Prop where
 can:Can T F B
 get:∀i,(hi:i<B.aA.length)->l[i+s]? =some (PX s B.aA[i])
section
variable {T F:Nat} {l:List Node} {s:Nat} {B:FSt} (h:Emb T F l s B)
include h
theorem Emb.lt {i:Nat} (w:i<B.aA.length):i+s<l.length:=(bQ.1 (h.get i w)).1
theorem Emb.sc {i:Nat} (w:i<B.aA.length):(lG l).sc (i+s)=(kE B i).map λp=>(p.1,p.2+s):=by rw[Nh (h.lt w),(bQ.1 (h.get i w)).2,wD w];exact Yq (h.can.ao (cG w))
theorem Emb.ty {i:Nat} (w:i<B.aA.length):(lG l).ty (i+s)=rE B i:=by rw[SQ (h.lt w),(bQ.1 (h.get i w)).2,Ao w];rfl
theorem Emb.sol {sb:Int->Int->Prop} {C:FSt} {G m:Nat->Nat} (z:∀i,i<B.aA.length->m (i+s)=G i) (I:F8 sb (oP B) 0 (oP C) 0 G) {i:Nat} (w:i<B.aA.length):
  sb ((lG l).ty (i+s)) ((oP C).ty (m (i+s)))/\∀p∈(lG l).sc (i+s),(p.1,m p.2)∈(oP C).sc (m (i+s)):=by
 have:=I.2 i (h.can.Rf w);rw[z i w,h.ty w,h.sc w];refine⟨this.1,λp hp=> ?_⟩;obtain⟨q,hq,rfl⟩:=aD.1 hp;simp only;rw[z q.2 (h.can.bd i w q hq)];exact this.2 q hq
theorem Emb.part {sb:Int->Int->Prop} (hT:TO T sb) (I:0<l.length) {W:List (Nat×Nat)} {G:Gr} {w:Nat->Nat} (K:YY T F sb (lG l) l.length W G w) (L:w s=w 0):
  F8 sb (oP B) 0 (oP (nt G l.length (w 0))) 0 (λi=>(kB G l.length (w 0)).idxOf (w (i+s))):=by
 refine K.part hT I (A:=oP B) (s:=0) (e:=λi=>i+s) (λi z=> ?_) (by simpa using L);have z:=h.can.Uo z;exact⟨h.lt z,h.ty z,h.sc z⟩
end
def uz (A B D:FSt):List Node:=A.aA.map (PX 0)++B.aA.map (PX A.aA.length)++D.aA.map (PX (A.aA.length+B.aA.length))
def aej {T F:Nat} {sb:Int->Int->Prop} {U:Gr} {n:Nat} {W:List (Nat×Nat)} {G:Gr} {z:Nat->Nat} (w:YY T F sb U n W G z) (I:0<n):(nt G n (z 0)).aA.length<=n:=by rw[JS];have:=vo w.go.bd (w.lt 0 I);exact yq this.nd this.lt
section
variable {T F:Nat} {A B D:FSt} (hA:Can T F A) (hB:Can T F B) (hD:Can T F D)
theorem QT:(uz A B D).length=A.aA.length+B.aA.length+D.aA.length:=by simp[uz];omega
include hA in
theorem aee:Emb T F (uz A B D) 0 A:=⟨hA,λi w=>by
 unfold uz
 rw[eo,fL (by simpa using w),dN,mb,aK w];rfl⟩
include hB in
theorem aef:Emb T F (uz A B D) A.aA.length B:=⟨hB,λi w=>by
 unfold uz
 rw[eo,fK ai,bz,lV,fL (by simpa using w),dN,aK w];rfl⟩
include hD in
theorem aeg:Emb T F (uz A B D) (A.aA.length+B.aA.length) D:=⟨hD,λi w=>by
 unfold uz
 rw[fK ai,cF,bz,bz,lV,dN,aK w];rfl⟩
theorem NV {x:Nat} (z:x<(uz A B D).length):(∃i,i<A.aA.length/\x=i+0)\/(∃i,i<B.aA.length/\x=i+A.aA.length)\/∃i,i<D.aA.length/\x=i+(A.aA.length+B.aA.length):=by
 rw[QT] at z;by_cases w:x<A.aA.length
 .exact .inl ⟨x,w,rfl⟩
 .by_cases G:x<A.aA.length+B.aA.length
  .exact .inr (.inl ⟨x-A.aA.length,by omega,af⟩)
  .exact .inr (.inr ⟨x-(A.aA.length+B.aA.length),by omega,af⟩)
include hA hB hD
theorem tri_sol {sb:Int->Int->Prop} {C:FSt} {L G I:Nat->Nat} (R:F8 sb (oP A) 0 (oP C) 0 L) (S:F8 sb (oP B) 0 (oP C) 0 G) (U:F8 sb (oP D) 0 (oP C) 0 I) {i j:Nat} (w:i<B.aA.length) (hj:j<D.aA.length) (e:G i=I j):
  ∃m,m 0=0/\Uj sb (lG (uz A B D)) (uz A B D).length ([(0,A.aA.length)]++[(A.aA.length,A.aA.length+B.aA.length)]++[(A.aA.length+i,A.aA.length+B.aA.length+j)]) (oP C) m:=by
 have a0:=hA.ne;have b0:=hB.ne;have d0:=hD.ne;generalize K:(λx=>if x<A.aA.length then L x else if x<A.aA.length+B.aA.length then G (x-A.aA.length) else I (x-(A.aA.length+B.aA.length)))=m;have V:∀i,i<A.aA.length->m (i+0)=L i:=λi w=>by rw[<-K];simp only[mb];rw[aB w]
 have N:∀i,i<B.aA.length->m (i+A.aA.length)=G i:=λi w=>by rw[<-K];simp only;rw[au af,aB af,lV]
 have O:∀i,i<D.aA.length->m (i+(A.aA.length+B.aA.length))=I i:=λi w=>by rw[<-K];simp only;rw[au af,au af,lV]
 have P:=V 0 a0;have Q:=N 0 b0;have r3:=O 0 d0;rw[R.1] at P;rw[eO,S.1] at Q;rw[eO,U.1] at r3;have key:∀x,x<(uz A B D).length->sb ((lG (uz A B D)).ty x) ((oP C).ty (m x))/\∀p∈(lG (uz A B D)).sc x,(p.1,m p.2)∈(oP C).sc (m x):=λx z=>by
  rcases NV z with⟨i,w,rfl⟩|⟨i,w,rfl⟩|⟨i,w,rfl⟩
  .exact(aee hA).sol V R w
  .exact(aef hB).sol N S w
  .exact(aeg hD).sol O U w
 refine⟨m,P,λx z=>(key x z).1,λx z=>(key x z).2,λp hp=> ?_⟩;simp only[gi,dK,aJ,lW,nJ] at hp;rcases hp with rfl|rfl|rfl
 .rw[Q];exact P
 .show m A.aA.length=m (A.aA.length+B.aA.length);rw[Q,r3]
 .show m (A.aA.length+i)=m (A.aA.length+B.aA.length+j);have e1:=N i w;have e2:=O j hj;rw[kY A.aA.length i,kY (A.aA.length+B.aA.length) j,e1,e2,e]
end
section
variable {T F:Nat} {sb:Int->Int->Prop} (hT:TO T sb) {A:FSt} (hA:Can T F A) {p q:List Int} (hp:∀f∈p,0<=f/\f<(F:Int)) (hq:∀f∈q,0<=f/\f<(F:Int)) (vk:0<T)
include hT hA hp hq vk
abbrev eqnW (A:FSt) (p q:List Int):List (Nat×Nat):=[(0,A.aA.length)]++[(A.aA.length,A.aA.length+(p.length+1))]++[(A.aA.length+p.length,A.aA.length+(p.length+1)+q.length)]
theorem T7 {C:FSt} (w:Can T F C) (G:Le sb A C) (R:∃k,xY C p=some k/\xY C q=some k):
  ∃m,m 0=0/\Uj sb (lG (uz A (sM p 0) (sM q 0))) (uz A (sM p 0) (sM q 0)).length (eqnW A p q) (oP C) m:=by
 obtain⟨V,G⟩:=G;obtain⟨k,I,K⟩:=R;have O:=vh (T:=T) vk hp ⟨jQ 0,af⟩;have P:=vh (T:=T) vk hq ⟨jQ 0,af⟩;have S:=r7 p 0;have U:=r7 q 0;have top:∀k,xY C p=some k\/xY C q=some k->sb 0 (rE C k):=λk z=>by
  have:sI (kE C) 0 k:=by rcases z with z|z<;>exact IF (λi _=>w.Ay i) _ 0 _ .root z
  have:=w.go.tp _ (w.Uo this);exact hT.top this.1 this.2
 obtain⟨mp,Q⟩:=(Oq hT hp ⟨jQ 0,af⟩ w).2 ⟨k,I,top k (.inl I)⟩;obtain⟨mq,eq⟩:=(Oq hT hq ⟨jQ 0,af⟩ w).2 ⟨k,K,top k (.inr K)⟩;have L:=AA O w Q (π:=p) (k:=p.length) (by have:=JU (π:=p) (t:=0) p.length (aU _);rwa[gp] at this);have N:=AA P w eq (π:=q) (k:=q.length) (by have:=JU (π:=q) (t:=0) q.length (aU _);rwa[gp] at this);rw[I] at L;rw[K] at N;have:=tri_sol hA O P G Q eq (i:=p.length) (j:=q.length) af af (eT (L.symm.trans N));rw[S] at this;exact this
theorem tri_eqt {G:Gr} {z:Nat->Nat} (w:YY T F sb (lG (uz A (sM p 0) (sM q 0))) (uz A (sM p 0) (sM q 0)).length (eqnW A p q) G z):
  Eqt T F sb A p q (nt G (uz A (sM p 0) (sM q 0)).length (z 0)):=by
 have L:=vh (T:=T) vk hp ⟨jQ 0,af⟩;have N:=vh (T:=T) vk hq ⟨jQ 0,af⟩;have P:=r7 p 0;have lq:=r7 q 0;have I:0<(uz A (sM p 0) (sM q 0)).length:=by rw[QT];have:=hA.ne;omega
 have Q:z 0=z A.aA.length:=w.sol.eq (0,A.aA.length) ai;have q1:z A.aA.length=z (A.aA.length+(p.length+1)):=w.sol.eq (A.aA.length,A.aA.length+(p.length+1)) ai;have q2:z (A.aA.length+p.length)=z (A.aA.length+(p.length+1)+q.length):=w.sol.eq (A.aA.length+p.length,A.aA.length+(p.length+1)+q.length) ai;have K:=w.can I;have m1:=(aee hA).part hT I w (s:=0) rfl;have m2:=(aef L).part hT I w Q.symm;have m3:=(aeg (D:=sM q 0) N).part hT I w (by rw[P,<-q1,Q]);have R:=AA L K m2 (π:=p) (k:=p.length) (by have:=JU (π:=p) (t:=0) p.length (aU _);rwa[gp] at this);have S:=AA N K m3 (π:=q) (k:=q.length) (by have:=JU (π:=q) (t:=0) q.length (aU _);rwa[gp] at this);refine⟨K,⟨_,m1⟩,⟨_,R,?_⟩,λC O V h2=> ?_⟩
 .rw[S,P,kY q.length,kY p.length A.aA.length,q2]
 .obtain⟨m,U,hs⟩:=T7 hT hA hp hq vk O V h2;exact w.le hT I O hs U
end
section
variable {h:aN} {T F:Nat} {sb:Int->Int->Prop} (H:HM h T sb) {A:FSt} (hA:Can T F A) {p q:List Int} (hp:∀f∈p,0<=f/\f<(F:Int)) (hq:∀f∈q,0<=f/\f<(F:Int)) (vk:0<T) (hF:F<=300) (hn:A.aA.length+(p.length+1)+(q.length+1)<=1000000)
include H hA hp hq vk hF hn
theorem c438g:(∃f,f438 h A p q=some (f,true)/\Eqt T F sb A p q f/\f.aA.length<=A.aA.length+(p.length+1)+(q.length+1))\/
  (f438 h A p q=some (⟨[]⟩,false)/\∀C,Can T F C->Le sb A C->(∃k,xY C p=some k/\xY C q=some k)->False):=by
 have cp:=vh (T:=T) vk hp ⟨jQ 0,af⟩;have cq:=vh (T:=T) vk hq ⟨jQ 0,af⟩;have lp:=r7 p 0;have lq:=r7 q 0;have hl:=QT (A:=A) (B:=sM p 0) (D:=sM q 0);have ha0:=hA.ne;have a1:f442 A.aA h.Types h.bJ [] [] []=some ((),ids 0 A.aA.length,A.aA.map (·.dU),A.aA.map λx=>yS 0 x.cu):=by rw[aaZ (fr:=0) rfl rfl rfl af (hA.small af af)];simp
 have a2:f442 (sM p 0).aA h.Types h.bJ (ids 0 A.aA.length) (A.aA.map (·.dU)) (A.aA.map λx=>yS 0 x.cu)=
   some ((),ids 0 (A.aA.length+(p.length+1)),A.aA.map (·.dU)++(sM p 0).aA.map (·.dU),(A.aA.map λx=>yS 0 x.cu)++(sM p 0).aA.map λx=>yS A.aA.length x.cu):=by
  rw[aaZ (fr:=A.aA.length) (qH _ _) ai ai af (cp.small af af),lp];have:=IL 0 A.aA.length (p.length+1);rw[eO] at this;rw[this]
 have a3:f442 (sM q 0).aA h.Types h.bJ (ids 0 (A.aA.length+(p.length+1))) (A.aA.map (·.dU)++(sM p 0).aA.map (·.dU)) ((A.aA.map λx=>yS 0 x.cu)++(sM p 0).aA.map λx=>yS A.aA.length x.cu)=
   some ((),ids 0 (uz A (sM p 0) (sM q 0)).length,(uz A (sM p 0) (sM q 0)).map (·.dU),(uz A (sM p 0) (sM q 0)).map (·.cu)):=by
  rw[aaZ (fr:=A.aA.length+(p.length+1)) (qH _ _) (by simp[lp]) (by simp[lp]) af (cq.small af af),lq];have:=IL 0 (A.aA.length+(p.length+1)) (q.length+1);rw[eO] at this;rw[this,hl,lp,lq];unfold uz;simp[PX,nx,lp]
 generalize Q:uz A (sM p 0) (sM q 0)=l at *;have J0:JI T (AO F l.length) sb (lG l) l.length [] [] (ids 0 l.length) (l.map (·.dU)) (l.map (·.cu)) id (λ_=>0):=by
  have key:∀x,(G:x<l.length)->(0<=l[x].dU/\l[x].dU<(T:Int))/\AO F l.length l[x].cu:=by
   have g:∀(s:Nat) (B:FSt),Emb T F l s B->(z:s+B.aA.length<=l.length)->∀i,(L:i<B.aA.length)->(0<=(l[i+s]'(by omega)).dU/\(l[i+s]'(by omega)).dU<(T:Int))/\AO F l.length (l[i+s]'(by omega)).cu:=λs B E z i L=>by rw[(bQ.1 (E.get i L)).2];show(0<=(B.aA[i]).dU/\(B.aA[i]).dU<(T:Int))/\AO F l.length (yS s (B.aA[i]).cu);exact⟨E.can.tyr (cG L),(E.can.ao (cG L)).sh af⟩
   intro x G;have U:=G;rw[<-Q] at U;rcases NV U with⟨i,L,e⟩|⟨i,L,rfl⟩|⟨i,L,rfl⟩
   .have e:x=i:=e;subst e;exact g 0 A (Q▸aee hA) af _ L
   .exact g _ _ (Q▸aef cp) af i L
   .exact g _ _ (Q▸aeg cq) af i L
  refine JI.init H.to.refl rfl ai ai (λx G=> ?_) (λx G=> ?_) (λx _=>rfl) (λx _=>rfl)
  .rw[j9 G];exact(key x G).1
  .rw[j9 G];exact(key x G).2
 have R:l.length *F<=400000000:=by have:=nV (by omega:l.length<=1000000) hF;omega
 have hbd:Bd (lG l).sc l.length:=λx G r S=>by rw[Nh G] at S;obtain⟨a,ha,rfl⟩:=aD.1 S;have:=J0.ao x G;rw[j9 G] at this;have:=(this.ok a ha).2;show a.To.toNat<_;omega
 have w:∀C,Can T F C->Le sb A C->(∃k,xY C p=some k/\xY C q=some k)->∃m,Uj sb (lG l) l.length (eqnW A p q) (oP C) m:=λC K O P=>by obtain⟨m,_,z⟩:=T7 H.to hA hp hq vk K O P;rw[Q] at z;exact⟨m,z⟩
 have e0:(0:Int)=((0:Nat):Int):=rfl;have w1:((ids 0 A.aA.length).length:Int)=(A.aA.length:Int):=by rw[qH]
 have w2:((ids 0 (A.aA.length+(p.length+1))).length:Int)=((A.aA.length+(p.length+1):Nat):Int):=by rw[qH]
 have v1:wrap .i64 ((A.aA.length:Int)+(p.length:Int))=((A.aA.length+p.length:Nat):Int):=by rw[oy af af];omega
 have v2:wrap .i64 (((A.aA.length+(p.length+1):Nat):Int)+(q.length:Int))=((A.aA.length+(p.length+1)+q.length:Nat):Int):=by rw[oy af af];omega
 rcases c443 H af (by omega:0<l.length) (by omega:A.aA.length<l.length) R J0 with⟨p1,t1,r1,rep1,d1,V,J1⟩|⟨⟨p1,t1,r1,V⟩,I⟩
 .rcases c443 H af (by omega:A.aA.length<l.length) (by omega:A.aA.length+(p.length+1)<l.length) R J1 with⟨p2,t2,r2,rep2,d2,j2,J2⟩|⟨⟨p2,t2,r2,j2⟩,I⟩
  .rcases c443 H af (by omega:A.aA.length+p.length<l.length) (by omega:A.aA.length+(p.length+1)+q.length<l.length) R J2 with⟨p3,t3,r3,rep3,d3,j3,N⟩|⟨⟨p3,t3,r3,j3⟩,I⟩
   .obtain⟨p4,g⟩:=c444 (TL:=h.Types) (FL:=h.bJ) (d:=d3) N.la N.lt N.ao N.pi.rl N.pi.rr af af (by omega:0<l.length) N.pi;have hU:=N.uni hbd;have hz:=aej hU af;have he:=tri_eqt H.to hA hp hq vk (by rw[Q];exact hU);rw[Q] at he;refine .inl ⟨_,e438 ?_,he,af⟩;rw[e425 rfl,aj,RE af,aj,aj,RE af,aj,a1,cK,a2,cK,a3,cK,w1,w2,v1,v2,e0,V,cK,cond_neg (by rfl),j2,cK,cond_neg (by rfl),j3,cK,cond_neg (by rfl),g,cK]
   .refine .inr ⟨e438 ?_,λC K O P=> ?_⟩
    .rw[e425 rfl,aj,RE af,aj,aj,RE af,aj,a1,cK,a2,cK,a3,cK,w1,w2,v1,v2,e0,V,cK,cond_neg (by rfl),j2,cK,cond_neg (by rfl),j3,cK,cond_pos (by rfl)]
    .obtain⟨m,z⟩:=w C K O P;exact I _ m K.Rc z
  .refine .inr ⟨e438 ?_,λC K O P=> ?_⟩
   .rw[e425 rfl,aj,RE af,aj,aj,RE af,aj,a1,cK,a2,cK,a3,cK,w1,w2,v1,v2,e0,V,cK,cond_neg (by rfl),j2,cK,cond_pos (by rfl)]
   .obtain⟨m,z⟩:=w C K O P;exact I _ m K.Rc ⟨z.ty,z.ar,λr S=>z.eq r (cR _ S)⟩
 .refine .inr ⟨e438 ?_,λC K O P=> ?_⟩
  .rw[e425 rfl,aj,RE af,aj,aj,RE af,aj,a1,cK,a2,cK,a3,cK,w1,w2,v1,v2,e0,V,cK,cond_pos (by rfl)]
  .obtain⟨m,z⟩:=w C K O P;exact I _ m K.Rc ⟨z.ty,z.ar,λr S=>z.eq r (cR _ (cR _ S))⟩
end
end Go.Proofs.YtbnlhmaaccgbjaaGreatDoor.cl.pf
namespace Go.Proofs.YtbnlhmaaccgbjaaGreatDoor.cl.pf
open Go Go.AM
def Xo:List Int->Nat->List (List cD)->Nat×List (List cD)
 |[],n,w=>(n,w)
 |f::z,n,w=>match fa (w.getD n []) f with
  |some a=>Xo z a.To.toNat w
  |none=>Xo z w.length (w.set n (w.getD n []++[⟨f,(w.length:Nat)⟩])++[[]])
def zip0:∀{w:List Node} {G:List (List cD)},w.length=G.length->(∀x∈w,x.dU=0)->List.zipWith G2 w G=G.map (Node.mk 0)
 |[],[],_,_=>rfl
 |x::w,y::G,I,h=>by rw[List.zipWith_cons_cons,bw,zip0 (by simpa using I) λz K=>h z (dz _ K)];show(⟨x.dU,y⟩:Node)::_=_;rw[h x ai]
section
variable {F:Nat} {A B:List Int} (hA:∀f∈A,0<=f/\f<(F:Int)) (hB:∀f∈B,0<=f/\f<(F:Int)) (hAl:A.length<=1000) (hBl:B.length<=1000) (hF:F<=1000)
include hB hAl hBl hF in
theorem h553 {o4:FSt}:∀(k i n:Nat) (z:List (List cD)) (w:List Node),B.length=i+k->SI F A B n i z->w.length=z.length->(∀x∈w,x.dU=0)->
  Am B (n:Int) (i:Int) o4 w (z.map some)=some ((((Xo (B.drop i) n z).1:Nat):Int),(Xo (B.drop i) n z).2.map (Node.mk 0))/\SI F A B (Xo (B.drop i) n z).1 B.length (Xo (B.drop i) n z).2:=by
 intro k;induction k with
 |zero=>intro i n z w hi I O R;have e:i=B.length:=af;subst e;rw[rI];refine⟨adg ?_,I⟩;rw[cond_neg (by rw[aT];omega)];show x7 G2 _ _ _=_;rw[qd O,zip0 O R];rfl
 |succ k ih=>
  intro i n z w hi I O R;have K:=I.nlt;have hIle:=I.le;have G:i<B.length:=af;have hlen:=(I.aw n K).len;have S:(z.map (Node.mk 0))[n]? =some ⟨0,z.getD n []⟩:=by rw[dN,aK K,bC,aK K];rfl
  rw[iJ G]
  have pre:∀r,(bif(!(fr (z.getD n []) B[i]).2) then(
    check ((length w+length [(Node.mk 0 ([]:List cD))]) *32<=140737488355328/\length w+length [(Node.mk 0 ([]:List cD))]<=4611686018427387904) (
    AR (z.map some++[some []]) λU=>
    check (0<=(n:Int)/\toNat (n:Int)<length (w++[(Node.mk 0 ([]:List cD))])) (
    Wg U (toNat (n:Int)) λL P=>
    bA B (i:Int) λN=>
    check ((length L+length [(cD.mk N ((length w:Int)))]) *16<=140737488355328/\length L+length [(cD.mk N ((length w:Int)))]<=4611686018427387904) (
    check (0<=(n:Int)/\toNat (n:Int)<length (w++[(Node.mk 0 ([]:List cD))])) (
    check ((toNat (n:Int))<length P) (AR (List.set P (toNat (n:Int)) (some (L++[(cD.mk N ((length w:Int)))]))) λV=>
    Am B ((length w:Int)) ((i+1:Nat):Int) o4 (w++[(Node.mk 0 ([]:List cD))]) V)))))) else Am B (fr (z.getD n []) B[i]).1 ((i+1:Nat):Int) o4 w (z.map some))=some r->Am B (n:Int) (i:Int) o4 w (z.map some)=some r:=λr hr=>by
   refine adg ?_;rw[bP af,cond_pos (by rw[bB];omega),cO G];show x7 G2 _ _ _=_;rw[qd O,zip0 O R,c476 S (by show(z.getD n []).length<=_;omega),aj];exact hr
  unfold Xo;cases e:fa (z.getD n []) B[i] with
  |some a=>
   obtain⟨h1,h2⟩:=I.go hB G e;obtain⟨g1,g2⟩:=ih (i+1) a.To.toNat z w af h2 O R;refine⟨pre _ ?_,g2⟩;unfold fr;rw[e];simp only[];rw[cond_neg (by rfl)]
   have:((a.To.toNat:Nat):Int)=a.To:=af
   rw[this] at g1;exact g1
  |none=>
   have I2:=I.new hB G e;obtain⟨g1,g2⟩:=ih (i+1) z.length _ (w++[⟨0,[]⟩]) af I2 (by simp[O]) λx Q=>by
    rcases bu.1 Q with Q|Q
    .exact R x Q
    .simp at Q;subst Q;rfl
   refine⟨pre _ ?_,g2⟩;have em:z.map some++[some []]=(z++[[]]).map some:=by rw[cn];rfl
   have e1:(z++[[]]).getD n []=z.getD n []:=zO K;have e2:((z++[[]]).map some).set n (some (z.getD n []++[(⟨B[i],(z.length:Nat)⟩:cD)]))=(z.set n (z.getD n []++[(⟨B[i],(z.length:Nat)⟩:cD)])++[[]]).map some:=by rw[<-uN,yU _ _ K]
   unfold fr;rw[e];simp only[];rw[cond_pos (by rfl),cC _ af ai af,Cz,em,Bv aH,bg,NA aH,cO G,e1,cC _ af ai af,bU ⟨af,aH⟩,bU aH,List.set_set,Cz,O,e2];exact g1
theorem aa5 {p:List Int} {i:Nat} (L:i<p.length):(yR (p.take i)).set i [⟨p[i],((i+1:Nat):Int)⟩]++[[]]=yR (p.take (i+1)):=by
 have N:(p.take i).length=i:=by rw[fJ];omega
 have O:(p.take (i+1)).length=i+1:=by rw[fJ];omega
 have w:(yR (p.take i)).length=i+1:=by simp[yR,N]
 have c2:(yR (p.take (i+1))).length=i+2:=by simp[yR,O]
 apply kZ;intro j;have G:∀(k j:Nat),j<k+1->k<=p.length->(yR (p.take k))[j]? =some (if h:j<k then[⟨p.getD j 0,((j+1:Nat):Int)⟩] else[]):=λk j Q R=>by
  have P:(p.take k).length=k:=by rw[fJ];omega
  have I:j<(yR (p.take k)).length:=by simp[yR,P];omega
  rw[aK I];congr 1;have e:(yR (p.take k))[j]=(yR (p.take k)).getD j []:=by rw[bC,aK I];rfl
  rw[e];by_cases h:j<k
  .rw[Co af,kL h,List.getElem_take,bC,aK (by omega:j<p.length)];rfl
  .rw[EE af,rZ h]
 by_cases K:j<i+1
 .rw[fL (by simp[w];omega),nE,G (i+1) j af af,kL K];by_cases z:i=j
  .subst z;rw[aB rfl,aB af,bC,aK L];rfl
  .rw[au z,G i j af af,kL af]
 .by_cases z:j=i+1
  .subst z;rw[fK (by simp[w]),G (i+1) (i+1) af af,rZ af];simp[w]
  .rw[gM (by simp[w];omega),gM af]
theorem grw_ch {p:List Int}:∀(k i:Nat),p.length=i+k->Xo (p.drop i) i (yR (p.take i))=(p.length,yR p):=by intro k;induction k with
 |zero=>intro i G;have e:i=p.length:=af;subst e;rw[rI,gp];rfl
 |succ k I=>
  intro i G;have w:i<p.length:=af;have K:(p.take i).length=i:=by rw[fJ];omega
  have z:(yR (p.take i)).length=i+1:=by simp[yR,K]
  rw[iJ w];unfold Xo;have e:(yR (p.take i)).getD i []=[]:=EE af;rw[e];show Xo _ _ _=_;rw[z,dK,aa5 w];exact I (i+1) af
include hA hB hAl hBl hF
theorem abH {n:Nat} {z:List (List cD)} (I:SI F A B n B.length z) {V a:Nat} (R:V=min A.length n) (ha:a=max A.length n) {G:Gr} {K:Nat->Nat} (N:YY 1 F sb0 (lG (z.map (Node.mk 0))) z.length [(V,a)] G K):
  Shr F A B (nt G z.length (K 0)):=by
 have hIl:=I.len;have P:0<z.length:=af;have hc:=N.can P;have U:∀x,x<z.length->(lG (z.map (Node.mk 0))).sc x=(z.getD x []).map λa=>(a.bN,a.To.toNat):=λx L=>by rw[Nh (by simpa using L),kQ,bC,aK L];rfl
 have ZF:∀x,x<z.length->(lG (z.map (Node.mk 0))).ty x=0:=λx L=>by rw[SQ (by simpa using L),kQ]
 have q:K A.length=K n:=by
  have:=N.sol.eq (V,a) ai;simp only at this;by_cases h:A.length<=n
  .have e1:V=A.length:=af;have e2:a=n:=af;rw[<-e1,<-e2];exact this
  .have e1:V=n:=af;have e2:a=A.length:=af;rw[<-e1,<-e2];exact this.symm
 have O:∀{Q:List Int} {x y:Nat},x<z.length->sI G.sc (K 0) (K x)->YW z x Q y->Dx (oP (nt G z.length (K 0))) ((kB G z.length (K 0)).idxOf (K x)) Q=some ((kB G z.length (K 0)).idxOf (K y)):=by intro Q;induction Q with
  |nil=>intro x y _ _ h;cases h;rfl
  |cons f Q ih=>
   intro x y L hr h;obtain⟨w,hw,h⟩:=h;have hm:(f,w)∈(lG (z.map (Node.mk 0))).sc x:=by rw[U x L];exact aD.2 ⟨_,hw,ai⟩
   have S:=N.sol.ar x L _ hm;have hwl:w<z.length:=by have:=((I.aw x L).ok _ hw).2;simp only at this;omega
   have hx2:=(IZ N.go.bd (N.lt 0 P)).2 hr;have hx3:=Br (vH hx2);have hm3:(f,(kB G z.length (K 0)).idxOf (K w))∈kE (nt G z.length (K 0)) ((kB G z.length (K 0)).idxOf (K x)):=by rw[hx3];exact aD.2 ⟨_,S,rfl⟩
   show(match CF (kE _ _) f with|some k=>Dx _ k Q|none=>none)=_;rw[(CG (hc.Ay _)).2 hm3];exact ih hwl (hr.step S) h
 have i0:(kB G z.length (K 0)).idxOf (K 0)=0:=vU (vo N.go.bd (N.lt 0 P)).nd (yw N.go.bd (N.lt 0 P));have pA:=O P .root I.pa;have pB:=O P .root I.pb;rw[i0,q] at pA;rw[i0,gp] at pB;refine⟨hc,⟨_,pA,pB⟩,λC T' sb hT hC hk=> ?_⟩;obtain⟨k,k1,k2⟩:=hk;obtain⟨m,m0,m1,m2,m3⟩:=I.dD C T' k hC k1 k2;rw[Oa k2] at m2;refine le_zero hT hc hC ?_;have hl:(replicate C.aA.length (0:Int)).length=C.aA.length:=ai;have esc:(oP (AT C (replicate C.aA.length 0))).sc=(oP C).sc:=BY hl;have ety:∀y,(oP (AT C (replicate C.aA.length 0))).ty y=0:=λy=>by
  show rE _ y=0;by_cases hy:y<C.aA.length
  .rw[GH hl hy,bC,qa,aB hy];rfl
  .unfold rE;rw[gM (by rw[xq hl];omega)]
 refine N.le to0 P (aa1 hC) (m:=m) ⟨λx L=>⟨ZF x L,ety _⟩,λx L p hp=> ?_,λp hp=> ?_⟩ m0
 .rw[U x L] at hp;obtain⟨a,ha,rfl⟩:=aD.1 hp;rw[esc];exact m3 x L a ha
 .simp only[cv] at hp;subst hp;simp only;by_cases h:A.length<=n
  .rw[R,ha,wP h,Nat.max_eq_right h,m1,m2]
  .rw[R,ha,Nat.min_eq_right af,Nat.max_eq_left af,m1,m2]
theorem c544:∃f,f544 A B=some f/\Shr F A B f/\f.aA.length<=A.length+1+B.length:=by
 have a1:f553 A [⟨0,[]⟩] [some []]=some ((A.length:Int),(yR A).map (Node.mk 0)):=by have:=(h553 (F:=F) (A:=[]) (B:=A) hA ai hAl hF (o4:=⟨[]⟩) A.length 0 0 [[]] [⟨0,[]⟩] af (SI.init (A:=[]) ai) rfl ai).1;have e:=grw_ch (p:=A) A.length 0 af;have e0:yR (A.take 0)=[[]]:=rfl;rw[e0] at e;rw[e] at this;exact e553 this
 have hcl:(yR A).length=A.length+1:=by simp[yR]
 obtain⟨g1,I⟩:=h553 (F:=F) (A:=A) (B:=B) hB hAl hBl hF (o4:=⟨[]⟩) B.length 0 0 (yR A) ((yR A).map (Node.mk 0)) af (SI.init hA) ai λx L=>by obtain⟨y,_,rfl⟩:=aD.1 L;rfl
 rw[p9] at g1 I;have mm:∀O:List (List cD),(O.map (Node.mk 0)).map (λx=>some x.cu)=O.map some:=λO=>by rw[fo];rfl
 have a2:f553 B ((yR A).map (Node.mk 0)) (((yR A).map (Node.mk 0)).map (λx=>some x.cu))=some ((((Xo B 0 (yR A)).1:Nat):Int),(Xo B 0 (yR A)).2.map (Node.mk 0)):=by rw[mm];exact e553 g1
 generalize hn:(Xo B 0 (yR A)).1=n at *;generalize hz:(Xo B 0 (yR A)).2=w at *;have hIl:=I.len;have hIle:=I.le;have V:=I.nlt;have G:(w.map (Node.mk 0)).length=w.length:=ai;have K:∀x∈w.map (Node.mk 0),AW F (w.map (Node.mk 0)).length x.cu:=λx L=>by obtain⟨i,S⟩:=jO.1 L;have z:=(bQ.1 S).1;rw[G] at z⊢;rw[dN,aK z] at S;have e:Node.mk 0 w[i]=x:=eT S;have:=I.aw i z;rw[bC,aK z] at this;rw[<-e];exact this
 have U:w.length *F<=300000000:=by have:=nV (by omega:w.length<=3000) hF;omega
 have a3:=c449 (n:=w.length) af;have a4:=c450 (n:=w.length) (x:=A.length) (y:=n) af af V;obtain⟨out,ty,ar,rep,d,a5,ho,J⟩:=c451 (F:=F) (l:=w.map (Node.mk 0)) (lo:=min A.length n) (a:=max A.length n) af af (by rw[G];exact U) af af K;have N:∀c,(replicate w.length (0:Int)).getD c 0=0:=λc=>by rw[bC,qa];split<;>rfl
 obtain⟨g,O,a6,hg1,Iq,R⟩:=c453 (F:=F) (l:=w.map (Node.mk 0)) af af K J.pi.len ho J.pi.rl (types:=replicate w.length 0) ai (root:=0) af
 have Q:=Yh to0 K (U:=lG (w.map (Node.mk 0))) (λ_ _=>rfl) (λ_ _=>rfl) J (types:=replicate w.length 0) (λc hc=>by
  rw[N,N,SQ hc,kQ]
  exact⟨af,rfl,⟨rfl,rfl⟩,λu h1 h2 _=>⟨rfl,af⟩⟩) Iq R
 rw[G] at Q a5 a6;have hs:=abH hA hB hAl hBl hF I rfl rfl Q;have hzz:=aej Q af;refine⟨_,e544 ?_,hs,af⟩;have e0:(0:Int)=((0:Nat):Int):=rfl;rw[c414,aj,a1,mG,a2,mG,mm];show x7 G2 _ _ _=_;rw[qd ai,zip0 ai λx L=>by obtain⟨y,_,rfl⟩:=aD.1 L;rfl,G,a3,aj,a4,aj,a5,aj,bU ⟨af,by omega,by omega,af⟩,bg];have P:f453 (w.map (Node.mk 0)) out (replicate w.length 0) 0=_:=a6;rw[P,aj]
end
section
variable {h:aN} {T F:Nat} {sb:Int->Int->Prop} (H:HM h T sb) {A:FSt} (hA:Can T F A) {p q:List Int} (hp:∀f∈p,0<=f/\f<(F:Int)) (hq:∀f∈q,0<=f/\f<(F:Int)) (Ul:p.length<=1000) (hql:q.length<=1000) (vk:0<T) (hF:F<=300) (hn:A.aA.length<=900000)
include H hA hp hq Ul hql vk hF hn
theorem abr:(∃f,f438 h A p q=some (f,true)/\f537 h A p q=some (f,true)/\Eqt T F sb A p q f/\f.aA.length<=A.aA.length+(p.length+1)+(q.length+1))\/
  (f438 h A p q=some (⟨[]⟩,false)/\f537 h A p q=some (⟨[]⟩,false)/\∀C,Can T F C->Le sb A C->(∃k,xY C p=some k/\xY C q=some k)->False):=by
 obtain⟨e,e1,G,U⟩:=c544 (F:=F) hp hq Ul hql af;have I:=G.can.up (T':=T) vk;have P:∀f b,f440 h A e=some (f,b)->f537 h A p q=some (f,b):=λf b S=>e537 (by rw[e1,aj,S];rfl)
 rcases c438g H hA hp hq vk hF af with⟨f,K,z,V⟩|⟨K,z⟩<;>rcases c440 H hA I hF af with⟨N,L,w⟩|⟨L,w⟩
 .have:f=N:=Eqt.uniq H.to z ⟨w.can,w.l,(G.le H.to vk w.can).1 w.r,λC O Q R=>w.least C O Q ((G.le H.to vk O).2 R)⟩
  subst this;exact .inl ⟨f,K,P _ _ L,z,V⟩
 .exact(w f z.can z.l ((G.le H.to vk z.can).2 z.at_)).elim
 .exact(z N w.can w.l ((G.le H.to vk w.can).1 w.r)).elim
 .exact .inr ⟨K,P _ _ L,z⟩
end
