/- Build. -/
import Derived.Test.YtacapiamkgkkjaaGreatDoorClUl
import Derived.Test.YtacapiamkgkkjaaGreatDoorClTa
import Derived.Test.YtacapiamkgkkjaaGreatDoorClVb
set_option linter.all false
open Go.IntKind (wrap)
open Int (toNat)
open List (length replicate)
namespace Go.Proofs.YtacapiamkgkkjaaGreatDoor.cl.pf
open Go Go.AM
structure Kn (h:aV) (t:List Template) (d:bQ):Prop where
 ty:d.Op=1->0<=oE h d.Name
 tm:d.Op=2->∃(i:Nat) (x:Template),tpos t d.Name=(i:Int)/\t[i]? =some x
 ls:6<=d.Op->LT h
 pt:3<=d.Op->∀s∈d.Path,0<=jR h s
section
variable {h:aV} {T F:Nat} {sb:Int->Int->Prop} {cz:Int->Int} {val:Int->Int->Int} (H:HX h T F sb cz val) (hT:T<=1000) (hF:F<=300) {t u:List Template} (ht:t.length<=1000)
include H hT hF ht
theorem h507p {d:bQ} (hl:d.Path.length<=64):∀(xs:List bV) (i:Nat),d.Path.drop i=xs->
  (pJ t i h d=some false/\∀A w,mY d.Path d.Path.length i d h.Types h.bG u A w=some (false,A,w))\/
  ((∀s∈xs,0<=jR h s)/\(∀r,F6 t 0 h d=some r->pJ t i h d=some r)/\∀A w r,(eO (XU d.Kids h.Types h.bG u A w) λL I K=>some ((!L),I,K))=some r->mY d.Path d.Path.length i d h.Types h.bG u A w=some r):=by
 have U:=H.hv.fl;intro xs;induction xs with
 |nil=>
  intro i z;refine .inr ⟨ai,λr G=>PJ ?_,λA w r G=>K2 ?_⟩
  .rw[bg z,au];exact G
  .rw[bg z,au];exact G
 |cons x xs V=>
  intro i z;by_cases N:jR h x<0
  .refine .inl ⟨PJ ?_,λA w=>K2 ?_⟩
   .rw[aR z,aj,aK z,zZ _ _ af,ak,cond_pos (by rw[bN];exact N)]
   .rw[aR z,aj,aK z,show aV.mk h.Types h.bG=h from rfl,c363 _ _ af,ak,cond_pos (by rw[bN];exact N)]
  .have e1:∀r,pJ t ((i+1:Nat):Int) h d=some r->pJ t i h d=some r:=λr G=>by
    refine PJ ?_;rw[aR z,aj,aK z,zZ _ _ af,ak,cond_neg (by rw[bB];exact N),aN z af];exact G
   have R:∀A w r,mY d.Path d.Path.length ((i+1:Nat):Int) d h.Types h.bG u A w=some r->mY d.Path d.Path.length i d h.Types h.bG u A w=some r:=λA w r G=>by refine K2 ?_;rw[aR z,aj,aK z,show aV.mk h.Types h.bG=h from rfl,c363 _ _ af,ak,cond_neg (by rw[bB];exact N),aN z af];exact G
   rcases V (i+1) (aI z) with⟨O,P⟩|⟨S,O,P⟩
   .exact .inl ⟨e1 _ O,λA w=>R _ _ _ (P A w)⟩
   .exact .inr ⟨λs Q=>by
     rcases aJ.1 Q with rfl|Q
     .omega
     .exact S s Q,λr G=>e1 r (O r G),λA w r G=>R A w r (P A w r G)⟩
theorem h507k {d:bQ} (hl:d.Kids.length<=256) (L:∀k∈d.Kids,∃b,f507 h t k=some b/\(I1 t u->∀A z,Nz k h.Types h.bG u A z=some (b,A,z))/\(b=true->kN (Kn h t) k)):∀(xs:List bQ) (i:Nat),d.Kids.drop i=xs->
  ∃b,F6 t i h d=some b/\(I1 t u->∀A z,∃v,JO d.Kids d.Kids.length i h.Types h.bG u A z=some (v,A,z)/\decide (v>=0)= !b)/\(b=true->∀k∈xs,kN (Kn h t) k):=by
 intro xs;induction xs with
 |nil=>
  intro i w;refine⟨true,PK ?_,λ_ A z=>⟨-1,PS ?_,rfl⟩,λ_=>by simp⟩
  .rw[bg w,au]
  .rw[bg w,au]
 |cons x xs Q=>
  intro i w;obtain⟨b,N,O,P⟩:=L x (aP (bU w));have q:I1 t u->∀A z,acq x h.Types h.bG u A z=some (!b,A,z):=λG A z=>e560a (by rw[O G,bq])
  cases b with
  |false=>
   refine⟨false,PK ?_,λG A z=>⟨(i:Int),PS ?_,ai⟩,λI=>by cases I⟩
   .rw[aR w,aj,aK w,N,ak,cond_pos (by rfl)]
   .rw[aR w,aj,aK w,q G,bq,cond_pos (by rfl)]
  |true=>
   obtain⟨b,R,S,U⟩:=Q (i+1) (aI w);refine⟨b,PK ?_,λG A z=> ?_,λI k K=> ?_⟩
   .rw[aR w,aj,aK w,N,ak,cond_neg (by rfl),aN w af];exact R
   .obtain⟨v,V,v2⟩:=S G A z;refine⟨v,PS ?_,v2⟩;rw[aR w,aj,aK w,q G,bq,cond_neg (by rfl),aN w af];exact V
   .rcases aJ.1 K with rfl|K
    .exact P rfl
    .exact U I k K
theorem c507 (d:bQ):kN Fm d->∃b,f507 h t d=some b/\(I1 t u->∀A w,Nz d h.Types h.bG u A w=some (b,A,w))/\(b=true->kN (Kn h t) d):=by
 refine oK (P:=λd=>kN Fm d->∃b,f507 h t d=some b/\(I1 t u->∀A w,Nz d h.Types h.bG u A w=some (b,A,w))/\(b=true->kN (Kn h t) d)) (λd ih hd=> ?_) d;have hfl:=H.hv.fl;have htl:=H.tl;have fm:=hd.here;have hp:=fm.pl;have R:=fm.kl;have nk:d.Op=1\/d.Op=2\/d.Op=3->d.Kids=[]:=λh=>ou.1 (fm.kd.leaf h)
 have big:3<=d.Op->(6<=d.Op->LT h)->∃b,pJ t 0 h d=some b/\(I1 t u->∀A w,mY d.Path d.Path.length 0 d h.Types h.bG u A w=some (b,A,w))/\(b=true->kN (Kn h t) d):=λho hls=>by
  obtain⟨b,L,N,O⟩:=h507k H hT hF ht (d:=d) R (λk hkm=>ih k hkm (hd.kids k hkm)) d.Kids 0 rfl;rcases h507p H hT hF ht hp d.Path 0 rfl with⟨w1,w2⟩|⟨w0,w1,w2⟩
  .exact⟨false,w1,λ_=>w2,λP=>by cases P⟩
  .refine⟨b,w1 _ L,λz A w=>w2 A w _ ?_,λP=>⟨_,⟨λe=>by omega,λe=>by omega,hls,λ_=>w0⟩,O P⟩⟩;obtain⟨v,v1,v2⟩:=N z A w;have q:XU d.Kids h.Types h.bG u A w=some (!b,A,w):=e533c (by rw[e543c v1,bq,v2]);rw[q,bq,Bool.not_not]
 have K:6<=d.Op->∃b,(Option.bind (f516 h) λy205=>bif(!y205) then(some false) else(pJ t 0 h d))=some b/\(I1 t u->∀A w,(Option.bind (f529 h) λy208=>bif(y208.2 !=0) then(some (false,A,w)) else(mY d.Path d.Path.length 0 d h.Types h.bG u A w))=some (b,A,w))/\(b=true->kN (Kn h t) d):=λho=>by obtain⟨bl,j1,j2,fs,e,j3,j4⟩:=c516 H hT hF;cases bl with
  |false=>exact⟨false,by rw[j1,ak,cond_pos (by rfl)],λ_ A w=>by rw[j3,ak,j4,cond_pos (by rfl)],λP=>by cases P⟩
  |true=>obtain⟨b,L,N,O⟩:=big af (λ_=>j2 rfl);exact⟨b,by rw[j1,ak,cond_neg (by rfl)];exact L,λz A w=>by rw[j3,ak,j4,cond_neg (by rfl)];exact N z A w,O⟩
 have ho:=fm.op;have hh:aV.mk h.Types h.bG=h:=rfl;by_cases o1:d.Op=1
 .refine⟨decide (oE h d.Name>=0),e507 ?_,λ_ A w=>Ny ?_,λP=>⟨_,⟨λ_=>by simpa using P,λe=>by omega,λe=>by omega,λe=>by omega⟩,λk R=>by rw[nk (.inl o1)] at R;cases R⟩⟩
  .rw[cond_pos (by rw[o1];rfl),c364 _ _ af,ak]
  .rw[cond_pos (by rw[o1];rfl),hh,c352 _ _ af,ak]
 by_cases U:d.Op=2
 .have hc:=ZU d.Name t af;have S:=oA (λx:Template=>x.Name==d.Name) t 0;refine⟨decide (tpos t d.Name>=0),e507 ?_,λz A w=>Ny ?_,λP=>⟨_,⟨λe=>by omega,λ_=> ?_,λe=>by omega,λe=>by omega⟩,λk R=>by rw[nk (.inr (.inl U))] at R;cases R⟩⟩
  .rw[cond_neg (by rw[U];rfl),cond_pos (by rw[U];rfl),hc,ak]
  .obtain⟨k,b,V,q2⟩:=z.find d.Name;rw[cond_neg (by rw[U];rfl),cond_pos (by rw[U];rfl),V,bq];rcases q2 with⟨rfl,i,x,q3,_⟩|⟨rfl,q3⟩
   .rw[q3]
    have:decide ((i:Int)>=0)=true:=by rw[bN];omega
    rw[this]
   .rw[q3];rfl
  .rcases S with⟨V,_⟩|⟨j,x,V,q2,_⟩
   .exfalso;have V:tpos t d.Name= -1:=V;rw[V] at P;simp at P
   .exact⟨j,x,V.trans (by rw[eY]),q2⟩
 by_cases Q:d.Op=6
 .obtain⟨b,L,N,O⟩:=K af;refine⟨b,e507 ?_,λz A w=>Ny ?_,O⟩
  .rw[cond_neg (by rw[Q];rfl),cond_neg (by rw[Q];rfl),cond_pos (by rw[Q];rfl),cond_pos (by rw[Q];rfl)];exact L
  .rw[cond_neg (by rw[Q];rfl),cond_neg (by rw[Q];rfl),cond_pos (by rw[Q];rfl),cond_pos (by rw[Q];rfl)];exact N z A w
 by_cases G:d.Op=7
 .obtain⟨b,L,N,O⟩:=K af;refine⟨b,e507 ?_,λz A w=>Ny ?_,O⟩
  .rw[cond_neg (by rw[G];rfl),cond_neg (by rw[G];rfl),cond_neg (by rw[G];rfl),cond_pos (by rw[G];rfl),cond_pos (by rw[G];rfl)];exact L
  .rw[cond_neg (by rw[G];rfl),cond_neg (by rw[G];rfl),cond_neg (by rw[G];rfl),cond_pos (by rw[G];rfl),cond_pos (by rw[G];rfl)];exact N z A w
 by_cases I:d.Op=8
 .obtain⟨b,L,N,O⟩:=K af;refine⟨b,e507 ?_,λz A w=>Ny ?_,O⟩
  .rw[cond_neg (by rw[I];rfl),cond_neg (by rw[I];rfl),cond_neg (by rw[I];rfl),cond_neg (by rw[I];rfl),cond_pos (by rw[I];rfl)];exact L
  .rw[cond_neg (by rw[I];rfl),cond_neg (by rw[I];rfl),cond_neg (by rw[I];rfl),cond_neg (by rw[I];rfl),cond_pos (by rw[I];rfl)];exact N z A w
 .obtain⟨b,L,N,O⟩:=big af (λe=>by omega);have ne:∀k:Int,d.Op≠k->(d.Op==k)=false:=λk R=>by simpa using R
  refine⟨b,e507 ?_,λz A w=>Ny ?_,O⟩
  .rw[ne 1 o1,au,ne 2 U,au,ne 6 Q,au,ne 7 G,au,ne 8 I,au];exact L
  .rw[ne 1 o1,au,ne 2 U,au,ne 6 Q,au,ne 7 G,au,ne 8 I,au];exact N z A w
end
end Go.Proofs.YtacapiamkgkkjaaGreatDoor.cl.pf
namespace Go.Proofs.YtacapiamkgkkjaaGreatDoor.cl.pf
open Go Go.AM
def UZ:∀(k:Nat) (w:List Int) (i:Nat) (h:i<w.length),(Gh k w)[i]? =some ⟨0,[⟨w[i],(k+i+1:Nat)⟩]⟩
 |k,f::w,0,h=>by simp[Gh]
 |k,f::w,i+1,h=>by simp only[Gh,sB,EG];rw[UZ (k+1) w i (by simpa using h)];congr 4;omega
def Gi {p:List Int} {f:FSt}:(CZ p f).az.length=p.length+f.az.length:=by simp[CZ,Cj]
def U0 {p:List Int} {f:FSt} {i:Nat} (h:i<p.length):(CZ p f).az[i]? =some ⟨0,[⟨p[i],(i+1:Nat)⟩]⟩:=by unfold CZ;rw[fM (by rw[Cj];exact h),UZ 0 p i h,eY]
def U1 {p:List Int} {f:FSt} {j:Nat}:(CZ p f).az[p.length+j]? =(f.az[j]?).map (udN p.length):=by unfold CZ;rw[e7 (by rw[Cj];omega),Cj,Nat.add_sub_cancel_left,dV]
def JP {p:List Int} {f:FSt} {i:Nat} (h:i<p.length):lU (CZ p f) i=[(p[i],i+1)]:=by unfold lU;rw[U0 h];simp[scN]
def und_tyL {p:List Int} {f:FSt} {i:Nat} (h:i<p.length):tU (CZ p f) i=0:=by unfold tU;rw[U0 h]
def und_tyR {p:List Int} {f:FSt} {j:Nat}:tU (CZ p f) (p.length+j)=tU f j:=by unfold tU;rw[U1];cases f.az[j]? <;>rfl
def abC (f:FSt):Prop:=∀x∈f.az,∀a∈x.cn,0<=a.To/\a.To<=1000000
def JQ {p:List Int} (hp:p.length<=1000000) {f:FSt} (z:abC f) {j:Nat}:lU (CZ p f) (p.length+j)=(lU f j).map λq=>(q.1,p.length+q.2):=by unfold lU;rw[U1];cases G:f.az[j]? with
 |none=>rfl
 |some x=>
  show scN (udN p.length x)=(scN x).map _;unfold scN udN;rw[fF,fF];refine iK λa w=> ?_
  obtain⟨I,K⟩:=z x (aP G) a w;simp only[Function.comp];rw[show wrap .i64 (a.To+(p.length:Int))=a.To+(p.length:Int) from CT af af];congr 1;omega
def OB {sc sc':Nat->List (Int×Nat)} {n:Nat} {L:List Nat} (w:∀y∈L,y<n) (G:∀y,sc' (n+y)=(sc y).map λq=>(q.1,n+q.2)):∀(k x:Nat) (o:List Nat),nZ sc' k (n+x) (L++o.map (n+ ·))=L++(nZ sc k x o).map (n+ ·)
 |0,x,o=>rfl
 |k+1,x,o=>by
  have z:n+x∈L++o.map (n+ ·)↔x∈o:=by
   rw[bf];constructor
   .rintro (h|h)
    .have:=w _ h;omega
    .obtain⟨y,K,e⟩:=aG.1 h
     have:y=x:=af
     exact this▸K
   .exact λh=> .inr (jq h)
  unfold nZ;by_cases h:x∈o
  .rw[aC h,aC (z.2 h)]
  .rw[aA h,aA (λI=>h (z.1 I)),G x];have key:∀(l:List (Int×Nat)) (o:List Nat),(l.map λq=>(q.1,n+q.2)).foldl (λo p=>nZ sc' k p.2 o) (L++o.map (n+ ·))=L++(l.foldl (λo p=>nZ sc k p.2 o) o).map (n+ ·):=by
    intro l;induction l with
    |nil=>intro o;rfl
    |cons q l N=>intro o;simp only[bM,gA];rw[OB w G k q.2 o];exact N _
   have:=key (sc x) (o++[x]);rw[cE,List.map_singleton,<-dz] at this;exact this
def und_vis {T F:Nat} {p:List Int} (hp:p.length<=1000000) {f:FSt} (w:Can T F f) (ht:abC f):∀(j i:Nat),p.length=i+j->nZ (lU (CZ p f)) (f.az.length+1+j) i (List.range i)=List.range (p.length+f.az.length):=by intro j;induction j with
 |zero=>intro i z;have e:i=p.length:=af;have:=OB (sc:=lU f) (sc':=lU (CZ p f)) (n:=p.length) (L:=List.range p.length) (λy I=>gL.1 I) (λy=>JQ hp ht) (f.az.length+1) 0 [];rw[fN,eP] at this;rw[e,mO];refine Eq.trans this ?_;have G:nZ (lU f) (f.az.length+1) 0 []=List.range f.az.length:=w.ord;rw[G,<-xg]
 |succ j K=>intro i z;rw[show f.az.length+1+(j+1)=(f.az.length+1+j)+1 from rfl,nZ,aA ai,JP af,<-lF];exact K (i+1) af
def und_go {T F:Nat} (hT:0<T) {p:List Int} (hp:p.length<=1000000) (hπ:∀g∈p,0<=g/\g<(F:Int)) {f:FSt} (L:Can T F f) (ht:abC f):GO T F (qS (CZ p f)) (CZ p f).az.length:=by
 have hn:=L.ne;have hg:=L.go;rw[Gi];have N:∀i,i<p.length+f.az.length->i<p.length\/∃j,j<f.az.length/\i=p.length+j:=λi z=>by
  by_cases h:i<p.length
  .exact .inl h
  .exact .inr ⟨i-p.length,by omega,af⟩
 refine⟨λi z q hq=> ?_,λi z=> ?_,λi z q hq=> ?_,λi z=> ?_⟩<;>rcases N i z with h|⟨j,G,rfl⟩
 .have hq:q∈lU (CZ p f) i:=hq;rw[JP h] at hq;simp at hq;subst hq;show i+1<_;omega
 .have hq:q∈lU (CZ p f) (p.length+j):=hq;rw[JQ hp ht] at hq;obtain⟨I,w,rfl⟩:=aG.1 hq;have:=hg.bd j G I w;show p.length+I.2<_;omega
 .show CU (lU _ i);rw[JP h];exact sI _ _
 .show CU (lU _ _);rw[JQ hp ht];exact List.Pairwise.map _ (λa b K=>K) (hg.zW j G)
 .have hq:q∈lU (CZ p f) i:=hq;rw[JP h] at hq;simp at hq;subst hq;exact hπ _ (cG h)
 .have hq:q∈lU (CZ p f) (p.length+j):=hq;rw[JQ hp ht] at hq;obtain⟨I,w,rfl⟩:=aG.1 hq;exact hg.ft j G I w
 .show 0<=tU _ i/\tU _ i<_;rw[und_tyL h];omega
 .show 0<=tU _ _/\tU _ _<_;rw[und_tyR];exact hg.tp j G
def Zw {T F:Nat} (hT:0<T) {p:List Int} (hp:p.length<=1000000) (hπ:∀g∈p,0<=g/\g<(F:Int)) {f:FSt} (I:Can T F f) (ht:abC f):Can T F (CZ p f):=by
 have hn:=I.ne;refine DP (by rw[Gi];omega) (und_go hT hp hπ I ht) (λx w a z=> ?_) ?_
 .unfold CZ at w;rcases bf.1 w with w|w
  .have key:∀(k:Nat) (G:List Int),∀x∈Gh k G,∀a∈x.cn,0<=a.To:=by
    intro k G;induction G generalizing k with
    |nil=>intro x w;cases w
    |cons g G N=>
     intro x w a z;rcases aJ.1 w with rfl|w
     .simp at z;subst z;show(0:Int)<=((k+1:Nat):Int);omega
     .exact N _ x w a z
   exact key 0 p x w a z
  .obtain⟨y,L,rfl⟩:=aG.1 w;obtain⟨b,K,rfl⟩:=aG.1 z;obtain⟨O,P⟩:=ht y L b K;show 0<=wrap .i64 (b.To+(p.length:Int));rw[show wrap .i64 (b.To+(p.length:Int))=b.To+(p.length:Int) from CT af af];omega
 .rw[Gi];have:=und_vis hp I ht p.length 0 af;rw[show f.az.length+1+p.length=p.length+f.az.length+1 from by omega] at this;exact this
end Go.Proofs.YtacapiamkgkkjaaGreatDoor.cl.pf
namespace Go.Proofs.YtacapiamkgkkjaaGreatDoor.cl.pf
open Go Go.AM
def to_ok {T F:Nat} {f:FSt} (z:Can T F f) (hn:f.az.length<=1000000) (hF:F<=1000000):abC f:=λx G a w=>(z.small hn hF x G).2 a w
section
variable {h:aV} {T F:Nat} {sb:Int->Int->Prop} (H:HM h T sb) {A:FSt} (hA:Can T F A) {g:FSt} (hg:Can T F g) (hT:0<T) (hF:F<=300) {p:List Int} (hπ:∀x∈p,0<=x/\x<(F:Int)) (hn:A.az.length+(p.length+g.az.length)<=1000000)
include H hA hg hT hF hπ hn
theorem at_same:(∃f,f542 h A p g=some (f,true)/\f536 h A p g=some (f,true)/\Lub T F sb A (CZ p g) f)\/
  (f542 h A p g=some (⟨[]⟩,false)/\f536 h A p g=some (⟨[]⟩,false)/\∀C,Can T F C->Le sb A C->Le sb (CZ p g) C->False):=by
 have I:=to_ok hg af af;have K:=Zw hT af hπ hg I;have L:∀x∈g.az,x.cn.length<=1000000:=λx R=>(hg.small af af x R).1
 have S:=c426g (p:=p) (f:=g) af af L;have U:=c430g (p:=p) (f:=g) af af L;have N:A.az.length+(CZ p g).az.length<=1000000:=by rw[Gi];exact hn
 have O:∀f b,f433 h A (CZ p g)=some (f,b)->f542 h A p g=some (f,b):=λf b e=>e542 (by rw[S,ak,e];rfl)
 have P:∀f b,f440 h A (CZ p g)=some (f,b)->f536 h A p g=some (f,b):=λf b e=>e536 (by rw[U,ak,e];rfl)
 rcases c433 H hA K af N with⟨f,e1,w⟩|⟨e1,w⟩<;>rcases c440 H hA K hF N with⟨Q,G,z⟩|⟨G,z⟩
 .have:=Lub.uniq H.to hA K w z;subst this;exact .inl ⟨f,O _ _ e1,P _ _ G,w⟩
 .exact(z f w.can w.l w.r).elim
 .exact(w Q z.can z.l z.r).elim
 .exact .inr ⟨O _ _ e1,P _ _ G,w⟩
end
end Go.Proofs.YtacapiamkgkkjaaGreatDoor.cl.pf
namespace Go.Proofs.YtacapiamkgkkjaaGreatDoor.cl.pf
open Go Go.AM
structure Eqt (T F:Nat) (sb:Int->Int->Prop) (A:FSt) (p q:List Int) (f:FSt):Prop where
 can:Can T F f
 l:Le sb A f
 at_:∃k,Gl f p=some k/\Gl f q=some k
 least:∀C,Can T F C->Le sb A C->(∃k,Gl C p=some k/\Gl C q=some k)->Le sb f C
def Eqt.uniq {T F:Nat} {sb:Int->Int->Prop} (hT:TO T sb) {A:FSt} {p q:List Int} {f g:FSt} (w:Eqt T F sb A p q f) (z:Eqt T F sb A p q g):f=g:=
 Le.anti hT w.can z.can (w.least g z.can z.l z.at_) (z.least f w.can w.l w.at_)
structure Emb (T F:Nat) (l:List Node) (s:Nat) (B:FSt):Prop where
 can:Can T F B
 get:∀i,(hi:i<B.az.length)->l[i+s]? =some (QH s B.az[i])
section
variable {T F:Nat} {l:List Node} {s:Nat} {B:FSt} (h:Emb T F l s B)
include h
theorem Emb.lt {i:Nat} (w:i<B.az.length):i+s<l.length:=(bu.1 (h.get i w)).1
theorem Emb.sc {i:Nat} (w:i<B.az.length):(lG l).sc (i+s)=(lU B i).map λp=>(p.1,p.2+s):=by rw[NT (h.lt w),(bu.1 (h.get i w)).2,wX w];exact Y9 (h.can.ao (cG w))
theorem Emb.ty {i:Nat} (w:i<B.az.length):(lG l).ty (i+s)=tU B i:=by rw[TN (h.lt w),(bu.1 (h.get i w)).2,AI w];rfl
theorem Emb.sol {sb:Int->Int->Prop} {C:FSt} {G m:Nat->Nat} (z:∀i,i<B.az.length->m (i+s)=G i) (I:Gp sb (qS B) 0 (qS C) 0 G) {i:Nat} (w:i<B.az.length):
  sb ((lG l).ty (i+s)) ((qS C).ty (m (i+s)))/\∀p∈(lG l).sc (i+s),(p.1,m p.2)∈(qS C).sc (m (i+s)):=by
 have:=I.2 i (h.can.Uv w);rw[z i w,h.ty w,h.sc w];refine⟨this.1,λp hp=> ?_⟩;obtain⟨q,hq,rfl⟩:=aG.1 hp;simp only;rw[z q.2 (h.can.bd i w q hq)];exact this.2 q hq
theorem Emb.part {sb:Int->Int->Prop} (hT:TO T sb) (I:0<l.length) {W:List (Nat×Nat)} {G:Gr} {w:Nat->Nat} (K:ZJ T F sb (lG l) l.length W G w) (L:w s=w 0):
  Gp sb (qS B) 0 (qS (nU G l.length (w 0))) 0 (λi=>(kU G l.length (w 0)).idxOf (w (i+s))):=by
 refine K.part hT I (A:=qS B) (s:=0) (e:=λi=>i+s) (λi z=> ?_) (by simpa using L);have z:=h.can.rlt z;exact⟨h.lt z,h.ty z,h.sc z⟩
end
def uV (A B D:FSt):List Node:=A.az.map (QH 0)++B.az.map (QH A.az.length)++D.az.map (QH (A.az.length+B.az.length))
def afs {T F:Nat} {sb:Int->Int->Prop} {U:Gr} {n:Nat} {W:List (Nat×Nat)} {G:Gr} {z:Nat->Nat} (w:ZJ T F sb U n W G z) (I:0<n):(nU G n (z 0)).az.length<=n:=by rw[Ko];have:=vJ w.go.bd (w.lt 0 I);exact yR this.nd this.lt
section
variable {T F:Nat} {A B D:FSt} (hA:Can T F A) (hB:Can T F B) (hD:Can T F D)
theorem RR:(uV A B D).length=A.az.length+B.az.length+D.az.length:=by simp[uV];omega
include hA in
theorem afo:Emb T F (uV A B D) 0 A:=⟨hA,λi w=>by
 unfold uV
 rw[dz,fM (by simpa using w),dV,mO,aM w];rfl⟩
include hB in
theorem afp:Emb T F (uV A B D) A.az.length B:=⟨hB,λi w=>by
 unfold uV
 rw[dz,e7 ai,bI,mF,fM (by simpa using w),dV,aM w];rfl⟩
include hD in
theorem afq:Emb T F (uV A B D) (A.az.length+B.az.length) D:=⟨hD,λi w=>by
 unfold uV
 rw[e7 ai,bR,bI,bI,mF,dV,aM w];rfl⟩
theorem Oy {x:Nat} (z:x<(uV A B D).length):(∃i,i<A.az.length/\x=i+0)\/(∃i,i<B.az.length/\x=i+A.az.length)\/∃i,i<D.az.length/\x=i+(A.az.length+B.az.length):=by
 rw[RR] at z;by_cases w:x<A.az.length
 .exact .inl ⟨x,w,rfl⟩
 .by_cases G:x<A.az.length+B.az.length
  .exact .inr (.inl ⟨x-A.az.length,by omega,af⟩)
  .exact .inr (.inr ⟨x-(A.az.length+B.az.length),by omega,af⟩)
include hA hB hD
theorem tri_sol {sb:Int->Int->Prop} {C:FSt} {L G I:Nat->Nat} (R:Gp sb (qS A) 0 (qS C) 0 L) (S:Gp sb (qS B) 0 (qS C) 0 G) (U:Gp sb (qS D) 0 (qS C) 0 I) {i j:Nat} (w:i<B.az.length) (hj:j<D.az.length) (e:G i=I j):
  ∃m,m 0=0/\U8 sb (lG (uV A B D)) (uV A B D).length ([(0,A.az.length)]++[(A.az.length,A.az.length+B.az.length)]++[(A.az.length+i,A.az.length+B.az.length+j)]) (qS C) m:=by
 have a0:=hA.ne;have b0:=hB.ne;have d0:=hD.ne;generalize K:(λx=>if x<A.az.length then L x else if x<A.az.length+B.az.length then G (x-A.az.length) else I (x-(A.az.length+B.az.length)))=m;have V:∀i,i<A.az.length->m (i+0)=L i:=λi w=>by rw[<-K];simp only[mO];rw[aC w]
 have N:∀i,i<B.az.length->m (i+A.az.length)=G i:=λi w=>by rw[<-K];simp only;rw[aA af,aC af,mF]
 have O:∀i,i<D.az.length->m (i+(A.az.length+B.az.length))=I i:=λi w=>by rw[<-K];simp only;rw[aA af,aA af,mF]
 have P:=V 0 a0;have Q:=N 0 b0;have r3:=O 0 d0;rw[R.1] at P;rw[eY,S.1] at Q;rw[eY,U.1] at r3;have key:∀x,x<(uV A B D).length->sb ((lG (uV A B D)).ty x) ((qS C).ty (m x))/\∀p∈(lG (uV A B D)).sc x,(p.1,m p.2)∈(qS C).sc (m x):=λx z=>by
  rcases Oy z with⟨i,w,rfl⟩|⟨i,w,rfl⟩|⟨i,w,rfl⟩
  .exact(afo hA).sol V R w
  .exact(afp hB).sol N S w
  .exact(afq hD).sol O U w
 refine⟨m,P,λx z=>(key x z).1,λx z=>(key x z).2,λp hp=> ?_⟩;simp only[gB,dU,aJ,mG,qp] at hp;rcases hp with rfl|rfl|rfl
 .rw[Q];exact P
 .show m A.az.length=m (A.az.length+B.az.length);rw[Q,r3]
 .show m (A.az.length+i)=m (A.az.length+B.az.length+j);have e1:=N i w;have e2:=O j hj;rw[lQ A.az.length i,lQ (A.az.length+B.az.length) j,e1,e2,e]
end
section
variable {T F:Nat} {sb:Int->Int->Prop} (hT:TO T sb) {A:FSt} (hA:Can T F A) {p q:List Int} (hp:∀f∈p,0<=f/\f<(F:Int)) (hq:∀f∈q,0<=f/\f<(F:Int)) (AS:0<T)
include hT hA hp hq AS
abbrev eqnW (A:FSt) (p q:List Int):List (Nat×Nat):=[(0,A.az.length)]++[(A.az.length,A.az.length+(p.length+1))]++[(A.az.length+p.length,A.az.length+(p.length+1)+q.length)]
theorem UY {C:FSt} (w:Can T F C) (G:Le sb A C) (R:∃k,Gl C p=some k/\Gl C q=some k):
  ∃m,m 0=0/\U8 sb (lG (uV A (tK p 0) (tK q 0))) (uV A (tK p 0) (tK q 0)).length (eqnW A p q) (qS C) m:=by
 obtain⟨V,G⟩:=G;obtain⟨k,I,K⟩:=R;have O:=vF (T:=T) AS hp ⟨mN 0,af⟩;have P:=vF (T:=T) AS hq ⟨mN 0,af⟩;have S:=sM p 0;have U:=sM q 0;have top:∀k,Gl C p=some k\/Gl C q=some k->sb 0 (tU C k):=λk z=>by
  have:tH (lU C) 0 k:=by rcases z with z|z<;>exact OR (λi _=>w.zW i) _ 0 _ .root z
  have:=w.go.tp _ (w.rlt this);exact hT.top this.1 this.2
 obtain⟨mp,Q⟩:=(abX hT hp ⟨mN 0,af⟩ w).2 ⟨k,I,top k (.inl I)⟩;obtain⟨mq,eq⟩:=(abX hT hq ⟨mN 0,af⟩ w).2 ⟨k,K,top k (.inr K)⟩;have L:=Fl O w Q (π:=p) (k:=p.length) (by have:=Kr (π:=p) (t:=0) p.length (aQ _);rwa[fZ] at this);have N:=Fl P w eq (π:=q) (k:=q.length) (by have:=Kr (π:=q) (t:=0) q.length (aQ _);rwa[fZ] at this);rw[I] at L;rw[K] at N;have:=tri_sol hA O P G Q eq (i:=p.length) (j:=q.length) af af (fc (L.symm.trans N));rw[S] at this;exact this
theorem tri_eqt {G:Gr} {z:Nat->Nat} (w:ZJ T F sb (lG (uV A (tK p 0) (tK q 0))) (uV A (tK p 0) (tK q 0)).length (eqnW A p q) G z):
  Eqt T F sb A p q (nU G (uV A (tK p 0) (tK q 0)).length (z 0)):=by
 have L:=vF (T:=T) AS hp ⟨mN 0,af⟩;have N:=vF (T:=T) AS hq ⟨mN 0,af⟩;have P:=sM p 0;have lq:=sM q 0;have I:0<(uV A (tK p 0) (tK q 0)).length:=by rw[RR];have:=hA.ne;omega
 have Q:z 0=z A.az.length:=w.sol.eq (0,A.az.length) ai;have q1:z A.az.length=z (A.az.length+(p.length+1)):=w.sol.eq (A.az.length,A.az.length+(p.length+1)) ai;have q2:z (A.az.length+p.length)=z (A.az.length+(p.length+1)+q.length):=w.sol.eq (A.az.length+p.length,A.az.length+(p.length+1)+q.length) ai;have K:=w.can I;have m1:=(afo hA).part hT I w (s:=0) rfl;have m2:=(afp L).part hT I w Q.symm;have m3:=(afq (D:=tK q 0) N).part hT I w (by rw[P,<-q1,Q]);have R:=Fl L K m2 (π:=p) (k:=p.length) (by have:=Kr (π:=p) (t:=0) p.length (aQ _);rwa[fZ] at this);have S:=Fl N K m3 (π:=q) (k:=q.length) (by have:=Kr (π:=q) (t:=0) q.length (aQ _);rwa[fZ] at this);refine⟨K,⟨_,m1⟩,⟨_,R,?_⟩,λC O V h2=> ?_⟩
 .rw[S,P,lQ q.length,lQ p.length A.az.length,q2]
 .obtain⟨m,U,hs⟩:=UY hT hA hp hq AS O V h2;exact w.le hT I O hs U
end
section
variable {h:aV} {T F:Nat} {sb:Int->Int->Prop} (H:HM h T sb) {A:FSt} (hA:Can T F A) {p q:List Int} (hp:∀f∈p,0<=f/\f<(F:Int)) (hq:∀f∈q,0<=f/\f<(F:Int)) (AS:0<T) (hF:F<=300) (hn:A.az.length+(p.length+1)+(q.length+1)<=1000000)
include H hA hp hq AS hF hn
theorem c438g:(∃f,f438 h A p q=some (f,true)/\Eqt T F sb A p q f/\f.az.length<=A.az.length+(p.length+1)+(q.length+1))\/
  (f438 h A p q=some (⟨[]⟩,false)/\∀C,Can T F C->Le sb A C->(∃k,Gl C p=some k/\Gl C q=some k)->False):=by
 have cp:=vF (T:=T) AS hp ⟨mN 0,af⟩;have cq:=vF (T:=T) AS hq ⟨mN 0,af⟩;have lp:=sM p 0;have lq:=sM q 0;have hl:=RR (A:=A) (B:=tK p 0) (D:=tK q 0);have ha0:=hA.ne;have a1:f442 A.az h.Types h.bG [] [] []=some ((),ids 0 A.az.length,A.az.map (·.eF),A.az.map λx=>zj 0 x.cn):=by rw[abQ (fr:=0) rfl rfl rfl af (hA.small af af)];simp
 have a2:f442 (tK p 0).az h.Types h.bG (ids 0 A.az.length) (A.az.map (·.eF)) (A.az.map λx=>zj 0 x.cn)=
   some ((),ids 0 (A.az.length+(p.length+1)),A.az.map (·.eF)++(tK p 0).az.map (·.eF),(A.az.map λx=>zj 0 x.cn)++(tK p 0).az.map λx=>zj A.az.length x.cn):=by
  rw[abQ (fr:=A.az.length) (rE _ _) ai ai af (cp.small af af),lp];have:=Jh 0 A.az.length (p.length+1);rw[eY] at this;rw[this]
 have a3:f442 (tK q 0).az h.Types h.bG (ids 0 (A.az.length+(p.length+1))) (A.az.map (·.eF)++(tK p 0).az.map (·.eF)) ((A.az.map λx=>zj 0 x.cn)++(tK p 0).az.map λx=>zj A.az.length x.cn)=
   some ((),ids 0 (uV A (tK p 0) (tK q 0)).length,(uV A (tK p 0) (tK q 0)).map (·.eF),(uV A (tK p 0) (tK q 0)).map (·.cn)):=by
  rw[abQ (fr:=A.az.length+(p.length+1)) (rE _ _) (by simp[lp]) (by simp[lp]) af (cq.small af af),lq];have:=Jh 0 (A.az.length+(p.length+1)) (q.length+1);rw[eY] at this;rw[this,hl,lp,lq];unfold uV;simp[QH,nW,lp]
 generalize Q:uV A (tK p 0) (tK q 0)=l at *;have J0:JI T (AO F l.length) sb (lG l) l.length [] [] (ids 0 l.length) (l.map (·.eF)) (l.map (·.cn)) id (λ_=>0):=by
  have key:∀x,(G:x<l.length)->(0<=l[x].eF/\l[x].eF<(T:Int))/\AO F l.length l[x].cn:=by
   have g:∀(s:Nat) (B:FSt),Emb T F l s B->(z:s+B.az.length<=l.length)->∀i,(L:i<B.az.length)->(0<=(l[i+s]'(by omega)).eF/\(l[i+s]'(by omega)).eF<(T:Int))/\AO F l.length (l[i+s]'(by omega)).cn:=λs B E z i L=>by rw[(bu.1 (E.get i L)).2];show(0<=(B.az[i]).eF/\(B.az[i]).eF<(T:Int))/\AO F l.length (zj s (B.az[i]).cn);exact⟨E.can.tyr (cG L),(E.can.ao (cG L)).sh af⟩
   intro x G;have U:=G;rw[<-Q] at U;rcases Oy U with⟨i,L,e⟩|⟨i,L,rfl⟩|⟨i,L,rfl⟩
   .have e:x=i:=e;subst e;exact g 0 A (Q▸afo hA) af _ L
   .exact g _ _ (Q▸afp cp) af i L
   .exact g _ _ (Q▸afq cq) af i L
  refine JI.init H.to.refl rfl ai ai (λx G=> ?_) (λx G=> ?_) (λx _=>rfl) (λx _=>rfl)
  .rw[kH G];exact(key x G).1
  .rw[kH G];exact(key x G).2
 have R:l.length *F<=400000000:=by have:=ow (by omega:l.length<=1000000) hF;omega
 have hbd:Bd (lG l).sc l.length:=λx G r S=>by rw[NT G] at S;obtain⟨a,ha,rfl⟩:=aG.1 S;have:=J0.ao x G;rw[kH G] at this;have:=(this.ok a ha).2;show a.To.toNat<_;omega
 have w:∀C,Can T F C->Le sb A C->(∃k,Gl C p=some k/\Gl C q=some k)->∃m,U8 sb (lG l) l.length (eqnW A p q) (qS C) m:=λC K O P=>by obtain⟨m,_,z⟩:=UY H.to hA hp hq AS K O P;rw[Q] at z;exact⟨m,z⟩
 have e0:(0:Int)=((0:Nat):Int):=rfl;have w1:((ids 0 A.az.length).length:Int)=(A.az.length:Int):=by rw[rE]
 have w2:((ids 0 (A.az.length+(p.length+1))).length:Int)=((A.az.length+(p.length+1):Nat):Int):=by rw[rE]
 have v1:wrap .i64 ((A.az.length:Int)+(p.length:Int))=((A.az.length+p.length:Nat):Int):=by rw[oW af af];omega
 have v2:wrap .i64 (((A.az.length+(p.length+1):Nat):Int)+(q.length:Int))=((A.az.length+(p.length+1)+q.length:Nat):Int):=by rw[oW af af];omega
 rcases c443 H af (by omega:0<l.length) (by omega:A.az.length<l.length) R J0 with⟨p1,t1,r1,rep1,d1,V,J1⟩|⟨⟨p1,t1,r1,V⟩,I⟩
 .rcases c443 H af (by omega:A.az.length<l.length) (by omega:A.az.length+(p.length+1)<l.length) R J1 with⟨p2,t2,r2,rep2,d2,j2,J2⟩|⟨⟨p2,t2,r2,j2⟩,I⟩
  .rcases c443 H af (by omega:A.az.length+p.length<l.length) (by omega:A.az.length+(p.length+1)+q.length<l.length) R J2 with⟨p3,t3,r3,rep3,d3,j3,N⟩|⟨⟨p3,t3,r3,j3⟩,I⟩
   .obtain⟨p4,g⟩:=c444 (TL:=h.Types) (FL:=h.bG) (d:=d3) N.la N.lt N.ao N.pi.rl N.pi.rr af af (by omega:0<l.length) N.pi;have hU:=N.uni hbd;have hz:=afs hU af;have he:=tri_eqt H.to hA hp hq AS (by rw[Q];exact hU);rw[Q] at he;refine .inl ⟨_,e438 ?_,he,af⟩;rw[e425 rfl,ak,Sq af,ak,ak,Sq af,ak,a1,cL,a2,cL,a3,cL,w1,w2,v1,v2,e0,V,cL,cond_neg (by rfl),j2,cL,cond_neg (by rfl),j3,cL,cond_neg (by rfl),g,cL]
   .refine .inr ⟨e438 ?_,λC K O P=> ?_⟩
    .rw[e425 rfl,ak,Sq af,ak,ak,Sq af,ak,a1,cL,a2,cL,a3,cL,w1,w2,v1,v2,e0,V,cL,cond_neg (by rfl),j2,cL,cond_neg (by rfl),j3,cL,cond_pos (by rfl)]
    .obtain⟨m,z⟩:=w C K O P;exact I _ m K.RX z
  .refine .inr ⟨e438 ?_,λC K O P=> ?_⟩
   .rw[e425 rfl,ak,Sq af,ak,ak,Sq af,ak,a1,cL,a2,cL,a3,cL,w1,w2,v1,v2,e0,V,cL,cond_neg (by rfl),j2,cL,cond_pos (by rfl)]
   .obtain⟨m,z⟩:=w C K O P;exact I _ m K.RX ⟨z.ty,z.ar,λr S=>z.eq r (dx _ S)⟩
 .refine .inr ⟨e438 ?_,λC K O P=> ?_⟩
  .rw[e425 rfl,ak,Sq af,ak,ak,Sq af,ak,a1,cL,a2,cL,a3,cL,w1,w2,v1,v2,e0,V,cL,cond_pos (by rfl)]
  .obtain⟨m,z⟩:=w C K O P;exact I _ m K.RX ⟨z.ty,z.ar,λr S=>z.eq r (dx _ (dx _ S))⟩
end
end Go.Proofs.YtacapiamkgkkjaaGreatDoor.cl.pf
namespace Go.Proofs.YtacapiamkgkkjaaGreatDoor.cl.pf
open Go Go.AM
def X2:List Int->Nat->List (List cD)->Nat×List (List cD)
 |[],n,w=>(n,w)
 |f::z,n,w=>match fa (w.getD n []) f with
  |some a=>X2 z a.To.toNat w
  |none=>X2 z w.length (w.set n (w.getD n []++[⟨f,(w.length:Nat)⟩])++[[]])
def zip0:∀{w:List Node} {G:List (List cD)},w.length=G.length->(∀x∈w,x.eF=0)->List.zipWith Hv w G=G.map (Node.mk 0)
 |[],[],_,_=>rfl
 |x::w,y::G,K,h=>by rw[List.zipWith_cons_cons,zip0 (by simp_all) λz I=>h z (dF _ I)];simp_all
section
variable {F:Nat} {A B:List Int} (hA:∀f∈A,0<=f/\f<(F:Int)) (hB:∀f∈B,0<=f/\f<(F:Int)) (hAl:A.length<=1000) (hBl:B.length<=1000) (hF:F<=1000)
include hB hAl hBl hF in
theorem h553 {o4:FSt}:∀(k i n:Nat) (z:List (List cD)) (w:List Node),B.length=i+k->SI F A B n i z->w.length=z.length->(∀x∈w,x.eF=0)->
  AH B (n:Int) (i:Int) o4 w (z.map some)=some ((((X2 (B.drop i) n z).1:Nat):Int),(X2 (B.drop i) n z).2.map (Node.mk 0))/\SI F A B (X2 (B.drop i) n z).1 B.length (X2 (B.drop i) n z).2:=by
 intro k;induction k with
 |zero=>intro i n z w hi I O R;have e:i=B.length:=af;subst e;rw[qm];refine⟨aec ?_,I⟩;rw[cond_neg (by rw[bB];omega)];show yz Hv _ _ _=_;rw[qB O,zip0 O R];rfl
 |succ k ih=>
  intro i n z w hi I O R;have K:=I.nlt;have hIle:=I.le;have G:i<B.length:=af;have hlen:=(I.aw n K).len;have S:(z.map (Node.mk 0))[n]? =some ⟨0,z.getD n []⟩:=by rw[dV,aM K,bD,aM K];rfl
  rw[jY G]
  have pre:∀r,(bif(!(fr (z.getD n []) B[i]).2) then(
    check ((length w+length [(Node.mk 0 ([]:List cD))]) *32<=140737488355328/\length w+length [(Node.mk 0 ([]:List cD))]<=4611686018427387904) (
    yg (z.map some++[some []]) λU=>
    check (0<=(n:Int)/\toNat (n:Int)<length (w++[(Node.mk 0 ([]:List cD))])) (
    WZ U (toNat (n:Int)) λL P=>
    bp B (i:Int) λN=>
    check ((length L+length [(cD.mk N ((length w:Int)))]) *16<=140737488355328/\length L+length [(cD.mk N ((length w:Int)))]<=4611686018427387904) (
    check (0<=(n:Int)/\toNat (n:Int)<length (w++[(Node.mk 0 ([]:List cD))])) (
    check ((toNat (n:Int))<length P) (yg (List.set P (toNat (n:Int)) (some (L++[(cD.mk N ((length w:Int)))]))) λV=>
    AH B ((length w:Int)) ((i+1:Nat):Int) o4 (w++[(Node.mk 0 ([]:List cD))]) V)))))) else AH B (fr (z.getD n []) B[i]).1 ((i+1:Nat):Int) o4 w (z.map some))=some r->AH B (n:Int) (i:Int) o4 w (z.map some)=some r:=λr hr=>by
   refine aec ?_;rw[bJ af,cond_pos (by rw[bN];omega),cR G];show yz Hv _ _ _=_;rw[qB O,zip0 O R,c476 S (by show(z.getD n []).length<=_;omega),ak];exact hr
  unfold X2;cases e:fa (z.getD n []) B[i] with
  |some a=>
   obtain⟨h1,h2⟩:=I.go hB G e;obtain⟨g1,g2⟩:=ih (i+1) a.To.toNat z w af h2 O R;refine⟨pre _ ?_,g2⟩;unfold fr;rw[e];simp only[];rw[cond_neg (by rfl)]
   have:((a.To.toNat:Nat):Int)=a.To:=af
   rw[this] at g1;exact g1
  |none=>
   have I2:=I.new hB G e;obtain⟨g1,g2⟩:=ih (i+1) z.length _ (w++[⟨0,[]⟩]) af I2 (by simp[O]) λx Q=>by
    rcases bf.1 Q with Q|Q
    .exact R x Q
    .simp at Q;subst Q;rfl
   refine⟨pre _ ?_,g2⟩;have em:z.map some++[some []]=(z++[[]]).map some:=by rw[cE];rfl
   have e1:(z++[[]]).getD n []=z.getD n []:=Ac K;have e2:((z++[[]]).map some).set n (some (z.getD n []++[(⟨B[i],(z.length:Nat)⟩:cD)]))=(z.set n (z.getD n []++[(⟨B[i],(z.length:Nat)⟩:cD)])++[[]]).map some:=by rw[<-vh,zk _ _ K]
   unfold fr;rw[e];simp only[];rw[cond_pos (by rfl),cF _ af ai af,xH,em,BG aH,aS,Od aH,cR G,e1,cF _ af ai af,b9 ⟨af,aH⟩,b9 aH,List.set_set,xH,O,e2];exact g1
theorem abW {p:List Int} {i:Nat} (P:i<p.length):(zi (p.take i)).set i [⟨p[i],((i+1:Nat):Int)⟩]++[[]]=zi (p.take (i+1)):=by
 have L:(p.take i).length=i:=by rw[dL];omega
 have N:(p.take (i+1)).length=i+1:=by rw[dL];omega
 have I:(zi (p.take i)).length=i+1:=by simp[zi,L]
 have c2:(zi (p.take (i+1))).length=i+2:=by simp[zi,N]
 apply lR;intro j;have z:∀(k j:Nat),j<k+1->k<=p.length->(zi (p.take k))[j]? =some (if h:j<k then[⟨p.getD j 0,((j+1:Nat):Int)⟩] else[]):=λk j Q R=>by
  have O:(p.take k).length=k:=by rw[dL];omega
  have G:j<(zi (p.take k)).length:=by simp[zi,O];omega
  rw[aM G];congr 1;have e:(zi (p.take k))[j]=(zi (p.take k)).getD j []:=by rw[bD,aM G];rfl
  rw[e];by_cases h:j<k
  .rw[Cu af,lC h,List.getElem_take,bD,aM (by omega:j<p.length)];rfl
  .rw[EV af,dif_neg h]
 by_cases K:j<i+1
 .rw[fM (by simp_all),qh,z (i+1) j af af,lC K];by_cases w:i=j
  .grind
  .rw[aA w,z i j af af,lC af]
 .by_cases w:j=i+1
  .subst w;rw[e7 (by simp[I])];grind
  .rw[ig (by grind),ig af]
theorem grw_ch {p:List Int}:∀(k i:Nat),p.length=i+k->X2 (p.drop i) i (zi (p.take i))=(p.length,zi p):=by intro k;induction k with
 |zero=>intro i G;have e:i=p.length:=af;subst e;rw[qm,fZ];rfl
 |succ k I=>
  intro i G;have w:i<p.length:=af;have K:(p.take i).length=i:=by rw[dL];omega
  have z:(zi (p.take i)).length=i+1:=by simp[zi,K]
  rw[jY w];unfold X2;have e:(zi (p.take i)).getD i []=[]:=EV af;rw[e];show X2 _ _ _=_;rw[z,dU,abW w];exact I (i+1) af
include hA hB hAl hBl hF
theorem acC {n:Nat} {z:List (List cD)} (I:SI F A B n B.length z) {V a:Nat} (R:V=min A.length n) (ha:a=max A.length n) {G:Gr} {K:Nat->Nat} (N:ZJ 1 F sb0 (lG (z.map (Node.mk 0))) z.length [(V,a)] G K):
  Shr F A B (nU G z.length (K 0)):=by
 have hIl:=I.len;have P:0<z.length:=af;have hc:=N.can P;have U:∀x,x<z.length->(lG (z.map (Node.mk 0))).sc x=(z.getD x []).map λa=>(a.bP,a.To.toNat):=λx L=>by rw[NT (by simpa using L),lH,bD,aM L];rfl
 have hty:∀x,x<z.length->(lG (z.map (Node.mk 0))).ty x=0:=λx L=>by rw[TN (by simpa using L),lH]
 have q:K A.length=K n:=by
  have:=N.sol.eq (V,a) ai;simp only at this;by_cases h:A.length<=n
  .have e1:V=A.length:=af;have e2:a=n:=af;rw[<-e1,<-e2];exact this
  .have e1:V=n:=af;have e2:a=A.length:=af;rw[<-e1,<-e2];exact this.symm
 have O:∀{Q:List Int} {x y:Nat},x<z.length->tH G.sc (K 0) (K x)->ZH z x Q y->EO (qS (nU G z.length (K 0))) ((kU G z.length (K 0)).idxOf (K x)) Q=some ((kU G z.length (K 0)).idxOf (K y)):=by intro Q;induction Q with
  |nil=>intro x y _ _ h;cases h;rfl
  |cons f Q ih=>
   intro x y L hr h;obtain⟨w,hw,h⟩:=h;have hm:(f,w)∈(lG (z.map (Node.mk 0))).sc x:=by rw[U x L];exact aG.2 ⟨_,hw,ai⟩
   have S:=N.sol.ar x L _ hm;have hwl:w<z.length:=by have:=((I.aw x L).ok _ hw).2;simp only at this;omega
   have hx2:=(Js N.go.bd (N.lt 0 P)).2 hr;have hx3:=BD (vY hx2);have hm3:(f,(kU G z.length (K 0)).idxOf (K w))∈lU (nU G z.length (K 0)) ((kU G z.length (K 0)).idxOf (K x)):=by rw[hx3];exact aG.2 ⟨_,S,rfl⟩
   show(match DG (lU _ _) f with|some k=>EO _ k Q|none=>none)=_;rw[(CL (hc.zW _)).2 hm3];exact ih hwl (hr.step S) h
 have i0:(kU G z.length (K 0)).idxOf (K 0)=0:=wE (vJ N.go.bd (N.lt 0 P)).nd (yU N.go.bd (N.lt 0 P));have pA:=O P .root I.pa;have pB:=O P .root I.pb;rw[i0,q] at pA;rw[i0,fZ] at pB;refine⟨hc,⟨_,pA,pB⟩,λC T' sb hT hC hk=> ?_⟩;obtain⟨k,k1,k2⟩:=hk;obtain⟨m,m0,m1,m2,m3⟩:=I.dK C T' k hC k1 k2;rw[OO k2] at m2;refine le_zero hT hc hC ?_;have hl:(replicate C.az.length (0:Int)).length=C.az.length:=ai;have esc:(qS (IJ C (replicate C.az.length 0))).sc=(qS C).sc:=Xi hl;have ety:∀y,(qS (IJ C (replicate C.az.length 0))).ty y=0:=λy=>by
  show tU _ y=0;by_cases hy:y<C.az.length
  .rw[ae6 hl hy,bD,qz,aC hy];rfl
  .unfold tU;rw[ig (by rw[CH hl];omega)]
 refine N.le to0 P (abS hC) (m:=m) ⟨λx L=>⟨hty x L,ety _⟩,λx L p hp=> ?_,λp hp=> ?_⟩ m0
 .rw[U x L] at hp;obtain⟨a,ha,rfl⟩:=aG.1 hp;rw[esc];exact m3 x L a ha
 .simp only[bZ] at hp;subst hp;simp only;by_cases h:A.length<=n
  .rw[R,ha,r5 h,Nat.max_eq_right h,m1,m2]
  .rw[R,ha,Nat.min_eq_right af,Nat.max_eq_left af,m1,m2]
theorem c544:∃f,f544 A B=some f/\Shr F A B f/\f.az.length<=A.length+1+B.length:=by
 have a1:f553 A [⟨0,[]⟩] [some []]=some ((A.length:Int),(zi A).map (Node.mk 0)):=by have:=(h553 (F:=F) (A:=[]) (B:=A) hA ai hAl hF (o4:=⟨[]⟩) A.length 0 0 [[]] [⟨0,[]⟩] af (SI.init (A:=[]) ai) rfl ai).1;have e:=grw_ch (p:=A) A.length 0 af;have e0:zi (A.take 0)=[[]]:=rfl;rw[e0] at e;rw[e] at this;exact e553 this
 have hcl:(zi A).length=A.length+1:=by simp[zi]
 obtain⟨g1,I⟩:=h553 (F:=F) (A:=A) (B:=B) hB hAl hBl hF (o4:=⟨[]⟩) B.length 0 0 (zi A) ((zi A).map (Node.mk 0)) af (SI.init hA) ai λx L=>by obtain⟨y,_,rfl⟩:=aG.1 L;rfl
 rw[qy] at g1 I;have mm:∀O:List (List cD),(O.map (Node.mk 0)).map (λx=>some x.cn)=O.map some:=λO=>by rw[fF];rfl
 have a2:f553 B ((zi A).map (Node.mk 0)) (((zi A).map (Node.mk 0)).map (λx=>some x.cn))=some ((((X2 B 0 (zi A)).1:Nat):Int),(X2 B 0 (zi A)).2.map (Node.mk 0)):=by rw[mm];exact e553 g1
 generalize hn:(X2 B 0 (zi A)).1=n at *;generalize hz:(X2 B 0 (zi A)).2=w at *;have hIl:=I.len;have hIle:=I.le;have V:=I.nlt;have G:(w.map (Node.mk 0)).length=w.length:=ai;have K:∀x∈w.map (Node.mk 0),AW F (w.map (Node.mk 0)).length x.cn:=λx L=>by obtain⟨i,S⟩:=gu.1 L;have z:=(bu.1 S).1;rw[G] at z⊢;rw[dV,aM z] at S;have e:Node.mk 0 w[i]=x:=fc S;have:=I.aw i z;rw[bD,aM z] at this;rw[<-e];exact this
 have U:w.length *F<=300000000:=by have:=ow (by omega:w.length<=3000) hF;omega
 have a3:=c449 (n:=w.length) af;have a4:=c450 (n:=w.length) (x:=A.length) (y:=n) af af V;obtain⟨out,ty,ar,rep,d,a5,ho,J⟩:=c451 (F:=F) (l:=w.map (Node.mk 0)) (lo:=min A.length n) (a:=max A.length n) af af (by rw[G];exact U) af af K;have N:∀c,(replicate w.length (0:Int)).getD c 0=0:=λc=>by rw[bD,qz];split<;>rfl
 obtain⟨g,O,a6,hg1,Iq,R⟩:=c453 (F:=F) (l:=w.map (Node.mk 0)) af af K J.pi.len ho J.pi.rl (types:=replicate w.length 0) ai (root:=0) af
 have Q:=Y3 to0 K (U:=lG (w.map (Node.mk 0))) (λ_ _=>rfl) (λ_ _=>rfl) J (types:=replicate w.length 0) (λc hc=>by
  rw[N,N,TN hc,lH]
  exact⟨af,rfl,⟨rfl,rfl⟩,λu h1 h2 _=>⟨rfl,af⟩⟩) Iq R
 rw[G] at Q a5 a6;have hs:=acC hA hB hAl hBl hF I rfl rfl Q;have hzz:=afs Q af;refine⟨_,e544 ?_,hs,af⟩;have e0:(0:Int)=((0:Nat):Int):=rfl;rw[c414,ak,a1,gw,a2,gw,mm];show yz Hv _ _ _=_;rw[qB ai,zip0 ai λx L=>by obtain⟨y,_,rfl⟩:=aG.1 L;rfl,G,a3,ak,a4,ak,a5,ak,b9 ⟨af,by omega,by omega,af⟩,aS];have P:f453 (w.map (Node.mk 0)) out (replicate w.length 0) 0=_:=a6;rw[P,ak]
end
section
variable {h:aV} {T F:Nat} {sb:Int->Int->Prop} (H:HM h T sb) {A:FSt} (hA:Can T F A) {p q:List Int} (hp:∀f∈p,0<=f/\f<(F:Int)) (hq:∀f∈q,0<=f/\f<(F:Int)) (Pt:p.length<=1000) (hql:q.length<=1000) (AS:0<T) (hF:F<=300) (hn:A.az.length<=900000)
include H hA hp hq Pt hql AS hF hn
theorem acn:(∃f,f438 h A p q=some (f,true)/\f537 h A p q=some (f,true)/\Can T F f/\f.az.length<=A.az.length+(p.length+1)+(q.length+1))\/
  (f438 h A p q=some (⟨[]⟩,false)/\f537 h A p q=some (⟨[]⟩,false)):=by
 obtain⟨e,e1,G,U⟩:=c544 (F:=F) hp hq Pt hql af;have I:=G.can.up (T':=T) AS;have P:∀f b,f440 h A e=some (f,b)->f537 h A p q=some (f,b):=λf b S=>e537 (by rw[e1,ak,S];rfl)
 rcases c438g H hA hp hq AS hF af with⟨f,K,z,V⟩|⟨K,z⟩<;>rcases c440 H hA I hF af with⟨N,L,w⟩|⟨L,w⟩
 .have:f=N:=Eqt.uniq H.to z ⟨w.can,w.l,(G.le H.to AS w.can).1 w.r,λC O Q R=>w.least C O Q ((G.le H.to AS O).2 R)⟩
  subst this;exact .inl ⟨f,K,P _ _ L,z.can,V⟩
 .exact(w f z.can z.l ((G.le H.to AS z.can).2 z.at_)).elim
 .exact(z N w.can w.l ((G.le H.to AS w.can).1 w.r)).elim
 .exact .inr ⟨K,P _ _ L⟩
end
