/- BuildUnifies. -/
import Derived.Test.YtbnlhmaaccgbjaaGreatDoorClY
import Derived.Test.YtbnlhmaaccgbjaaGreatDoorClVb
set_option linter.all false
namespace Go.Proofs.YtbnlhmaaccgbjaaGreatDoor.cl.pf
open Go Go.AM
def TB (h:aN) (T F:Nat) (sb:Int->Int->Prop) (bS:Int->Int) (val:Int->Int->Int) (t:List Template) (d:aQ):Option FSt->Prop
 |some g=>Can T F g/\WT sb bS val g/\(∀C,Can T F C->Le sb g C->∃l,Sat h t sb C l d [])/\∀C l,Can T F C->WT sb bS val C->Sat h t sb C l d []->Le sb g C
 |none=>∀C l,Can T F C->WT sb bS val C->Sat h t sb C l d []->False
def tbR:Option FSt->FSt×Int
 |some g=>if g.aA.length>4096 then(⟨[]⟩,7) else(g,0)
 |none=>(⟨[]⟩,12)
def sat_rho {h:aN} {t:List Template} {sb:Int->Int->Prop} {C:FSt} {z l:b9->Nat} (d:aQ):fE (λd=>d.Op≠3) d->∀p,Sat h t sb C l d p↔Sat h t sb C z d p:=by
 refine j8 (P:=λd=>fE (λd=>d.Op≠3) d->∀p,Sat h t sb C l d p↔Sat h t sb C z d p) (λd G w p=> ?_) d;have k:∀x∈d.Kids,∀p,Sat h t sb C l (id x) p↔Sat h t sb C z x p:=λx D p=>G x D (w.kids x D) p
 have e1:=λp=>FC (g:=id) (p:=p) k
 have q:=λp=>Cs (g:=id) (p:=p) k
 have B:=λp=>IY (g:=id) (p:=p) k
 simp only[nH] at e1 q B;rw[qv,qv (d:=d),au w.here,au w.here,e1,e1,q,q,B]
def prt (d:aQ):List aQ:=bif d.Op==4 then d.Kids else[d]
def c566 (d:aQ):f566 d=some (prt d):=by refine e566 ?_;unfold prt;cases d.Op==4<;>rfl
def h565 {o1:aQ} (K:o1.Kids.length<=1000) (q:∀k∈o1.Kids,∃b,f565 k=some b/\(b=false->fE (λd=>d.Op≠3) k)):∀(xs:List aQ) (i:Nat),o1.Kids.drop i=xs->∃b,QO i o1=some b/\(b=false->∀k∈xs,fE (λd=>d.Op≠3) k):=by intro xs;induction xs with
 |nil=>intro i l;exact⟨false,VL (by rw[bq l,az]),λ_ k q=>by cases q⟩
 |cons x xs D=>intro i l;obtain⟨b,w,z⟩:=q x (aZ (bZ l));cases b with
  |true=>exact⟨true,VL (by rw[aV l,ak,aM l,w,aj,ak]),λh=>by cases h⟩
  |false=>
   obtain⟨b,G,I⟩:=D (i+1) (aI l);refine⟨b,VL (by rw[aV l,ak,aM l,w,aj,az,aR l af];exact G),λB k q=> ?_⟩;rcases aJ.1 q with rfl|q
   .exact z rfl
   .exact I B k q
def c565 (d:aQ):fE (Lt1 12) d->∃b,f565 d=some b/\(b=false->fE (λd=>d.Op≠3) d):=by
 refine j8 (P:=λd=>fE (Lt1 12) d->∃b,f565 d=some b/\(b=false->fE (λd=>d.Op≠3) d)) (λd I q=> ?_) d;by_cases l:d.Op=3
 .exact⟨true,e565 (by rw[cond_pos (by simpa using l)]),λh=>by cases h⟩
 .have G:=q.here.kl;obtain⟨b,z,B⟩:=h565 (o1:=d) af (λk w=>I k w (q.kids k w)) d.Kids 0 rfl;exact⟨b,e565 (by rw[cond_neg (by simpa using l)];exact z),λD=>⟨d,l,B D⟩⟩
def fE.iff {P:aQ->Prop} {d:aQ}:fE P d↔P d/\∀k∈d.Kids,fE P k:=⟨λa=>⟨a.here,a.kids⟩,λa=> .mk d a.1 a.2⟩
def FZ {f g:FSt} {e:Int} (h:(f,e)=tbR (some g)):(f=⟨[]⟩/\e=7/\g.aA.length>4096)\/(f=g/\e=0/\g.aA.length<=4096):=by
 by_cases l:g.aA.length>4096
 .have e1:tbR (some g)=(⟨[]⟩,7):=aB l;rw[e1] at h;cases h;exact .inl ⟨rfl,rfl,l⟩
 .have e1:tbR (some g)=(g,0):=au l;rw[e1] at h;cases h;exact .inr ⟨rfl,rfl,af⟩
section
variable {h:aN} {T F:Nat} {sb:Int->Int->Prop} {bS:Int->Int} {val:Int->Int->Int} (H:HX h T F sb bS val) (hT:T<=1000) (hF:F<=300)
include H hT hF
theorem AX.tb {t:List Template} {d:aQ} {f:FSt} {e:Int} (U:AX h T F sb t d f e) (V:fE (Kn h t) d):∃y,TB h T F sb bS val t d y/\(f,e)=tbR y:=by
 rcases U with⟨a,_⟩|⟨_,⟨B,z,Q,R,D,y,N,O⟩|⟨n,rfl,rfl⟩⟩
 .exact(a V).elim
 .have S:Ui T F sb B B B:=⟨z,Le.refl H.hv.hm.to z,Le.refl H.hv.hm.to z,λC _ h _=>h,λP h _=>h⟩
  rcases Sy H.hv S (c434 H.hv z Q hT af) with⟨g,e1,G⟩|⟨e1,K⟩
  .rw[N] at e1;cases e1;exact⟨some g,⟨G.can,G.wt,λC l I=>R C l (Le.trans H.hv.hm.to G.l I),λC w l L q=>G.least C l L (D C w l q) (D C w l q)⟩,O⟩
  .rw[N] at e1;cases e1;exact⟨none,λC w l L q=>K C l L (D C w l q) (D C w l q),O⟩
 .exact⟨none,λC w l _ q=>n C w l q,rfl⟩
variable (vk:0<T)
include vk
theorem SR {c:Case} (hh:f403 c.Decls=some h) (D:f499=some true):f562 c=some true:=by
 obtain⟨t,b,g1,g2⟩:=c498 H hT hF vk c;cases b with
 |false=>exact e562 (by rw[hh,aj,g1,aj,cond_pos (by rfl),D,aj])
 |true=>
 obtain⟨tk,hX,hY⟩:=g2 rfl;have h4:=tk.len;obtain⟨b,n1,n2⟩:=c565 c.X hX.lt;cases b with
 |true=>exact e562 (by rw[hh,aj,g1,aj,cond_neg (by rfl),n1,aj,ak,D,aj])
 |false=>
 have n2:=n2 rfl;have ht:G4 t t:= .refl tk.Ay af;have hcX:=hX.cnt;have hcY:=hY.cnt;obtain⟨f,e,_,j1,j2,j3⟩:=sR (u:=t) H hT hF af tk.str vk hX.lg hcX;obtain⟨g,u,_,k1,k2,k3⟩:=sR (u:=t) H hT hF af tk.str vk hY.lg hcY;have pl:∀{d:aQ},LD d->(prt d).length<=12/\eU (prt d)<=12/\(∀k∈prt d,oN k<=12/\fE Lg k)/\(fE (Kn h t) d↔∀k∈prt d,fE (Kn h t) k)/\∀C l,Sat h t sb C l d []↔∀k∈prt d,Sat h t sb C l k []:=λ{d} U=>by
  have hc:=U.cnt;have Q:=U.lg;have hkl:=Q.here.kl;have hce:=zH d;by_cases o4:d.Op=4
  .have ep:prt d=d.Kids:=by unfold prt;rw[cond_pos (by simpa using o4)]
   rw[ep];refine⟨hkl,by omega,λk B=>⟨by have:=Gh B;omega,Q.kids k B⟩,?_,λC l=> ?_⟩
   .rw[fE.iff];refine⟨λa=>a.2,λa=>⟨⟨λe=>by omega,λe=>by omega,λe=>by omega,λ_ s N=> ?_⟩,a⟩⟩;rw[Q.here.fm.ph af] at N;cases N
   .rw[qv,au af,au af,au af,aB o4,wC]
  .have ep:prt d=[d]:=by unfold prt;rw[cond_neg (by simpa using o4)]
   rw[ep];exact⟨ai,by simp only[eU];omega,λk B=>by rw[cv.1 B];exact⟨hc,Q⟩,by simp,λC l=>by simp⟩
 obtain⟨x1,x2,x3,x4,x5⟩:=pl hX;obtain⟨y1,y2,y3,y4,y5⟩:=pl hY;obtain⟨d,U⟩:∃d:aQ,d= .mk 4 [] [] (([]++prt c.X)++prt c.Y):=⟨_,rfl⟩
 have dk:d.Kids=prt c.X++prt c.Y:=by rw[U];rfl
 have dop:d.Op=4:=by rw[U];rfl
 have S:d.Path=[]:=by rw[U];rfl
 have V:∀k∈d.Kids,oN k<=12/\fE Lg k:=λk B=>by rw[dk] at B;exact(bu.1 B).elim (x3 k) (y3 k)
 have hkl:d.Kids.length<=24:=by rw[dk,cF];omega
 have hdc:eU d.Kids<=24:=by rw[dk,Cr];omega
 have hfm:fE Fm d:=⟨d,⟨⟨af,af⟩,⟨λe=>by omega,λe=>by omega,λe=>by omega⟩,by rw[S];simp,by omega,λ_=>S⟩,λk B=>(V k B).2.imp λd q=>q.fm⟩
 have K:fE (Kn h t) d↔fE (Kn h t) c.X/\fE (Kn h t) c.Y:=by rw[fE.iff,x4,y4,dk];refine⟨λa=>⟨λk B=>a.2 k (cR _ B),λk B=>a.2 k (gD _ B)⟩,λa=>⟨⟨λe=>by omega,λe=>by omega,λe=>by omega,λ_ s N=>by rw[S] at N;cases N⟩,λk B=>(bu.1 B).elim (a.1 k) (a.2 k)⟩⟩
 have G:∀C l,Sat h t sb C l d []↔Sat h t sb C l c.X []/\Sat h t sb C l c.Y []:=λC l=>by rw[qv,au af,au af,au af,aB dop,wC,x5,y5,dk];exact⟨λa=>⟨λk B=>a k (cR _ B),λk B=>a k (gD _ B)⟩,λa k B=>(bu.1 B).elim (a.1 k) (a.2 k)⟩
 obtain⟨k,v,_,l1,l2,l3⟩:=RB (u:=t) H hT hF af tk.str vk hfm (λkn=>by
  refine⟨_,_,?_,(aaP H hT hF (u:=t) af tk.str (p:=[]) (by intro f hf;cases hf) dop af (λk B=>aaM H hT hF af tk.str k (((V k B).2.and (kn.kids k B)).imp λd q=>⟨q.1.fm,q.1.kl,q.1.pl,q.2⟩)) (λk B=>by have:=(V k B).1;simp;omega)).1 [⟨0,[]⟩] [] [] (IX H hF ⟨af,af⟩) aH aH .nil⟩
  simp;omega)
 have pre:∀{r},(bif(e==7) then(Option.bind (f499 ) λy221=>some y221) else(bif(u==7) then(Option.bind (f499 ) λy223=>some y223) else(bif(e !=0) then(bif(v !=0) then(Option.bind (f499 ) λy225=>some y225) else(some false)) else(bif(u !=0) then(bif(v !=0) then(Option.bind (f499 ) λaex=>some aex) else(some false)) else(Option.bind (f419 h f g) λL=>bif(!L.2) then(bif(v==12) then(Option.bind (f499 ) λy231=>some y231) else(some false)) else(bif(decide ((List.length L.1.aA:Int)>4096)) then(bif(v==7) then(Option.bind (f499 ) λy233=>some y233) else(some false)) else(bif(v==0) then(Option.bind (f407 k L.1) λy235=>bif y235 then(Option.bind (f499 ) λaah=>some aah) else(some false)) else(some false))))))))=some r->f562 c=some r:=λ{r} hr=>by refine e562 ?_;rw[hh,aj,g1,aj,cond_neg (by rfl),n1,aj,cond_neg (by rfl),j1 ht,aj,k1 ht,aj,c566,aj,cC _ ai af af,c566,aj,cC _ aH af af,<-U,l1 ht,aj];exact hr
 refine pre ?_;by_cases q1:e=7
 .rw[cond_pos (by simp[q1]),D,aj]
 by_cases q2:u=7
 .rw[cond_neg (by simp[q1]),cond_pos (by simp[q2]),D,aj]
 rw[cond_neg (by simp[q1]),cond_neg (by simp[q2])];have two:v=0->fE (Kn h t) c.X/\fE (Kn h t) c.Y/\∃w,TB h T F sb bS val t d (some w):=λR=>by have kn:=l3.kn R;obtain⟨y,t1,t2⟩:=l3.tb H hT hF kn;refine⟨(K.1 kn).1,(K.1 kn).2,?_⟩;cases y with
  |none=>cases t2;cases R
  |some w=>exact⟨w,t1⟩
 have bad:∀{x:aQ} {f:FSt} {e:Int},AX h T F sb t x f e->e≠0->e≠7->(∀C l,Sat h t sb C l d []->Sat h t sb C l x [])->(fE (Kn h t) d->fE (Kn h t) x)->v≠0:=λ{x f e} hb h0 h7 N hkx R=>by have kn:=hkx (l3.kn R);obtain⟨_,_,w,I,w2,w3,_⟩:=two R;obtain⟨y,t1,t2⟩:=hb.tb H hT hF kn;cases y with
  |none=>obtain⟨l,a⟩:=w3 w I (Le.refl H.hv.hm.to I);exact t1 w l I w2 (N w l a)
  |some y=>
   rcases FZ t2 with⟨_,r,_⟩|⟨_,r,_⟩
   .exact h7 r
   .exact h0 r
 by_cases q3:e=0
 .rw[cond_neg (by simp[q3])];by_cases q4:u=0
  .rw[cond_neg (by simp[q4])];have knX:=j3.kn q3;have knY:=k3.kn q4;obtain⟨yx,tx,rx⟩:=j3.tb H hT hF knX;obtain⟨yy,ty,ry⟩:=k3.tb H hT hF knY;obtain⟨ya,ta,ra⟩:=l3.tb H hT hF (K.2 ⟨knX,knY⟩);cases yx with
   |none=>cases rx;cases q3
   |some f1=>
   cases yy with
   |none=>cases ry;cases q4
   |some P=>
   have ef:f1=f/\f1.aA.length<=4096:=by
    rcases FZ rx with⟨_,r,_⟩|⟨r1,_,r2⟩
    .omega
    .exact⟨r1.symm,r2⟩
   have eg:P=g/\P.aA.length<=4096:=by
    rcases FZ ry with⟨_,r,_⟩|⟨r1,_,r2⟩
    .omega
    .exact⟨r1.symm,r2⟩
   obtain⟨rfl,f4⟩:=ef;obtain⟨rfl,g4⟩:=eg;obtain⟨fc,fw,fu,fl⟩:=tx;obtain⟨gc,gw,gu,gl⟩:=ty;have up:∀C,Can T F C->Le sb f1 C->Le sb P C->∃l,Sat h t sb C l d []:=λC hC a1 a2=>by obtain⟨ρ1,s1⟩:=fu C hC a1;obtain⟨ρ2,s2⟩:=gu C hC a2;exact⟨ρ2,(G C ρ2).2 ⟨(sat_rho c.X n2 []).1 s1,s2⟩⟩
   have dn:∀C l,Can T F C->WT sb bS val C->Sat h t sb C l d []->Le sb f1 C/\Le sb P C:=λC l hC hw N=>⟨fl C l hC hw ((G C l).1 N).1,gl C l hC hw ((G C l).1 N).2⟩
   rcases c419 H.hv fc gc hT af af with⟨w,e1,I⟩|⟨e1,hno⟩
   .have ew:ya=some w:=by
     cases ya with
     |none=>obtain⟨l,s⟩:=up w I.can I.l I.r;exact(ta w l I.can I.wt s).elim
     |some z=>obtain⟨O,zw,zu,zl⟩:=ta;obtain⟨l,s⟩:=zu z O (Le.refl H.hv.hm.to O);obtain⟨a1,a2⟩:=dn z l O zw s;obtain⟨ρ',s'⟩:=up w I.can I.l I.r;exact aP some (Le.anti H.hv.hm.to O I.can (zl w ρ' I.can I.wt s') (I.least z O zw a1 a2))
    subst ew;rw[e1,aj,cond_neg (by rfl)];rcases FZ ra with⟨r1,r2,hb⟩|⟨r1,r2,hb⟩
    .subst r1 r2;rw[cond_pos (by rw[bB];dsimp only;omega),cond_pos (by rfl),D,aj]
    .subst r1 r2;rw[cond_neg (by rw[aT];dsimp only;omega),cond_pos (by rfl),W0 (I.can.sm af af),aj,ak,D,aj]
   .have ew:ya=none:=by
     cases ya with
     |none=>rfl
     |some z=>obtain⟨O,zw,zu,zl⟩:=ta;obtain⟨l,s⟩:=zu z O (Le.refl H.hv.hm.to O);obtain⟨a1,a2⟩:=dn z l O zw s;exact(hno z O zw a1 a2).elim
    subst ew;cases ra;rw[e1,aj,cond_pos (by rfl),cond_pos (by rfl),D,aj]
  .have R:=bad k3 q4 q2 (λC l a=>((G C l).1 a).2) λa=>(K.1 a).2
   rw[cond_pos (by simpa using q4),cond_pos (by simpa using R),D,aj]
 .have R:=bad j3 q3 q1 (λC l a=>((G C l).1 a).1) λa=>(K.1 a).1
  rw[cond_pos (by simpa using q3),cond_pos (by simpa using R),D,aj]
end
end Go.Proofs.YtbnlhmaaccgbjaaGreatDoor.cl.pf
namespace Go.Proofs.YtbnlhmaaccgbjaaGreatDoor.cl.pf
open Go Go.AM
def law562 {c:Case} (z:Sz c.Decls) (B:Fz c.Decls) (q:f499=some true):f562 c=some true:=by obtain⟨h,t,w,l⟩:=c403 z B;have:=l.F;exact SR l.hx l.T af l.P w q
