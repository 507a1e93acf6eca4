/- Build. -/
import Derived.Test.YthphfjcnkinkpaaGreatDoorClQa
import Derived.Test.YthphfjcnkinkpaaGreatDoorClWo
import Derived.Test.YthphfjcnkinkpaaGreatDoorClUd
set_option linter.all false
namespace Go.Proofs.YthphfjcnkinkpaaGreatDoor.cl.pf
open Go Go.AM
def HomAt (sb:Int->Int->Prop) (g C:FSt) (n:Nat):Prop:=∃m,yW sb (jI g) 0 (jI C) n m
def und_at {p:List Int} {g:FSt}:∀(i:Nat),i<=p.length->oW (vz p g) (p.take i)=some i:=by intro i;induction i with
 |zero=>intro _;rfl
 |succ i l=>intro q;rw[cM,aM (by omega:i<p.length)];refine Eg.2 ⟨i,l af,?_⟩;show Ac (iD _ i) _=_;rw[vA af];simp[Ac]
def aej {p:List Int} {g:FSt}:∀(i:Nat),i<=p.length->qG (iD (vz p g)) 0 i:=by intro i;induction i with
 |zero=>intro _;exact .root
 |succ i l=>exact λq=>(l af).step (p:=(p[i],i+1)) (by rw[vA af];simp)
section
variable {T F:Nat} {sb:Int->Int->Prop} (hT:TO T sb) {p:List Int} (hp:p.length<=1000000) {g:FSt} (hg:∀j,yb (iD g j)) (ht:NW g)
include hp ht
theorem und_rch {j:Nat} (l:qG (iD g) 0 j):qG (iD (vz p g)) 0 (p.length+j):=by induction l with
 |root=>exact aej _ (aZ _)
 | @step n q _ w z=>exact z.step (p:=(q.1,p.length+q.2)) (by rw[vB hp ht];exact aG.2 ⟨q,w,rfl⟩)
theorem NI {i:Nat} (B:qG (iD (vz p g)) 0 i):i<p.length\/∃j,i=p.length+j/\qG (iD g) 0 j:=by induction B with
 |root=>
  by_cases h:0<p.length
  .exact .inl h
  .exact .inr ⟨0,by omega, .root⟩
 | @step n q _ l G=>
  rcases G with h|⟨j,rfl,D⟩
  .rw[vA h] at l;simp at l;subst l;by_cases z:n+1<p.length
   .exact .inl z
   .exact .inr ⟨0,by show n+1=_;omega, .root⟩
  .rw[vB hp ht] at l;obtain⟨I,w,rfl⟩:=aG.1 l;exact .inr ⟨I.2,rfl,D.step w⟩
include hg
theorem und_asc {i:Nat} (l:qG (iD (vz p g)) 0 i):yb (iD (vz p g) i):=by
 rcases NI hp ht l with h|⟨j,rfl,q⟩
 .rw[vA h];exact rY _ _
 .rw[vB hp ht];exact(hg j).map _
include hT
theorem Rj {C:FSt} (hC:Can T F C):Le sb (vz p g) C↔∃n,oW C p=some n/\HomAt sb g C n:=by
 constructor
 .rintro⟨m,z⟩;have e:=und_at (p:=p) (g:=g) p.length (aZ _);rw[fT] at e;have K:=(Vv z (λi D=>und_asc hp hg ht D) hC.LW p 0 _ .root e).2;rw[z.1] at K;refine⟨m p.length,K,λj=>m (p.length+j),rfl,λj G=> ?_⟩;have w:=z.2 (p.length+j) (und_rch hp ht G);refine⟨?_,λq l=> ?_⟩
  .have N:=w.1;have P:(jI (vz p g)).ty (p.length+j)=(jI g).ty j:=Rk;rw[P] at N;exact N
  .refine w.2 (q.1,p.length+q.2) ?_;show _∈iD (vz p g) (p.length+j);rw[vB hp ht];exact aG.2 ⟨q,l,rfl⟩
 .rintro⟨n,hn,m,z⟩;refine⟨λi=>if i<p.length then MF (jI C) p i else m (i-p.length),?_,λi D=> ?_⟩
  .by_cases L:0<p.length
   .show(if 0<p.length then MF (jI C) p 0 else _)=0;rw[aB L];simp[MF,Av]
   .show(if 0<p.length then MF (jI C) p 0 else _)=0;rw[az L];have e:p=[]:=kG.1 af;subst e;have O:(0:Nat)=n:=by simpa[Av] using hn
    show m 0=0;rw[z.1,O]
  .rcases NI hp ht D with h|⟨j,rfl,G⟩
   .refine⟨?_,λq l=> ?_⟩
    .show sb (mI (vz p g) i) (mI C (if i<p.length then MF (jI C) p i else _));rw[YM h,aB h];have Q:=Cl (λi _=>hC.wT i) _ 0 _ .root (N0 hn i);have:=hC.go.tp _ (hC.Ms Q);exact hT.top this.1 this.2
    .have l:q∈iD (vz p g) i:=l;rw[vA h] at l;simp at l;subst l;show(p[i],if i+1<p.length then MF (jI C) p (i+1) else m (i+1-p.length))∈(jI C).sc (if i<p.length then MF (jI C) p i else _);rw[aB h];have hs:=A7 hC.LW hn h;by_cases w:i+1<p.length
     .rw[aB w];exact hs
     .rw[az w];have e:i+1=p.length:=af;rw[e,kC,z.1,<-Ip hn,<-e];exact hs
   .have w:=z.2 j G;refine⟨?_,λq l=> ?_⟩
    .show sb (mI (vz p g) (p.length+j)) (mI C (if p.length+j<p.length then _ else m (p.length+j-p.length)));rw[Rk,az af,u6];exact w.1
    .have l:q∈iD (vz p g) (p.length+j):=l;rw[vB hp ht] at l;obtain⟨B,I,rfl⟩:=aG.1 l;show(B.1,if p.length+B.2<p.length then _ else m (p.length+B.2-p.length))∈(jI C).sc (if p.length+j<p.length then _ else m (p.length+j-p.length));rw[az af,az af,u6,u6];exact w.2 B I
end
end Go.Proofs.YthphfjcnkinkpaaGreatDoor.cl.pf
namespace Go.Proofs.YthphfjcnkinkpaaGreatDoor.cl.pf
open Go Go.AM
def ad7 (C:FSt) (n:Nat):FSt:=kI (jI C) C.au.length n
section
variable {T F:Nat} {sb:Int->Int->Prop} (hT:TO T sb) {C:FSt} (hC:Can T F C) {n:Nat} (hn:n<C.au.length)
include hC hn
theorem sub_can:Can T F (ad7 C n):=U6 hC.go hn
include hT
theorem sub_to:yW sb (jI (ad7 C n)) 0 (jI C) n (λi=>(jo (jI C) C.au.length n).getD i n):=Xc hC.go hn λl q=>hT.refl l q
theorem sub_of:yW sb (jI C) n (jI (ad7 C n)) 0 (λi=>(jo (jI C) C.au.length n).idxOf i):=XB hC.go hn λl q=>hT.refl l q
theorem Zy {g:FSt}:HomAt sb g C n↔Le sb g (ad7 C n):=
 ⟨λ⟨m,h⟩=>⟨_,yW.comp (s1:=sb) (s2:=sb) (s3:=sb) (λh l=>hT.trans h l) h (sub_of hT hC hn)⟩,
  λ⟨m,h⟩=>⟨_,yW.comp (s1:=sb) (s2:=sb) (s3:=sb) (λh l=>hT.trans h l) h (sub_to hT hC hn)⟩⟩
end
def F5:∀(l:List bI),l.length<=dL l
 |[]=>cZ _
 |x::l=>by have:=F5 l;have:=Bw x;rw[dL,bD];omega
end Go.Proofs.YthphfjcnkinkpaaGreatDoor.cl.pf
namespace Go.Proofs.YthphfjcnkinkpaaGreatDoor.cl.pf
open Go Go.AM
def one_asc {ty:Int}:∀j,yb (iD ⟨[⟨ty,[]⟩]⟩ j):=λj=>by cases j with
 |zero=>exact yb.nil
 |succ j=>exact yb.nil
def one_to {ty:Int}:NW ⟨[⟨ty,[]⟩]⟩:=λx q a l=>by simp_all
def Ul {T F:Nat} {sb:Int->Int->Prop} (hT:TO T sb) {C:FSt} (hC:Can T F C) {ty:Int} {p:List Int} (hp:p.length<=1000000):Jf sb p ⟨[⟨ty,[]⟩]⟩ C↔∃n,oW C p=some n/\sb ty (mI C n):=by
 show Le _ _ C↔_;rw[Rj hT hp one_asc one_to hC];refine⟨λ⟨n,e,m,w⟩=>⟨n,e,?_⟩,λ⟨n,e,hs⟩=>⟨n,e,λ_=>n,rfl,λi B=> ?_⟩⟩
 .have:=(w.2 0 .root).1;rw[w.1] at this;exact this
 .have z:i=0:=by
   cases B with
   |root=>rfl
   | @step n q hn l=>cases n with
    |zero=>cases l
    |succ n=>cases l
  subst z;exact⟨hs,λq l=>by cases l⟩
def aaH {T F:Nat} {C:FSt} (hC:Can T F C) {p:List Int} {n:Nat} (e:oW C p=some n):n<C.au.length:=hC.Ms (Cl (λi _=>hC.wT i) _ 0 _ .root e)
def at_add {C:FSt} {p q:List Int} {n:Nat} (e:oW C p=some n):oW C (p++q)=Av (jI C) n q:=by grind[vI]
def Agr (ρ:cn->Nat) (tg:List met):Prop:=∀x∈tg,x.Node=(ρ x.Name:Int)
def GL (P:(cn->Nat)->Prop) (tg:List met) (k:Nat) (res:Option (Bool×List met)):Prop:=
 ∃b l,res=some (b,l)/\l.length<=k/\(b=true->(∀ρ,Agr ρ l↔Agr ρ tg/\P ρ)/\((∃ρ,Agr ρ tg)->∃ρ,Agr ρ l))/\(b=false->∀ρ,Agr ρ tg->¬P ρ)
def GL.of {P:(cn->Nat)->Prop} {Q:Prop} {tg:List met} {k:Nat} {b:Bool} (w:tg.length<=k) (q:b=true↔Q) (l:∀ρ,P ρ↔Q):GL P tg k (some (b,tg)):=
 ⟨b,tg,rfl,w,λh=>⟨λρ=>⟨λa=>⟨a,(l _).2 (q.1 h)⟩,λa=>a.1⟩,λa=>a⟩,λh ρ _ hp=>by simp_all⟩
def GL.cg {P Q:(cn->Nat)->Prop} {tg:List met} {k k':Nat} {res l:Option (Bool×List met)} (G:GL P tg k res) (O:k<=k') (B:∀ρ,P ρ↔Q ρ) (K:∀r,res=some r->l=some r):GL Q tg k' l:=by obtain⟨b,L,e,N,w,z⟩:=G;refine⟨b,_,K _ e,by omega,λq=>⟨λρ=> ?_,(w q).2⟩,λq ρ D I=>z q _ D ((B _).2 I)⟩;simp_all
section
variable {h:aK} {t:List Template} {sb:Int->Int->Prop} {C:FSt} {ρ:cn->Nat}
def N3 {p q:List Int} (hs:∃n,oW C (p++q)=some n):∃n,oW C p=some n:=by grind[vI,Option.bind_eq_some_iff]
variable {T F:Nat} (hT:TO T sb) (hC:Can T F C) (hts:∀x∈t,(∀j,yb (iD x.gZ j))/\NW x.gZ)
include hT hC hts
theorem WI (d:bI):iW Lg d->∀p,p.length+14 *jH d<=1000000->Sat h t sb C ρ d p->∃n,oW C p=some n:=by
 have G:∀{s p},p.length<=1000000->L3 h sb C s p->∃n,oW C p=some n:=λhp a=>by obtain⟨n,e,_⟩:=(Ul hT hC hp).1 a;simp_all
 induction d using qC with
 |h d S=>
  intro w p hp a;have Q:=w.here.fm.op;have hc:=F4 d;have P:=F5 d.Kids;have hk:=w.here.pl;rw[oT] at a;by_cases U:d.Op=1
  .grind
  rw[az U] at a;by_cases K:d.Op=2
  .rw[aB K] at a;obtain⟨i,x,_,L,N⟩:=a;have I:=hts x (aR L);obtain⟨n,e,_⟩:=(Rj hT af I.1 I.2 hC).1 N;simp_all
  rw[az K] at a;by_cases V:d.Op=3
  .simp_all
  rw[az V] at a;have first:∀q,p.length+60<=q+64->0<d.Kids.length->∀{p'},p'.length<=p.length+4->vH h t _ C _ _ _->∃n,oW C p'=some n:=λq _ h0 p' R a=>by have z:d.Kids[0]∈d.Kids:=bB _;have:=rz z;exact S _ z (w.kids _ z) _ af (T5.1 a _ z)
  by_cases B:d.Op=4
  .rw[aB B] at a;have:=w.here.fm.kd.an B;exact first p.length af af af a
  rw[az B] at a;by_cases D:d.Op=5
  .rw[aB D] at a;have:=w.here.fm.kd.one D;exact N3 (first p.length af af (by simp_all) a)
  rw[az D] at a;by_cases o6:d.Op=6
  .rw[aB o6] at a;exact N3 (G aI a.2)
  by_cases o7:d.Op=7
  .have O:=w.here.fm.kd.two o7;revert a O;cases d.Kids with
   |nil=>simp
   |cons x l=>grind[Opn]
  grind
end
section
variable {h:aK} {T F:Nat} {sb:Int->Int->Prop} {bQ:Int->Int} {val:Int->Int->Int} (H:HX h T F sb bQ val) (hT:T<=1000) (hF:F<=300) {C:FSt} (hC:Can T F C) (Iy:C.au.length<=100000)
include H hT hF hC Iy
theorem c573 {n:Nat} (hn:n<C.au.length) (s:cn):∃b,f573 h C (n:Int) s=some b/\(b=true↔0<=jC h s/\sb (jC h s) (mI C n)):=by
 have w:=H.tl;have q:jC h s<(h.Types.length):=(IN _ _).1;by_cases l:0<=jC h s
 .have ht:=hC.Um (bB hn);obtain⟨r,_,z,B⟩:=H.ss _ _ l af ht.1 ht.2;refine⟨r,e573 ?_,?_⟩
  .rw[aaP _ _ af,aj,cond_pos (by simp_all),bU hn,z,aj]
  simp_all[oa]
 .refine⟨false,e573 ?_,⟨λa=>(by cases a),λa=>absurd a.1 l⟩⟩;rw[aaP _ _ af,aj,cond_neg (by simp_all)]
theorem h577 {p:List cn} (P:p.length<=1000):∀(xs:List cn) (i n:Nat),p.drop i=xs->n<C.au.length->
  LL (n:Int) p (i:Int) h C=some (match Av (jI C) n (xs.map (fC h)) with|some m=>(m:Int)|none=> -1):=by
 have K:=H.hv.fl;intro xs;induction xs with
 |nil=>intro i n l hn;exact adj (by rw[aW l];rfl)
 |cons x xs O=>intro i n l hn;have w:=hC.ao (bB hn);have I:=w.len;refine adj ?_;rw[aP l,ak,cond_pos (by rfl),aJ l,yh _ _ af,aj,aaS (aM _) af,aj,bS];have B:iD C n=PX C.au[n]:=sN _;unfold fr;cases e:fa _ _ with
  |none=>
   have e1:Ac ((jI C).sc n) (fC h x)=none:=by cases D:Ac _ _ with
    |none=>rfl
    |some k=>have:=(xA (hC.wT n)).1 D;rw[B] at this;obtain⟨a,z,q⟩:=aG.1 this;grind[Ez]
   simp_all[Av]
  |some a=>
   obtain⟨z,G⟩:=zL e;have N:=(w.ok a z).2;obtain⟨m,L⟩:=dM N.1;have e1:Ac ((jI C).sc n) (fC h x)=some m:=(xA (hC.wT n)).2 (by rw[B];exact aG.2 ⟨a,z,by simp_all⟩);show(bif !true then _ else LL a.To p _ h C)=_;rw[cond_neg (by rfl),L,aN l af,O _ m (aH l) af,Av,e1]
theorem c577 {p:List cn} (l:p.length<=1000) {n:Nat} (hn:n<C.au.length):f577 h C (n:Int) p=some (match Av (jI C) n (p.map (fC h)) with|some m=>(m:Int)|none=> -1):=
 e577 (h577 H hT hF hC Iy l p 0 n rfl hn)
theorem fol {p:List Int} {n:Nat} (e:oW C p=some n) {ns:List cn} (l:ns.length<=1000):∃k,f577 h C (n:Int) ns=some k/\((k<0/\∀m,oW C (p++ns.map (fC h))≠some m)\/∃m:Nat,k=m/\oW C (p++ns.map (fC h))=some m):=by refine⟨_,c577 H hT hF hC Iy l (aaH hC e),?_⟩;rw[at_add e];grind
theorem bel {p:List Int} (hp:p.length<=1000000) {n:Nat} (e:oW C p=some n) {s:cn} (hs:0<=jC h s):∃b,f573 h C (n:Int) s=some b/\(b=true↔L3 h sb C s p):=by obtain⟨b,l,q⟩:=c573 H hT hF hC Iy (aaH hC e) s;refine⟨b,l,q.trans ⟨λa=>(Ul H.hv.hm.to hC hp).2 ⟨n,e,a.2⟩,λa=>⟨hs,?_⟩⟩⟩;obtain⟨m,w,a⟩:=(Ul H.hv.hm.to hC hp).1 a;simp_all
end
def GL.seq {P Q:(cn->Nat)->Prop} {tg:List met} {B D:Nat} {G res:Option (Bool×List met)} (O:GL P tg B G) (hk:B<=D) (R:∀l,l.length<=B->G=some (true,l)->GL Q l D res) (S:∀l,G=some (false,l)->res=some (false,l)):GL (λρ=>P ρ/\Q ρ) tg D res:=by obtain⟨b,tg1,e,V,I,K⟩:=O;cases b with
 |false=>exact⟨_,_,S _ e,by omega,λq=>(by cases q),λ_ ρ w hp=>K rfl _ w hp.1⟩
 |true=>obtain⟨c,tg2,N,l2,L,c2⟩:=R _ V e;exact⟨c,_,N,l2,λz=>⟨λρ=>by grind,λU=>(L z).2 ((I rfl).2 U)⟩,λz ρ w hp=>c2 z _ (((I rfl).1 _).2 ⟨w,hp.1⟩) hp.2⟩
def GL.no {P:(cn->Nat)->Prop} {tg:List met} {k:Nat} (w:tg.length<=k) (l:∀ρ,¬P ρ):GL P tg k (some (false,tg)):=⟨_,tg,rfl,w,λq=>(by cases q),λ_ ρ _=>l _⟩
def HldC (C:FSt) (q:List Int) (P:(cn->Nat)->Prop) (tg:List met) (k:Nat) (res:Option (Bool×Int×List met)):Prop:=
 GL (λρ=>P ρ/\∃e,oW C q=some e) tg k (res.map λr=>(r.1,r.2.2))/\∀v l,res=some (true,v,l)->∃e:Nat,v=e/\oW C q=some e
def Tf {res:Option (Bool×Int×List met)} {b:Bool} {tg:List met} (e:(res.map λr=>(r.1,r.2.2))=some (b,tg)):∃v,res=some (b,v,tg):=by simp_all
def h571_10 {n:Nat} {d:bI} {tg:List met} (w:tg.length<=1000000):∀(xs:List met) (i:Nat),tg.drop i=xs->
  FG (n:Int) (i:Int) d tg=some (match xs.find? λx=>x.Name==d.Name with|some x=>(x.Node==(n:Int),tg)|none=>(true,tg++[⟨d.Name,n⟩])):=by
 intro xs;induction xs with
 |nil=>intro i l;exact X5 (by rw[aW l,cC _ af ai af];rfl)
 |cons x xs q=>intro i l;refine X5 ?_;rw[aP l,ak,mh l,me l,kH];cases e:x.Name==d.Name with
  |true=>rw[ak,mh l,me l]
  |false=>rw[aA,aN l af];exact q _ (aH l)
def tag_ok {C:FSt} {n:Nat} {p:List Int} (e:oW C p=some n) {d:bI} {tg:List met} (B:tg.length<=1000000):GL (λρ=>oW C p=some (ρ d.Name)) tg (tg.length+1) (FG (n:Int) 0 d tg):=by have g:=h571_10 (n:=n) (d:=d) B tg 0 rfl;cases w:tg.find? _ with
 |some x=>
  rw[w] at g;have l:=lR w;have hn :=by simpa using nN w
  refine⟨_,tg,g,by omega,λz=>⟨λρ=>⟨λa=>⟨a,?_⟩,λa=>a.1⟩,id⟩,λz ρ a q=> ?_⟩
  .have:=a x l;grind
  .have:=a x l;simp_all
 |none=>
  rw[w] at g;have key:∀ρ,Agr ρ (tg++[⟨d.Name,n⟩])↔Agr _ tg/\oW C p=some (ρ d.Name):=λρ=>by
   refine⟨λa=>⟨λx l=>a x (by simp[l]),?_⟩,λa x l=> ?_⟩
   .have:=a ⟨d.Name,n⟩ ai;grind
   .rcases bu.1 l with l|l
    .exact a.1 x l
    simp_all
  refine⟨_,_,g,by simp,λ_=>⟨key,λ⟨ρ,a⟩=>⟨λs=>if s=d.Name then n else ρ s,(key _).2 ⟨λx l=> ?_,?_⟩⟩⟩,λz=>(by cases z)⟩
  .have :=by simpa using uS.1 w x l
   show x.Node=((if x.Name=d.Name then n else ρ _))
   rw[az this];exact a x l
  simp_all
section
variable {h:aK} {T F:Nat} {sb:Int->Int->Prop} {bQ:Int->Int} {val:Int->Int->Int} (H:HX h T F sb bQ val) (hT:T<=1000) (hF:F<=300) {C:FSt} (hC:Can T F C) (Iy:C.au.length<=100000) {t:List Template} (ht:t.length<=1000) (hs:RE T F t)
def DOk (h:aK) (sb:Int->Int->Prop) (C:FSt) (t:List Template) (x:bI):Prop:=∀(n:Nat) (p:List Int) (tg:List met),oW C p=some n->p.length+14 *jH x<=900000->tg.length+jH x<=900000->GL (λρ=>Sat h t sb C ρ x p) tg (tg.length+jH x) (f571 h t C (n:Int) x tg)
theorem h576 {l:List bI} (P:l.length<=1000) {n:Nat} {p:List Int} (e:oW C p=some n) (L:∀x∈l,p.length+14 *jH x<=900000/\DOk h sb C t x):∀(xs:List bI) (i:Nat) (tg:List met),l.drop i=xs->tg.length+dL xs<=900000->
  GL (λρ=>vH h t sb C ρ xs p) tg (tg.length+dL xs) (GG t (n:Int) l true (i:Int) h C tg):=by
 intro xs;induction xs with
 |nil=>intro i tg z B;rw[VV (by rw[aW z,aA])];exact GL.of (Q:=True) af ai λρ=>by rw[vH]
 |cons x xs G=>
  intro i tg z B;rw[dL] at B;obtain⟨I,K⟩:=L x (aR (bV z));have g:∀{b w r},f571 h t C (n) x tg=some (b,w)->GG t _ l b _ h C _=some r->GG t _ l _ _ h C _=some r:=λ{b w r} N Q=>VV (by rw[aP z,ak,ak,aJ z,N,j9,aN z af];omega)
  refine GL.cg (k:=tg.length+jH x+dL xs) ((K n p _ e I af).seq af (λw O q=> ?_) λw q=> ?_) (by rw[dL];omega) (λρ=>by rw[vH]) λr D=>D
  .exact(G _ _ (aH z) af).cg af (λ_=>r6) λr D=>g q D
  simp_all[VV]
include H hT hF hC Iy hs
theorem Yr:∀x∈t,(∀j,yb (iD x.gZ j))/\NW x.gZ:=λx l=>⟨(hs x l).1.wT,aee (hs x l).1 (by have:=(hs x l).2;omega) af⟩
theorem h579 (L:LT h) {l:List bI} (hl:l.length<=1000) (ih:∀x∈l,iW Lg x/\DOk h sb C t x):∀(xs:List bI) (i n:Nat) (p:List Int) (tg:List met),l.drop i=xs->oW C p=some n->p.length+1+14 *dL xs<=900000->tg.length+dL xs<=900000->
  HldC C (eC h p xs.length) (λρ=>Di h t sb C ρ xs p) tg (tg.length+dL xs) (sR t (n:Int) l (i:Int) h C tg):=by
 have R:=H.hv.hm.to;have hts:=Yr H hT hF hC Iy hs;intro xs;induction xs with
 |nil=>
  intro i n p tg I e hp O;have e1:sR t (n:Int) l (i:Int) h C tg=some (true,(n:Int),tg):=adk (by rw[aW I,aA]);have e0:eC h p ([]:List bI).length=p:=ai;rw[e1,e0];exact⟨GL.of (Q:=True) af ai λρ=>by simp_all[Di,trivial],λv B q=>by cases q;exact⟨n,rfl,e⟩⟩
 |cons x xs P=>
  intro i n p tg I e hp O;rw[dL] at hp O;have hx1:=Bw x;have Q:eC h p (x::xs).length=eC h (p++[fC h oz]) xs.length:=KV;obtain⟨xl,xd⟩:=ih x (aR (bV I));obtain⟨k1,g1,K⟩:=fol H hT hF hC Iy e (ns:=[mY]) ai;obtain⟨k2,g2,c2⟩:=fol H hT hF hC Iy e (ns:=[oz]) ai;obtain⟨b,g3,V⟩:=bel H hT hF hC Iy af e L.co;have z:∀{r},(bif decide (k1<0) then some (false,(0:Int),tg) else(bif decide (k2<0) then some (false,0,tg) else(bif !b then some (false,0,tg) else qs (f571 h t C k1 x tg) λG D=>bif !G then some (false,0,D) else sR t k2 l ((i+1:Nat):Int) h C D)))=some r->sR t (n:Int) l (i:Int) h C tg=some r:=λ{r} N=>by refine adk ?_;rw[aP I,ak,g1,aj,g2,aj,g3,aj,aJ I,aN I af];omega
  rw[Q];have no:∀(q:∀ρ,¬(Di h t sb C ρ (x::xs) p/\∃e,oW C (eC h (p++[fC h oz]) xs.length)=some e)),sR t (n:Int) l (i:Int) h C tg=some (false,0,tg)->HldC C (eC h (p++[fC h oz]) xs.length) (λρ=>Di h t sb C ρ (x::xs) p) tg (tg.length+dL (x::xs)) (sR t (n:Int) l (i:Int) h C tg):=λq Q=>by rw[Q];exact⟨.no af q,λv B e=>by cases e⟩
  rcases K with⟨K,n1⟩|⟨m1,rfl,K⟩
  .refine no (λρ a=> ?_) (z (by rw[cond_pos (by rw[bg];exact K)]));have a:=a.1;rw[Di] at a;obtain⟨m,hm⟩:=WI R hC hts x xl _ aI a.2.1;exact n1 m hm
  rcases c2 with⟨c2,n2⟩|⟨m2,rfl,c2⟩
  .refine no (λρ a=> ?_) (z (by rw[cond_neg (by rw[aQ];omega),cond_pos (by rw[bg];exact c2)]));obtain⟨m,hm⟩:=N3 a.2;simp_all
  have z:∀{r},(bif !b then some (false,(0:Int),tg) else qs (f571 h t C (m1:Int) x tg) λG D=>bif !G then some (false,0,D) else sR t (m2:Int) l ((i+1:Nat):Int) h C D)=some r->sR t (n:Int) l (i:Int) h C tg=some r:=λ{r} N=>z (by assumption)
  cases b with
  |false=>refine no (λρ a=> ?_) (z (by rw[cond_pos (by rfl)]));have a:=a.1;rw[Di] at a;have:=V.2 a.1;cases this
  |true=>
   have tc:=V.1 rfl;have go:∀{b B r},f571 h t C (m1:Int) x tg=some (b,B)->(bif !b then some (false,(0:Int),B) else sR t (m2:Int) l ((i+1:Nat):Int) h C B)=some r->sR t _ l _ h C _=some r:=λ{b B r} q1 q2=>z (by rw[q1];exact q2)
   have sx:=xd _ _ tg K aI af;refine⟨GL.cg (k:=tg.length+jH x+dL xs) (P:=λρ=>Sat h t _ C _ x _/\(Di h t sb C ρ xs (p++[fC h oz])/\∃e,oW C (eC h (p++[fC h oz]) xs.length)=some e)) (sx.seq af (λB hk q=> ?_) λB q=> ?_) (by rw[dL];omega) (λρ=> ?_) λr N=>N,λv B q=> ?_⟩
   .refine(P _ _ _ _ (aH I) c2 aI af).1.cg af (λ_=>r6) λr N=> ?_
    obtain⟨y,S,rfl⟩:=cH.1 N;rw[go q (by rw[cond_neg (by rfl)];exact S)];rfl
   .simp_all
   .grind[Di]
   .obtain⟨b,U,s1,s2,_⟩:=sx;cases b with
    |false=>simp_all
    |true=>obtain⟨⟨b2,tg2,S,_⟩,a2⟩:=P _ _ _ U (aH I) c2 aI af;obtain⟨w,hw⟩:=Tf S;grind
end
end Go.Proofs.YthphfjcnkinkpaaGreatDoor.cl.pf
namespace Go.Proofs.YthphfjcnkinkpaaGreatDoor.cl.pf
open Go Go.AM
def TB (h:aK) (T F:Nat) (sb:Int->Int->Prop) (bQ:Int->Int) (val:Int->Int->Int) (t:List Template) (d:bI):Option FSt->Prop
 |some g=>Can T F g/\WT sb bQ val g/\(∀C,Can T F C->Le sb g C->∃ρ,Sat h t sb C ρ d [])/\∀C ρ,Can T F C->WT sb bQ val C->Sat h t sb C ρ d []->Le sb g C
 |none=>∀C ρ,Can T F C->WT sb bQ val C->Sat h t sb C ρ d []->False
def tbR:Option FSt->FSt×Int
 |some g=>if g.au.length>4096 then(⟨[]⟩,7) else(g,0)
 |none=>(⟨[]⟩,12)
def Uj {f g:FSt} {e:Int} (h:(f,e)=tbR (some g)):(f=⟨[]⟩/\e=7/\g.au.length>4096)\/(f=g/\e=0/\g.au.length<=4096):=by
 by_cases l:g.au.length>4096
 .have e1:tbR (some g)=(⟨[]⟩,7):=aB l;rw[e1] at h;cases h;exact .inl ⟨rfl,rfl,l⟩
 .have e1:tbR (some g)=(g,0):=az l;rw[e1] at h;cases h;exact .inr ⟨rfl,rfl,af⟩
section
variable {h:aK} {T F:Nat} {sb:Int->Int->Prop} {bQ:Int->Int} {val:Int->Int->Int} (H:HX h T F sb bQ val) (hT:T<=1000) (hF:F<=300)
include H hT hF
theorem Jc.tb {t:List Template} {d:bI} {f:FSt} {e:Int} (Q:Jc h T F sb t d f e) (R:iW (Kn h t) d):∃y,TB h T F sb bQ val t d y/\(f,e)=tbR y:=by
 rcases Q with⟨a,_⟩|⟨_,⟨B,l,L,N,q,y,I,K⟩|⟨n,rfl,rfl⟩⟩
 .exact(a R).elim
 .have O:Uw T F sb B B B:=⟨l,Le.refl H.hv.hm.to l,Le.refl H.hv.hm.to l,λC _ h _=>h,λP h _=>h⟩
  rcases abS H.hv O (c434 H.hv l L hT af) with⟨g,e1,w⟩|⟨e1,D⟩
  .rw[I] at e1;cases e1;exact⟨some g,⟨w.can,w.wt,λC hC z=>N C hC (Le.trans H.hv.hm.to w.l z),λC ρ hC G hs=>w.least C hC G (q C ρ hC hs) (q C ρ hC hs)⟩,K⟩
  .rw[I] at e1;cases e1;exact⟨none,λC ρ hC G hs=>D C hC G (q C ρ hC hs) (q C ρ hC hs),K⟩
 .exact⟨none,λC ρ hC _ hs=>n C ρ hC hs,rfl⟩
variable (uG:0<T)
include uG
end
end Go.Proofs.YthphfjcnkinkpaaGreatDoor.cl.pf
namespace Go.Proofs.YthphfjcnkinkpaaGreatDoor.cl.pf
open Go Go.AM
section
variable {h:aK} {T F:Nat} {sb:Int->Int->Prop} {bQ:Int->Int} {val:Int->Int->Int} (H:HX h T F sb bQ val) (hT:T<=1000) (hF:F<=300)
section
variable {C:FSt} (hC:Can T F C) (Iy:C.au.length<=100000) {t:List Template} (ht:t.length<=1000) (hs:RE T F t)
omit H hT hF in
theorem c574 (hF:F<=1000) (hC:Can T F C) (Iy:C.au.length<=100000) {n:Nat} (hn:n<C.au.length):f574 C (n:Int)=some (ad7 C n):=by have g:=c436 (f:=C) (λx l=>⟨by have:=(hC.ao l).len;omega,λa q=>((hC.ao l).ok a q).2⟩) af hn;rw[Yq λx l=>(hC.ao l).wT] at g;exact e574 (by rw[g,aj];rfl)
include H hT hF hC Iy ht hs
theorem c571 (d:bI):iW (Gd h t) d->DOk h sb C t d:=by
 have P:=H.hv.hm.to;have hts:=Yr H hT hF hC Iy hs;refine qC (P:=λd=>iW (Gd h t) d->DOk h sb C t d) (λd ih0 hd n p tg e hp htg=> ?_) d;have gd:=hd.here;have hkl:=gd.kl;have hpp:=gd.pl;have hop:=gd.fm.op;have ih:∀k∈d.Kids,DOk h sb C t k:=λk hk=>ih0 k hk (hd.kids k hk)
 have hdc:=F4 d;have hll:=F5 d.Kids;have lg:∀{x},iW (Gd h t) x->iW Lg x:=λG=>G.imp λd q=>⟨q.fm,q.kl,q.pl⟩
 have hn:=aaH hC e;have ks:∀x∈d.Kids,jH x<=dL d.Kids:=λx G=>rz G
 by_cases o1:d.Op=1
 .obtain⟨b,g1,g2⟩:=bel H hT hF hC Iy af e (gd.kn.ty o1);rw[e571 (by rw[o1,cond_pos (by rfl),g1,aj])];exact GL.of af g2 λρ=>by rw[oT,aB o1]
 by_cases o2:d.Op=2
 .obtain⟨i,x,q1,q2⟩:=gd.kn.tm o2;obtain⟨x1,x2⟩:=hs x (aR q2);have G:=hts x (aR q2);have hil:=(bR.1 q2).1;have hxe:t[i]=x:=(bR.1 q2).2;have abm:f515 t d.Name=some (i:Int):=by rw[UZ _ _ af,<-q1]
  obtain⟨b,g1,g2⟩:=c575 H x1 (sub_can hC hn) af af;rw[e571 (by rw[o2,cond_neg (by rfl),cond_pos (by rfl),abm,aj,cond_pos (by rfl),bU hil,c574 af hC Iy hn,aj,hxe,g1,aj])];refine GL.of af g2 λρ=> ?_
  rw[oT,az o1,aB o2,<-Zy P hC hn];constructor
  .rintro⟨i2,y,w1,w2,a⟩
   have:i2=i:=af
   subst this;rw[q2] at w2;cases w2;obtain⟨m,e2,a⟩:=(Rj P af G.1 G.2 hC).1 a;rw[e] at e2;cases e2;exact a
  .exact λa=>⟨i,x,q1,q2,(Rj P af G.1 G.2 hC).2 ⟨n,e,a⟩⟩
 by_cases o3:d.Op=3
 .refine(tag_ok e (d:=d) (tg:=tg) af).cg af (λρ=>by rw[oT,az o1,az o2,aB o3]) λr O=>e571 ?_
  rw[o3,cond_neg (by rfl),cond_neg (by rfl),cond_pos (by rfl)];exact O
 by_cases o4:d.Op=4
 .refine(h576 (t:=t) (l:=d.Kids) af e (λx G=>⟨by have:=ks x G;omega,ih x G⟩) d.Kids 0 tg rfl af).cg af (λρ=>by simp_all[oT,az,aB]) λr O=>e571 ?_
  rw[o4,cond_neg (by rfl),cond_neg (by rfl),cond_neg (by rfl),cond_pos (by rfl),e576 O];rfl
 by_cases o5:d.Op=5
 .have h1:=gd.fm.kd.one o5;obtain⟨k0,Q⟩:=zi.1 h1;have hk0:k0∈d.Kids:=by rw[Q];simp
  have hdk:dL d.Kids=jH k0:=by rw[Q];simp[dL]
  have es:∀ρ,Sat h t sb C ρ k0 (p++d.Path.map (fC h))↔Sat h t sb C ρ d p:=λρ=>by rw[oT (d:=d),az o1,az o2,az o3,az o4,aB o5,Q,vH,vH];exact⟨λa=>⟨a,trivial⟩,λa=>a.1⟩
  have g0:∀{R:Type} (k:bI->Option R),bf d.Kids 0 k=k k0:=λk=>by rw[Q];exact jk _ _ _
  obtain⟨k1,g1,V⟩:=fol H hT hF hC Iy e (ns:=d.Path) af;have B:∀{r},(bif decide (k1<0) then some (false,tg) else f571 h t C k1 k0 tg)=some r->f571 h t C (n:Int) d tg=some r:=λ{r} O=>by
   refine e571 ?_;rw[o5,cond_neg (by rfl),cond_neg (by rfl),cond_neg (by rfl),cond_neg (by rfl),cond_pos (by rfl),g1,aj,g0]
   have:∀x:Option (Bool×List met),(qs x λy z=>some (y,z))=x:=λx=>by cases x<;>rfl
   rw[this];exact O
  have M6:(p++d.Path.map (fC h)).length<=p.length+4:=by rw[cE,bz];omega
  rcases V with⟨V,n1⟩|⟨m1,rfl,V⟩
  .rw[B (by rw[cond_pos (by rw[bg];exact V)])];refine .no af λρ a=> ?_
   obtain⟨m,hm⟩:=WI P hC hts k0 (lg (hd.kids k0 hk0)) _ af ((es ρ).2 a);simp_all
  .exact(ih k0 hk0 m1 _ tg V af af).cg af es λr O=>B (by assumption)
 have L:=gd.kn.ls af;have els:∀{l:List bI},(∀x∈l,x∈d.Kids)->dL l<=dL d.Kids->l.length<=1000->∀{m:Nat} {q:List Int},oW C q=some m->q.length<=p.length+1->HldC C (eC h q l.length) (λρ=>Di h t sb C ρ l q) tg (tg.length+dL l) (f579 h t C (m:Int) l tg):=λ{l} hm hc hl {m q} e hq=>by obtain⟨a1,a2⟩:=h579 H hT hF hC Iy hs L (l:=l) hl (λx G=>⟨lg (hd.kids x (hm x G)),ih x (hm x G)⟩) l 0 m q tg rfl e af af;obtain⟨b,w,hb,h2⟩:=a1;obtain⟨v,N⟩:=Tf hb;have e9:=e579 N;have Vw:=N;have Vw:sR t (m:Int) l 0 h C tg=_:=Vw;unfold HldC;rw[e9,<-Vw];exact⟨⟨b,w,hb,h2⟩,a2⟩
 by_cases o6:d.Op=6
 .obtain⟨a1,a2⟩:=els (l:=d.Kids) (λx G=>G) af af e af;have br:∀{b v w r},f579 h t C (n:Int) d.Kids tg=some (b,v,w)->(bif b then Option.bind (f573 h C v ua) λaeC=>some (aeC,w) else some (false,w))=some r->f571 h t C (n:Int) d tg=some r:=λ{b v w r} q1 q2=>by
   refine e571 ?_;rw[o6,cond_neg (by rfl),cond_neg (by rfl),cond_neg (by rfl),cond_neg (by rfl),cond_neg (by rfl),cond_neg (by rfl),cond_neg (by rfl),q1,bG];exact q2
  have hq:(eC h p d.Kids.length).length<=1000000:=aI;refine GL.cg (k:=tg.length+jH d) (P:=λρ=>(Di h t sb C ρ d.Kids p/\∃e,oW C (eC h p d.Kids.length)=some e)/\L3 h sb C ua (eC h p d.Kids.length)) (a1.seq af (λw hk q=> ?_) λw q=> ?_) af (λρ=> ?_) λr O=>O
  .obtain⟨v,N⟩:=Tf q;obtain⟨m,rfl,S⟩:=a2 v w N;obtain⟨b,g1,g2⟩:=bel H hT hF hC Iy hq S L.nu;rw[br N (by rw[ak,g1,aj])];exact GL.of af g2 λ_=>r6
  .obtain⟨v,N⟩:=Tf q;exact br N (by rw[aA])
  .rw[oT,az o1,az o2,az o3,az o4,az o5,aB o6];refine⟨λa=>⟨a.1.1,a.2⟩,λa=>⟨⟨a.1,?_⟩,a.2⟩⟩;obtain⟨m,S,_⟩:=(Ul P hC hq).1 a.2;exact⟨m,S⟩
 by_cases o7:d.Op=7
 .have h2:=gd.fm.kd.two o7;obtain⟨k,hk⟩:∃k,d.Kids.length=k+1:=⟨d.Kids.length-1,af⟩
  have hnl:k<d.Kids.length:=af;have Rt:(d.Kids.take k).length=k:=by rw[e7];omega
  have hdl:=JH hk;have Q:d.Kids=d.Kids.take k++[d.Kids[k]]:=by have:=lT k d.Kids;rw[iH hnl,List.drop_of_length_le (by omega:d.Kids.length<=k+1)] at this;exact this.symm
  have hlm:d.Kids[k]∈d.Kids:=bB hnl;have es:∀ρ,(Di h t sb C ρ (d.Kids.take k) p/\Sat h t sb C ρ d.Kids[k] (eC h p k))↔Sat h t sb C ρ d p:=λρ=>by have:=KH (h:=h) (t:=t) (sb:=sb) (C:=C) (ρ:=ρ) (x:=d.Kids[k]) (l:=d.Kids.take k) (p:=p);rw[Rt,<-Q] at this;rw[oT (d:=d),az o1,az o2,az o3,az o4,az o5,az o6,aB o7];exact this.symm
  obtain⟨a1,a2⟩:=els (l:=d.Kids.take k) (λx G=>s9 G) af af e af;rw[Rt] at a1 a2;have br:∀{b v w r},f579 h t C (n:Int) (d.Kids.take k) tg=some (b,v,w)->(bif !b then some (false,w) else f571 h t C v d.Kids[k] w)=some r->f571 h t C (n:Int) d tg=some r:=λ{b v w r} q1 q2=>by
   refine e571 ?_
   have:∀x:Option (Bool×List met),(qs x λy z=>some (y,z))=x:=λx=>by cases x<;>rfl
   rw[o7,cond_neg (by rfl),cond_neg (by rfl),cond_neg (by rfl),cond_neg (by rfl),cond_neg (by rfl),cond_neg (by rfl),cond_pos (by rfl),hk,oF af,bT ⟨af,af⟩,aT,nR,q1,bG,bU hnl,this];omega
  have hq:(eC h p k).length<=p.length+12:=aI;refine GL.cg (k:=tg.length+jH d) (P:=λρ=>(Di h t sb C ρ (d.Kids.take k) p/\∃e,oW C (eC h p k)=some e)/\Sat h t sb C ρ d.Kids[k] (eC h p k)) (a1.seq af (λw hk q=> ?_) λw q=> ?_) af (λρ=> ?_) λr O=>O
  .obtain⟨v,N⟩:=Tf q;obtain⟨m,rfl,S⟩:=a2 v w N;exact(ih _ hlm m _ w S af af).cg af (λ_=>r6) λr O=>br N (by assumption)
  .obtain⟨v,N⟩:=Tf q;grind
  .rw[<-es];exact⟨λa=>⟨a.1.1,a.2⟩,λa=>⟨⟨a.1,WI P hC hts _ (lg (hd.kids _ hlm)) _ af a.2⟩,a.2⟩⟩
 have o8:d.Op=8:=af;have es:∀ρ,(L3 h sb C qX p/\Di h t sb C ρ d.Kids (mo h p)/\L3 h sb C rG (eC h (mo h p) d.Kids.length)/\EqS (eC h (mo h p) d.Kids.length) (p++[fC h qv]) C)↔Sat h t sb C ρ d p:=λρ=>by simp_all[oT,az]
 have hq:(eC h (mo h p) d.Kids.length).length<=1000000:=aI;obtain⟨k1,g1,V⟩:=fol H hT hF hC Iy e (ns:=[AP]) ai;obtain⟨k2,g2,c2⟩:=fol H hT hF hC Iy e (ns:=[qv]) ai;obtain⟨b,g3,c3⟩:=bel H hT hF hC Iy af e L.dl;have B:∀{r},(bif decide (k1<0) then some (false,tg) else(bif decide (k2<0) then some (false,tg) else(bif !b then some (false,tg) else eM (f579 h t C k1 d.Kids tg) λU I D=>bif U then(bif I==k2 then Option.bind (f573 h C I rG) λK=>some (K,D) else some (false,D)) else some (false,D))))=some r->f571 h t C (n:Int) d tg=some r:=λ{r} O=>by refine e571 ?_;rw[o8,cond_neg (by rfl),cond_neg (by rfl),cond_neg (by rfl),cond_neg (by rfl),cond_neg (by rfl),cond_pos (by rfl),e578 (r:=r) (by simp_all)];rfl
 rcases V with⟨V,n1⟩|⟨m1,rfl,V⟩
 .rw[B (by rw[cond_pos (by simp_all)])];refine .no af λρ a=> ?_
  obtain⟨m,S,_⟩:=(Ul P hC hq).1 ((es ρ).2 a).2.2.1;obtain⟨m,S⟩:=N3 ⟨m,S⟩;simp_all
 rcases c2 with⟨c2,n2⟩|⟨m2,rfl,c2⟩
 .rw[B (by rw[cond_neg (by rfl),cond_pos (by simp_all)])];refine .no af λρ a=> ?_
  grind
 have B:∀{r},(bif !b then some (false,tg) else eM (f579 h t C (m1:Int) d.Kids tg) λU I D=>bif U then(bif I==(m2:Int) then Option.bind (f573 h C I rG) λK=>some (K,D) else some (false,D)) else some (false,D))=some r->f571 h t C (n:Int) d tg=some r:=λ{r} O=>B (by assumption)
 cases b with
 |false=>
  rw[B (by rfl)];refine .no af λρ a=> ?_
  simp_all
 |true=>
  have tc:=c3.1 rfl;obtain⟨a1,a2⟩:=els (l:=d.Kids) (λx G=>G) af af (q:=mo h p) V ai;have br:∀{b v w r},f579 h t C (m1:Int) d.Kids tg=some (b,v,w)->(bif b then(bif v==(m2:Int) then Option.bind (f573 h C v rG) λK=>some (K,w) else some (false,w)) else some (false,w))=some r->f571 h t C _ d _=some r:=λ{b v w r} q1 q2=>B (by simp_all[bG])
  refine GL.cg (k:=tg.length+jH d) (P:=λρ=>(Di h t _ C _ _ _/\∃e,oW C _=some e)/\(L3 h sb C rG (eC h (mo h p) d.Kids.length)/\EqS (eC h (mo h p) d.Kids.length) (p++[fC h qv]) C)) (a1.seq af (λw hk q=> ?_) λw q=> ?_) af (λρ=> ?_) λr O=>O
  .obtain⟨v,N⟩:=Tf q;obtain⟨m,rfl,S⟩:=a2 v _ N;obtain⟨b,g5,g6⟩:=bel H hT hF hC Iy hq S L.li;by_cases hm:m=m2
   .subst hm;rw[br N (by rw[ak,cond_pos ai,g5,aj])];exact GL.of af g6 λ_=>⟨λa=>a.1,λa=>⟨a,m,S,c2⟩⟩
   .rw[br N (by rw[ak,cond_neg (by grind)])];refine .no af λρ a=> ?_
    grind
  .obtain⟨v,N⟩:=Tf q;simp_all
  grind
theorem c569 {d:bI} (z:iW Lg d) (B:iW (Kn h t) d) (L:jH d<=1000):∃b,f569 h t C d=some b/\(b=true↔∃ρ,Sat h t sb C ρ d []):=by
 obtain⟨b,tg,g,_,l,G⟩:=c571 H hT hF hC Iy ht hs d ((z.and B).imp λd q=>⟨q.1.fm,q.1.kl,q.1.pl,q.2⟩) 0 [] [] rfl aI aI;have N:∀ρ,Agr ρ []:=λρ x D=>by cases D
 have g:f571 h t C 0 d _=_:=g;refine⟨b,e569 (by rw[g,j9]),λw=> ?_,λ⟨ρ,a⟩=> ?_⟩
 .obtain⟨I,K⟩:=l w;simp_all
 grind
end
variable (uG:0<T)
include H hT hF uG
theorem Mi {c:Case} (hh:f403 c.Decls=some h) (hex:f499=some true):f567 c=some true:=by
 obtain⟨t,b,g1,g2⟩:=c498 H hT hF uG c;cases b with
 |false=>simp_all[e567,aj,cond_pos]
 |true=>
 obtain⟨D,I,_⟩:=g2 rfl;have h4:=D.len;have ht:HZ t t:= .refl D.wT af;have hcX:=I.cnt;have R:=H.hv.hm.to;obtain⟨f,e,_,j1,j2,L⟩:=FV (u:=t) H hT hF af D.str uG I.lg af;obtain⟨r1,v1,v2⟩:=c408 h c.F;rw[H.tl,H.hv.fl] at v2;have l:∀{b:Bool} {r:Option Bool},(b=false\/(b=true/\r=some true))->(bif(!b) then(Option.bind (f499 ) λy=>some y) else r)=some true:=λ{b r} Q=>by grind
 have q:∀{e:Int} {r:Option Bool},(e≠0\/(e=0/\r=some true))->(bif(e !=0) then(Option.bind (f499 ) λy=>some y) else r)=some true:=λ{e r} Q=>by grind
 by_cases q0:e=0
 .subst q0;have kn:=L.kn rfl;obtain⟨y,t1,N⟩:=L.tb H hT hF kn;cases y with
  |none=>cases N
  |some w=>
  have ew:w=f/\w.au.length<=4096:=by
   rcases Uj N with⟨_,r,_⟩|⟨r1,_,r2⟩
   .omega
   .simp_all
  obtain⟨rfl,K⟩:=ew;obtain⟨B,ww,wu,wl⟩:=t1;obtain⟨e1,k1,k2⟩:=c410 (h:=h) (f:=w) (λx hx=>by have:=(B.ao hx).len;omega);rw[H.tl,H.hv.fl] at k2;have O:=k2.2 ⟨B,K⟩;have k3:=c411 H B ww K af;obtain⟨b,k4,k5⟩:=c569 H hT hF B af af D.str I.lg kn af;have Q:=k5.2 (wu w B (Le.refl R B));subst Q;subst O;refine e567 ?_;rw[hh,aj,g1,aj,cond_neg (by rfl),j1 ht,aj,k1,k3,k4,v1];refine l ?_;cases r1 with
  |false=>simp
  |true=>
   refine .inr ⟨rfl,?_⟩;have V:=v2 rfl;have hn:=V.lt.n;obtain⟨P,S,U⟩:=c417 H V.lt;rw[S];refine q ?_;by_cases z:P=0
   .refine .inr ⟨z,?_⟩;obtain⟨G,fw⟩:=U z;obtain⟨b,k6,k7⟩:=c569 H hT hF G af af D.str I.lg kn af;rw[cond_neg (by rfl),k6];refine l ?_;cases b with
    |false=>simp
    |true=>obtain⟨b,k8,k9⟩:=c412 H B G af af;grind
   omega
 .refine e567 ?_;rw[hh,aj,g1,aj,cond_neg (by rfl),j1 ht,aj,cond_neg (by simp_all),v1];refine l ?_;cases r1 with
  |false=>simp
  |true=>
   refine .inr ⟨rfl,?_⟩;have V:=v2 rfl;have hn:=V.lt.n;obtain⟨P,S,U⟩:=c417 H V.lt;rw[S];refine q ?_;by_cases z:P=0
   .obtain⟨G,fw⟩:=U z;by_cases q12:e=12
    .subst q12;have kn:iW (Kn h t) c.X:=by
      rcases L with⟨_,_,e5⟩|⟨a,_⟩
      .cases e5
      .exact a
     obtain⟨y,t1,N⟩:=L.tb H hT hF kn;cases y with
     |some w=>
      rcases Uj N with⟨_,r,_⟩|⟨_,r,_⟩
      .cases r
      omega
     |none=>obtain⟨b,k6,k7⟩:=c569 H hT hF G af af D.str I.lg kn af;cases b with
      |false=>simp_all
      |true=>obtain⟨ρ,a⟩:=k7.1 rfl;exact(t1 _ _ G fw a).elim
    grind
   omega
end
end Go.Proofs.YthphfjcnkinkpaaGreatDoor.cl.pf
namespace Go.Proofs.YthphfjcnkinkpaaGreatDoor.cl.pf
open Go Go.AM
def law567 {c:Case} (z:Sz c.Decls) (B:Fz c.Decls) (q:f499=some true):f567 c=some true:=by obtain⟨h,t,w,l⟩:=c403 z B;have:=l.F;exact Mi l.hx l.T af l.P w q
