/- Canon; the same value at two paths (the reference's sharing). -/
import Derived.Test.YtacapiamkgkkjaaGreatDoorClXn
import Derived.Test.YtacapiamkgkkjaaGreatDoorClXe
set_option linter.all false
open Int (toNat)
namespace Go.Proofs.YtacapiamkgkkjaaGreatDoor.cl.pf
open Go Go.AM
def ZH (l:List (List cD)):Nat->List Int->Nat->Prop
 |x,[],y=>x=y
 |x,f::q,y=>∃z:Nat,(⟨f,(z:Int)⟩:cD)∈l.getD x []/\ZH l z q y
def ZH.snoc {q:List (List cD)} {f:Int} {z:Nat}:∀{D:List Int} {x y:Nat},ZH q x D y->(⟨f,(z:Int)⟩:cD)∈q.getD y []->ZH q x (D++[f]) z
 |[],x,y,h,l=>by cases h;exact⟨z,l,rfl⟩
 |g::D,x,y,⟨w,G,h⟩,l=>⟨w,G,ZH.snoc h l⟩
def ZH.mono {z D:List (List cD)} (h:∀x,∀a∈z.getD x [],a∈D.getD x []):∀{q:List Int} {x y:Nat},ZH z x q y->ZH D x q y
 |[],_,_,l=>l
 |_::q,x,y,⟨w,G,l⟩=>⟨w,h x _ G,ZH.mono h l⟩
def zi (A:List Int):List (List cD):=(List.range (A.length+1)).map λj=>match A[j]? with
 |some f=>[⟨f,(j+1:Nat)⟩]
 |none=>[]
def Cu {A:List Int} {j:Nat} (h:j<A.length):(zi A).getD j []=[⟨A[j],(j+1:Nat)⟩]:=by grind[zi]
def EV {A:List Int} {j:Nat} (h:A.length<=j):(zi A).getD j []=[]:=by unfold zi;grind
def O3 {A:List Int}:∀i,i<=A.length->ZH (zi A) 0 (A.take i) i
 |0,_=>rfl
 |i+1,h=>by rw[dy,aM af];exact(O3 i af).snoc (by rw[Cu af];simp)
section
variable {F:Nat} {A B:List Int} (hA:∀f∈A,0<=f/\f<(F:Int)) (hB:∀f∈B,0<=f/\f<(F:Int)) (hAl:A.length<=1000) (hBl:B.length<=1000) (hF:F<=1000) (hB0:B≠[]) (hnp:¬B<+:A)
structure SI (F:Nat) (A B:List Int) (n i:Nat) (ys:List (List cD)):Prop where
 len:A.length+1<=ys.length
 le:ys.length<=A.length+1+i
 aw:∀x,x<ys.length->AW F ys.length (ys.getD x [])
 pa:ZH ys 0 A A.length
 pb:ZH ys 0 (B.take i) n
 nlt:n<ys.length
 dK:∀(C:FSt) (T' k:Nat),Can T' F C->Gl C A=some k->Gl C B=some k->∃m:Nat->Nat,m 0=0/\m A.length=k/\m n=ZK (qS C) B i/\∀x,x<ys.length->∀a∈ys.getD x [],(a.bP,m a.To.toNat)∈lU C (m x)
 ph:ys.getD n []=[]\/(n=i/\i<=A.length/\B.take i=A.take i/\ys=zi A)
theorem add_get {l:List (List cD)} {n x:Nat} {a:cD} (hn:n<l.length):(l.set n (l.getD n []++[a])).getD x []=if n=x then l.getD n []++[a] else l.getD x []:=by grind
theorem AW.snoc {F n:Nat} {l:List cD} (h:AW F n l) {a:cD} (G:(0<=a.bP/\a.bP<(F:Int))/\0<=a.To/\a.To<(n:Int)) (w:fa l a.bP=none):AW F n (l++[a]):=by
 refine⟨?_,λb q=> ?_⟩
 .rw[cE,gW];refine⟨h.nd,by simp,λx D y z=> ?_⟩;simp at z;subst z;obtain⟨b,q,rfl⟩:=aG.1 D;exact XV w b q
 .rcases bf.1 q with q|q
  .exact h.ok b q
  simp_all
theorem AW.more {F n w:Nat} {l:List cD} (h:AW F n l) (hn:n<=w):AW F w l:=⟨h.nd,λb q=>⟨(h.ok b q).1,(h.ok b q).2.1,by have:=(h.ok b q).2.2;omega⟩⟩
include hA in
theorem SI.init:SI F A B 0 0 (zi A):=by
 have z:(zi A).length=A.length+1:=by simp[zi]
 refine⟨af,by omega,λx q=> ?_,?_,rfl,by omega,λC G k D w H=>⟨ZK (qS C) A,rfl,OO w,rfl,λx q a l=> ?_⟩, .inr ⟨rfl,by omega,rfl,rfl⟩⟩
 .rw[z] at q⊢;by_cases h:x<A.length
  .rw[Cu h];exact⟨ai,λa l=>by simp at l;subst l;exact⟨hA _ (cG h),by show 0<=((x+1:Nat):Int);omega,by show((x+1:Nat):Int)<((A.length+1:Nat):Int);omega⟩⟩
  .rw[EV af];exact⟨ai,λa l=>by cases l⟩
 .have:=O3 (A:=A) A.length (aQ _);rwa[fZ] at this
 .rw[z] at q;by_cases h:x<A.length
  .rw[Cu h] at l;simp at l;subst l;exact Et D.RX w h
  .rw[EV af] at l;cases l
include hB in
theorem SI.go {n i:Nat} {H:List (List cD)} (I:SI F A B n i H) (K:i<B.length) {a:cD} (Q:fa (H.getD n []) B[i]=some a):0<=a.To/\SI F A B a.To.toNat (i+1) H:=by
 obtain⟨q,z⟩:=Jf Q;rcases I.ph with h|⟨rfl,R,G,rfl⟩
 .rw[h] at q;cases q
 .have w:n<A.length:=by
   by_cases h:n<A.length
   .exact h
   .rw[EV af] at q;cases q
  rw[Cu w] at q;simp at q;subst q;have z:A[n]=B[n]:=z;have hl:(zi A).length=A.length+1:=by simp[zi]
  have l:B.take (n+1)=A.take (n+1):=by rw[dy,dy,G,aM K,aM w,z]
  refine⟨by show 0<=((n+1:Nat):Int);omega,?_⟩;show SI F A B ((n+1:Nat):Int).toNat (n+1) (zi A);rw[aS];refine⟨I.len,by have:=I.le;omega,I.aw,I.pa,?_,by omega,λC O k D S L=> ?_, .inr ⟨rfl,by omega,l,rfl⟩⟩
  .rw[l];exact O3 (n+1) af
  .obtain⟨m,U,V,m2,N⟩:=I.dK C O k D S L;refine⟨m,U,V,?_,N⟩;have e1:=N n I.nlt ⟨A[n],(n+1:Nat)⟩ (by rw[Cu w];simp);have P:=Et D.RX L K;simp only at e1;rw[m2,z,aS] at e1;exact(D.zW _).RX e1 P
include hB in
theorem SI.new {n i:Nat} {l:List (List cD)} (I:SI F A B n i l) (N:i<B.length) (L:fa (l.getD n []) B[i]=none):SI F A B l.length (i+1) (l.set n (l.getD n []++[(⟨B[i],(l.length:Nat)⟩:cD)])++[[]]):=by
 have R:(l.set n (l.getD n []++[(⟨B[i],(l.length:Nat)⟩:cD)])++[[]]).length=l.length+1:=ai;have K:∀x,x<l.length->(l.set n (l.getD n []++[(⟨B[i],(l.length:Nat)⟩:cD)])++[[]]).getD x []=if n=x then l.getD n []++[(⟨B[i],(l.length:Nat)⟩:cD)] else l.getD x []:=λx H=>by rw[Ac (by simpa using H),add_get I.nlt]
 have G:(l.set n (l.getD n []++[(⟨B[i],(l.length:Nat)⟩:cD)])++[[]]).getD l.length []=[]:=by rw[DY ai];simp
 have z:∀x,∀b∈l.getD x [],b∈(l.set n (l.getD n []++[(⟨B[i],(l.length:Nat)⟩:cD)])++[[]]).getD x []:=λx b D=>by
  by_cases H:x<l.length
  .rw[K x H];by_cases e:n=x
   .subst e;rw[aC rfl];exact dx _ D
   .rw[aA e];exact D
  .rw[bD,ig af] at D;cases D
 have O:=I.nlt;have V:=I.len;have Q:=I.le;refine⟨af,by omega,λx H=> ?_,I.pa.mono z,?_,by omega,λC U k P k1 S=> ?_, .inl G⟩
 .rw[R] at H⊢;by_cases w:x<l.length
  .rw[K x w];by_cases e:n=x
   .subst e;rw[aC rfl];exact((I.aw n w).more af).snoc ⟨hB _ (cG N),by show 0<=((l.length:Nat):Int);omega,by show((l.length:Nat):Int)<((l.length+1:Nat):Int);omega⟩ L
   .rw[aA e];exact(I.aw x w).more af
  .have e:x=l.length:=af;subst e;rw[G];exact⟨ai,λa L=>by cases L⟩
 .rw[dy,aM N];exact(I.pb.mono z).snoc (by rw[K n O,aC rfl];simp)
 .obtain⟨m,m0,m1,m2,m3⟩:=I.dK C U k P k1 S;refine⟨λx=>if x=l.length then ZK (qS C) B (i+1) else m x,?_,?_,by simp,λx H a q=> ?_⟩
  .show(if 0=l.length then _ else _)=0;rw[aA af];exact m0
  .show(if A.length=l.length then _ else _)=k;rw[aA af];exact m1
  .rw[R] at H;by_cases w:x<l.length
   .rw[K x w] at q;have old:∀b∈l.getD x [],(b.bP,if b.To.toNat=l.length then ZK (qS C) B (i+1) else m b.To.toNat)∈lU C (if x=l.length then ZK (qS C) B (i+1) else m x):=λb D=>by
     have:=((I.aw x w).ok b D).2;rw[aA af,aA af];exact m3 x w b D
    by_cases e:n=x
    .subst e;rw[aC rfl] at q;rcases bf.1 q with q|q
     .exact old a q
     .simp at q;subst q;show(B[i],if((l.length:Nat):Int).toNat=l.length then _ else _)∈lU C (if n=l.length then _ else _);rw[aS,aC rfl,aA af,m2];exact Et P.RX S N
    .rw[aA e] at q;exact old a q
   .have e:x=l.length:=af;subst e;rw[G] at q;cases q
include hA hB hB0 hnp hAl hBl hF in
include hA hB hB0 hnp hAl hBl hF in
include hA hB hB0 hnp hAl hBl hF in
end
end Go.Proofs.YtacapiamkgkkjaaGreatDoor.cl.pf
namespace Go.Proofs.YtacapiamkgkkjaaGreatDoor.cl.pf
open Go Go.AM
def nmA (l:List cD):List Int:=l.flatMap λa=>[a.bP,a.To]
def nmN (x:Node):List Int:=[x.eF,(x.cn.length:Int)]++nmA x.cn
def nmF (f:FSt):List Int:=(f.az.length:Int)::f.az.flatMap nmN
def YS (l:List cD):(nmA l).length=2 *l.length:=by induction l with
 |nil=>rfl
 |cons a l q=>simp only[nmA,qx,bR,bA,fK] at q⊢;omega
def YR:∀{l m:List cD} {x y:List Int},l.length=m.length->nmA l++x=nmA m++y->l=m/\x=y
 |[],[],x,y,_,h=>⟨rfl,by simpa[nmA] using h⟩
 |a::l,b::m,x,y,q,h=>by simp only[nmA,qx,gB,dU,c9] at h;obtain⟨D,G,z⟩:=h;obtain⟨e1,w⟩:=YR (l:=l) (m:=m) (by simpa using q) z;exact⟨by rw[e1];congr 1;cases a;cases b;simp_all,w⟩
 |[],b::m,_,_,q,_=>by simp at q
 |a::l,[],_,_,q,_=>by simp at q
def nmN_inj {a b:Node} {x y:List Int} (h:nmN a++x=nmN b++y):a=b/\x=y:=by simp only[nmN,gB,dU,c9] at h;obtain⟨w,z,q⟩:=h;obtain⟨e1,l⟩:=YR af q;exact⟨by cases a;cases b;simp_all,l⟩
def YT:∀{l m:List Node} {x y:List Int},l.length=m.length->l.flatMap nmN++x=m.flatMap nmN++y->l=m/\x=y
 |[],[],x,y,_,h=>⟨rfl,by simpa using h⟩
 |a::l,b::m,x,y,q,h=>by rw[qx,qx,dz,dz] at h;obtain⟨e1,D⟩:=nmN_inj h;obtain⟨w,z⟩:=YT (by simpa using q) D;exact⟨by rw[e1,w],z⟩
 |[],b::m,_,_,q,_=>by simp at q
 |a::l,[],_,_,q,_=>by simp at q
def nmF_inj {a b:FSt} {x y:List Int} (h:nmF a++x=nmF b++y):a=b:=by simp only[nmF,gB,c9] at h;obtain⟨q,l⟩:=h;have:=(YT af l).1;cases a;cases b;simp_all
structure Sm (f:FSt):Prop where
 n:f.az.length<=5000
 a:∀x∈f.az,x.cn.length<=1000
def h432_8 {f:FSt} {i:Nat} {res:List Int} {l:List cD} (G:l.length<=1000):∀(xs:List cD) (k:Nat) (o:List Int),l.drop k=xs->o.length+2 *xs.length<=100000000->
  Mi (IntKind.wrap .i64 ((i:Int)+1)) f (o++nmA xs)=some res->Rl (i:Int) l (k:Int) f o=some res:=by
 intro xs;induction xs with
 |nil=>intro k o q _ w;refine adG ?_;rw[bg q,au];simpa[nmA] using w
 |cons x xs D=>intro k o q z w;refine adG ?_;rw[aR q,aj,aK q,aK q,cF _ (by simp at z;omega) ai af,aN q af];refine D (k+1) _ (aI q) (by simp at z⊢;omega) ?_;simpa[nmA] using w
def h432_3 {f:FSt} (hf:Sm f):∀(xs:List Node) (i:Nat) (o:List Int),f.az.drop i=xs->o.length+2002 *xs.length<=100000000->Mi (i:Int) f o=some (o++xs.flatMap nmN):=by intro xs;induction xs with
 |nil=>intro i o l _;refine adF ?_;rw[bg l,au];simp
 |cons x xs z=>intro i o l q;have w:=hf.a x (aP (bU l));have hn:=hf.n;refine adF ?_;rw[aR l,aj,aK l,aK l,cF _ (by simp at q;omega) ai af];refine h432_8 w x.cn 0 _ rfl (by simp at q⊢;omega) ?_;rw[aN l af,z (i+1) _ (aI l) (by simp[YS] at q⊢;omega)];simp[nmN]
def c432 {f:FSt} (hf:Sm f):f432 f=some (nmF f):=by refine e432 ?_;exact h432_3 hf f.az 0 [(f.az.length:Int)] rfl (by have:=hf.n;simp;omega)
def YU:∀{l:List Node},(∀x∈l,x.cn.length<=1000)->(l.flatMap nmN).length<=2002 *l.length
 |[],_=>by simp
 |x::l,h=>by
  have w:=h x ai;have z:=YU (l:=l) λy q=>h y (by simp[q])
  rw[qx,bR,bA];simp only[nmN,bR,bA,fK,YS];omega
def nmF_len {f:FSt} (hf:Sm f):(nmF f).length<=1000000000:=by have:=YU hf.a;have:=hf.n;simp only[nmF,bA];omega
def h418 {l m:List Int} (L:l.length<=1000000000):∀(xs z:List Int) (i:Nat),l.drop i=xs->m.drop i=z->∃r,Rk l m (i:Int)=some r/\(r=0↔∃x y,xs++x=z++y):=by intro xs;induction xs with
 |nil=>intro z i q w;refine⟨0,K0 ?_,⟨λ_=>⟨z,[],ai⟩,λ_=>rfl⟩⟩;rw[bg q,au]
 |cons a xs K=>intro z i q w;cases z with
  |nil=>refine⟨0,K0 ?_,⟨λ_=>⟨[],a::xs,ai⟩,λ_=>rfl⟩⟩;rw[aR q,aj,bg w,au]
  |cons b z=>
   by_cases D:a<b
   .refine⟨-1,K0 ?_,⟨λe=>by omega,λ⟨x,y,e⟩=>by simp at e;omega⟩⟩;rw[aR q,aj,aR w,aj,aK q,aK w,cond_pos (by rw[bN];exact D)]
   by_cases G:a>b
   .refine⟨1,K0 ?_,⟨λe=>by omega,λ⟨x,y,e⟩=>by simp at e;omega⟩⟩;rw[aR q,aj,aR w,aj,aK q,aK w,cond_neg (by rw[bB];exact D),aK q,aK w,cond_pos (by rw[bN];exact G)]
   have e:a=b:=af;obtain⟨r,H,I⟩:=K z (i+1) (aI q) (aI w);refine⟨r,K0 ?_,I.trans ?_⟩
   .rw[aR q,aj,aR w,aj,aK q,aK w,cond_neg (by rw[bB];exact D),aK q,aK w,cond_neg (by rw[bB];exact G),aN q af];exact H
   .subst e;simp
def c407 {a b:FSt} (l:Sm a) (z:Sm b):∃r,f407 a b=some r/\(r=true↔a=b):=by obtain⟨r,q,w⟩:=h418 (l:=nmF a) (m:=nmF b) (nmF_len l) _ _ 0 rfl rfl;have D:f418 a b=some r:=e418 (by rw[c432 l,ak,c432 z,ak];exact q);refine⟨r==0,e407 (by rw[D,ak]),?_⟩;rw[jo,w];exact⟨λ⟨x,y,e⟩=>nmF_inj e,λe=>⟨[],[],by rw[e]⟩⟩
def XI {a:FSt} (l:Sm a):f407 a a=some true:=by obtain⟨r,q,w⟩:=c407 l l;rw[q,w.2 rfl]
def Can.sm {T F:Nat} {f:FSt} (h:Can T F f) (hn:f.az.length<=5000) (hF:F<=1000):Sm f:=⟨hn,λx l=>by have:=(h.ao l).len;omega⟩
end Go.Proofs.YtacapiamkgkkjaaGreatDoor.cl.pf
namespace Go.Proofs.YtacapiamkgkkjaaGreatDoor.cl.pf
open Go Go.AM
structure HX (h:aV) (T F:Nat) (sb:Int->Int->Prop) (cz:Int->Int) (val:Int->Int->Int):Prop where
 hv:HV h T F sb cz val
 tl:h.Types.length=T
 ss:∀a b:Int,0<=a->a<(T:Int)->0<=b->b<(T:Int)->∃r,f339 h a b=some r/\f340 h a b=some r/\(r=true↔sb a b)
def c456 {F n:Nat} {x:Node} (K:0<=x.eF) (q:AO F n x.cn) (I:x.cn.length<=1000000):f456 x (n:Int)=some 0:=by
 have key:∀(xs) (i) (o),x.cn.drop i=xs->(∀a∈xs,getM o a.bP=none)->Mo (n) x.cn (x.cn.length) (i) x o=some 0:=by intro xs;induction xs with
  |nil=>intro i o l _;refine adV ?_;rw[bg l,au]
  |cons a xs G=>
   intro i o l z;have H:=q.ok a (aP (bU l));have D:Gm (a::xs):=by rw[<-l];exact List.Pairwise.sublist (List.drop_sublist i _) q.zW
   refine adV ?_;rw[aR l,aj,aK l,cond_neg (by simp_all),cond_neg (by simp_all),cond_neg (by simp_all),tN (z a ai),xH,aN l af];refine G _ _ (aI l) λb w=> ?_
   have:=(c7.1 D).1 b w;grind[Ib]
 refine e456 ?_;rw[cond_neg (by simp_all)];exact key _ 0 _ rfl λa _=>rfl
def c489 (l:List cD):f489 l=some l:=e489 rfl
def Nr:∀{l:List cD},Gm l->Bu (l.map λa=>(a.bP,a.To))=true
 |[],_=>rfl
 |x::l,h=>by have q:=c7.1 h;simp only[bM,Bu,aT,cv,aG,forall_exists_index,and_imp];refine⟨λp a w e=> ?_,Nr q.2⟩;grind[WG]
def aau {l:List cD} (h:Gm l):oM WG (l.map λa=>(a.bP,a.To))=l.map λa=>(a.bP,a.To):=by
 have key:∀(xs o),Gm (o++xs)->(xs.map λa=>(a.bP,a.To)).foldl (λout x=>sg WG x out) (o.map λa=>(a.bP,a.To))=(o++xs).map λa=>(a.bP,a.To):=by intro xs;induction xs with
  |nil=>simp
  |cons x xs D=>
   intro o z;have e:sg WG (x.bP,x.To) (o.map λa=>(a.bP,a.To))=(o++[x]).map λa=>(a.bP,a.To):=by
    have:=KW WG (x:=(x.bP,x.To)) (p:=o.map λa=>(a.bP,a.To)) (q:=[]) (λy q=>by
     obtain⟨a,w,rfl⟩:=aG.1 q;have:=(lB.1 z).2.2 a w x ai
     simp[WG];omega) (λy q=>by cases q)
    simpa using this
   grind
 exact key l [] (by assumption)
def J9:∀l:List cD,Bv (l.map cD.enc)=some (l.map λa=>(a.bP,a.To))
 |[]=>rfl
 |x::l=>by show(Bv _).map _=_;rw[J9 l];rfl
def c490 {l:List cD} (h:Gm l) (w:l.length<=1000000):f490 l=some l:=by
 refine pX (E:=EN _) ?_;refine lS ?_
 show(match Bv (l.map cD.enc) with
  |some l=>bif Bu l&&Nat.ble l.length 1073741824 then some (AV.gy [.gy [.self 57, .dK 2 ((oM WG l).map SR)]],[]) else none
  |none=>none)=_
 rw[J9];have q:Nat.ble (l.map λa=>(a.bP,a.To)).length 1073741824=true:=og (by rw[bI];omega);simp only[Nr h,q,aau h,sn,aj,fF];rfl
def NM (n:Nat) (num:List (Int×Int)) (o:List Nat):Prop:=∀x,x<n->getM num (x:Int)=if x∈o then some (o.idxOf x:Int) else none
def NM.snoc {n:Nat} {num:List (Int×Int)} {o:List Nat} (h:NM n num o) {y:Nat} (l:y∉o):NM n (uz num (y:Int) (o.length:Int)) (o++[y]):=by
 intro x q;by_cases e:y=x
 .simp_all[MY,zJ]
 .rw[Ib af,h x q];grind
section
variable {T F:Nat} {f:FSt} (hf:Can T F f) (hn:f.az.length<=100000) (hF:F<=1000)
include hf hn hF
theorem h488_3 {k:Nat} (ih:∀(x:Nat) (o:List Nat) (num:List (Int×Int)),x<f.az.length->x∉o->NM f.az.length num o->Met f.az.length o->f.az.length<k+o.length->
   ∃q,f488 (x:Int) f (jf o) num=some ((),jf (nZ (lU f) k x o),q)/\NM f.az.length q (nZ (lU f) k x o)) {l:List cD} (Q:AO F f.az.length l):
  ∀(xs:List cD) (i:Nat) (o:List Nat) (num:List (Int×Int)),l.drop i=xs->NM f.az.length num o->Met f.az.length o->f.az.length<k+o.length->
   ∃q,Mr (l.length:Int) (i:Int) l f num (jf o)=some ((),jf (tq (lU f) k (xs.map λa=>(a.bP,a.To.toNat)) o),q)/\NM f.az.length q (tq (lU f) k (xs.map λa=>(a.bP,a.To.toNat)) o):=by
 have hll:=Q.len;intro xs;induction xs with
 |nil=>intro i o num w D _ _;refine⟨_,Wl ?_,D⟩;rw[bg w];rfl
 |cons a xs H=>
  intro i o num w D L P;have ha:=(Q.ok a (aP (bU w))).2;obtain⟨x,S⟩:=fW ha.1;have z:x<f.az.length:=af;have O:a.To.toNat=x:=af;simp[bM,gA,O];by_cases I:x∈o
  .have ev:nZ (lU f) k x o=o:=by
    cases k with
    |zero=>rfl
    |succ k=>rw[nZ,aC I]
   rw[ev];obtain⟨q,g1,K⟩:=H _ o _ (aI w) D L P;refine⟨_,Wl ?_,K⟩;have G:=D x z;rw[aC I] at G;rw[aR w,aj,jQ w,jP w,S,tO G,aN w af];omega
  .obtain⟨U,f1,V⟩:=ih x o _ z I D L P;have N:=AK hf.bd k x o L z;have R:=JR (sc:=lU f) k x o;obtain⟨q,g1,K⟩:=H _ _ _ (aI w) V N af;refine⟨_,Wl ?_,K⟩;have G:=D x z;rw[aA I] at G;rw[aR w,aj,jQ w,jP w,S,tN G,f1,bq,aN w af];omega
theorem h488:∀(k x:Nat) (o:List Nat) (num:List (Int×Int)),x<f.az.length->x∉o->NM f.az.length num o->Met f.az.length o->f.az.length<k+o.length->
  ∃l,f488 (x:Int) f (jf o) num=some ((),jf (nZ (lU f) k x o),l)/\NM f.az.length l (nZ (lU f) k x o):=by
 intro k;induction k with
 |zero=>intro x o num _ _ _ z L;have:=yR z.nd z.lt;omega
 |succ k O=>
  intro x o num D w I z L;have N:=yR z.nd z.lt;have q:=hf.ao (cG D);have K:=q.len;obtain⟨l,P,H⟩:=h488_3 hf hn hF O q _ 0 _ _ rfl (I.snoc w) (z.snoc D w) (by grind);have G:nZ (lU f) (k+1) x o=tq (lU f) k (f.az[x].cn.map λa=>(a.bP,a.To.toNat)) (o++[x]):=by rw[nZ,aA w,wX _];rfl
  rw[G];refine⟨_,e488 ?_,H⟩;rw[xH,cF _ (by grind[jf]) ai af,cR D,c489,ak,c490 q.zW af];simp_all[jf]
theorem h457_12 {i:Nat} (R:i<f.az.length) {K:FSt} {num:List (Int×Int)} (O:NM f.az.length num (List.range f.az.length)) {w:List Node} (H:i<w.length) {L:List Int} {a b:List Node} {res:FSt}
  (V:Mp (f.az.length:Int) ((i+1:Nat):Int) f K num (w.set i f.az[i]) L a b=some res):∀(xs:List cD) (k:Nat),f.az[i].cn.drop k=xs->
  F4 (i:Int) (i:Int) (f.az.length:Int) (i:Int) (f.az[i].cn.length:Int) (k:Int) f K num w f.az[i].cn L a b=some res:=by
 have z:=hf.ao (cG R);have P:=z.len;intro xs;induction xs with
 |nil=>intro k l;refine YB ?_;rw[bg l,au,cR _,BG H,aS,mQ H,bJ af];omega
 |cons c xs U=>
  intro k l;have Q:=(z.ok c (aP (bU l))).2;obtain⟨x,I⟩:=fW Q.1;have q:x<f.az.length:=af;have S:=eM l;have G:=O x q;rw[aC (gL.2 q),NR q] at G;have D :=by have:=bU l;rw[aM S] at this;exact fc this
  refine YB ?_;rw[aR l,aj,jQ l,jP l];have N:tD num c.To=tD num (x) (R:=FSt):=by rw[I]
  rw[N,tO G,jQ l,jP l,aN l af,aS,<-I];have e1:f.az[i].cn.set k ⟨c.bP,c.To⟩=f.az[i].cn:=by
   have:(⟨c.bP,c.To⟩)=f.az[i].cn[k]:=by rw[D]
   grind[List.set_getElem_self]
  rw[e1];exact U _ (aI l)
theorem c457:f457 f 0=some f:=by
 obtain⟨w,I,H⟩:=h488 hf hn hF (f.az.length+1) 0 _ [] hf.ne ai (λx P=>rfl) Met.nil ai;have N:nZ (lU f) _ 0 _=List.range _:=hf.ord;rw[N] at I H;have D:(jf (List.range f.az.length)).length=f.az.length:=by simp[jf]
 have key:∀(k i),f.az.length=i+k->∀a b:List _,Mp (f.az.length) (i) f ⟨[]⟩ w (f.az.take i++List.replicate k ⟨0,[]⟩) (jf (List.range f.az.length)) a b=some f:=by intro k;induction k with
  |zero=>simp_all[adW]
  |succ k Q=>
   intro i O a b;have q:i<f.az.length:=af;have l:=hf.ao (cG q);have L:=l.len;refine adW ?_;have z:(jf (List.range f.az.length)).getD i 0=(i):=by unfold jf;rw[kH (by simp_all)];simp
   rw[cond_pos (by grind),uA af,z,cR q,c489,ak,c490 l.zW af,ak];refine h457_12 hf hn hF _ H (by simp_all) ?_ _ 0 rfl;have e:(f.az.take i++List.replicate (k+1) (⟨0,[]⟩:Node)).set i f.az[i]=f.az.take (i+1)++List.replicate k ⟨0,[]⟩:=by
    have G:(f.az.take i).length=i:=by rw[dL];omega
    rw[mC _ _ af,G,ot,dy,aM _,dz];rfl
   grind
 refine e457 ?_;have K:f488 0 f [] _=some _:=I;rw[K,bq,b9 ⟨af,by omega,by omega,af⟩,D];have:=key f.az.length 0 af [] [];assumption
theorem c437 (H:f.az.length<=4096):f437 f=some (f,0):=by
 have G:=hf.ne;have key:∀(xs) (i),f.az.drop i=xs->Rp f.az (f.az.length) (i) f ⟨[]⟩=some (f,0):=by intro xs;induction xs with
  |nil=>intro i l;refine adK ?_;rw[bg l,au,c457 hf hn hF,ak]
  |cons x xs D=>intro i l;have w:=aP (bU l);have q:=hf.ao w;have z:=q.len;refine adK ?_;rw[aR l,aj,aK l,c456 (hf.tyr w).1 q af,ak,cond_neg (by rfl),aN l af];exact D _ (aI l)
 refine e437 ?_;grind
end
end Go.Proofs.YtacapiamkgkkjaaGreatDoor.cl.pf
namespace Go.Proofs.YtacapiamkgkkjaaGreatDoor.cl.pf
open Go Go.AM
structure TH where
 T:Nat
 F:Nat
 sb:Int->Int->Prop
 io:Int->Int
 vl:Int->Int->Int
structure TH.OK (t:TH) (h:aV):Prop where
 hx:HX h t.T t.F t.sb t.io t.vl
 T:t.T<=1000
 F:t.F<=64
 P:0<t.T
noncomputable def tOf (d:List aB):TH:=⟨(tys d).length,(rf d).length,
 λa b=>(0<=a/\a<((tys d).length:Int))/\(0<=b/\b<((tys d).length:Int))/\sub ((tys d).getD b.toNat 0) ((tys d).getD a.toNat 0)=true,
 λf=>(nu d ((CY d ((rf d).getD f.toNat [])).getD []):Int),
 λa f=>match inh d ((tys d).getD a.toNat 0) ((rf d).getD f.toNat []) with
  |some c=>H9 (tys d) c
  |none=>0⟩
def D6 {a:Int} {n:Nat} (h:0<=a) (l:a<(n:Int)):∃i:Nat,a=(i:Int)/\i<n:=⟨a.toNat,by omega,af⟩
def hd_to {q:List Nat} (K:abr q):TO q.length (λa b=>(0<=a/\a<(q.length:Int))/\(0<=b/\b<(q.length:Int))/\sub (q.getD b.toNat 0) (q.getD a.toNat 0)=true):=by refine⟨λh=>h.1,λh=>h.2.1,λh l=>⟨⟨h,l⟩,⟨h,l⟩,zc _⟩,λh l=>⟨h.1,l.2.1,ze l.2.2 h.2.2⟩,λh l=> ?_,λh l=>⟨⟨af,af⟩,⟨h,l⟩,K.top _ (mA af)⟩⟩;have:=getD_inj K.nd af af (tf h.2.2 l.2.2);omega
def hd_hm {h:aV} {l:List Nat} (H:Hd h l) (K:abr l):HM h l.length (λa b=>(0<=a/\a<(l.length:Int))/\(0<=b/\b<(l.length:Int))/\sub (l.getD b.toNat 0) (l.getD a.toNat 0)=true):=by
 refine⟨hd_to K,λa b N O P Q=> ?_⟩;obtain⟨i,rfl,z⟩:=D6 N O;obtain⟨j,rfl,G⟩:=D6 P Q;rw[o335 H K z G,o336 H K z G];simp only[aS];by_cases I:l.getD i 0&&&l.getD j 0∈l
 .obtain⟨q,q1,L,U⟩:=Pj I;have e:Dp l (l.getD i 0&&&l.getD j 0)=((q:Int),true):=by
   unfold Dp;rw[U,aA af]
  rw[e];refine .inl ⟨q,rfl,rfl,⟨⟨N,O⟩,⟨af,af⟩,?_⟩,⟨⟨P,Q⟩,⟨af,af⟩,?_⟩,λc w D=>⟨⟨af,af⟩,w.2.1,?_⟩⟩
  .rw[aS,L];exact FR _ _
  .rw[aS,L];exact Nh _ _
  .rw[aS,L];exact Zb w.2.2 D.2.2
 .have e:Dp l (l.getD i 0&&&l.getD j 0)=(0,false):=by
   unfold Dp;rw[XX I];rfl
  rw[e];refine .inr ⟨0,rfl,rfl,λc w D=>I (K.cl _ (mA z) _ (mA G) λS=> ?_)⟩;have R:=Zb w.2.2 D.2.2;rw[S] at R;have V:=w.2.1;refine K.nz _ (mA af) (tf R ?_);exact kR.2 λi z=>by simp at z
def Pr {d:List aB} (O:Ok5 d):(tOf d).OK (sQ d):=by
 have HD:=hd5 O;have K:=O.ok.V6;have hl:=O.ok.cM;have h64:=O.f64;have hvd:=OA O.fd;have L:∀f:Int,0<=f->f<((rf d).length:Int)->∃j F,f=((j:Nat):Int)/\(rf d)[j]? =some F/\(rf d).getD f.toNat []=F/\F∈rf d:=λf H I=>by obtain⟨j,rfl,hj⟩:=D6 H I;have e:=aM hj;exact⟨j,_,rfl,e,by rw[aS,bD,e];rfl,cG hj⟩
 have hio:∀F∈rf d,∃u∈kZ d,CY d F=some u:=λF hF=>by obtain⟨u,U⟩:=O.intro F hF;exact⟨u,TC O.ok.acc U,U⟩
 have R:∀(a f:Int),0<=a->a<((tys d).length:Int)->∀F∈rf d,(rf d).getD f.toNat []=F->((inh d ((tys d).getD a.toNat 0) F).isSome=true↔(tOf d).sb ((tOf d).io f) a):=λa f z l F hF e=>by
  obtain⟨u,U,w⟩:=hio F hF;obtain⟨_,n1,n2,_⟩:=O.ok.An U;have P:(tOf d).io f=(nu d u:Int):=by show(nu d ((CY d ((rf d).getD f.toNat [])).getD []):Int)=_;rw[e,w];rfl
  rw[aas O.ok.acc w,P];constructor
  .intro h;exact⟨⟨af,af⟩,⟨z,l⟩,by rw[aS,n2];exact h⟩
  .intro h;have:=h.2.2;rw[aS,n2] at this;exact this
 have D:∀a:Int,0<=a->a<((tys d).length:Int)->∀F∈rf d,∀c,inh d ((tys d).getD a.toNat 0) F=some c->∃q:Nat,H9 (tys d) c=(q:Int)/\q<(tys d).length/\(tys d).getD q 0=c:=λa z l F hF c G=>O.num (mA af) hF G
 refine⟨⟨⟨hd_hm HD K,KE,λf H I=> ?_,λa f z l H I hs=> ?_,λa f z l H I hs=> ?_,λa b f H I S h2=> ?_,λa b h=> ?_⟩,HD.length,λa b z l b0 V=> ?_⟩,by show(tys d).length<=1000;omega,h64,K.pos⟩
 .obtain⟨j,F,rfl,e1,w,hF⟩:=L f H I;obtain⟨u,U,e3⟩:=hio F hF;obtain⟨_,n1,n2,_⟩:=O.ok.An U;have P:(tOf d).io ((j:Nat):Int)=(nu d u:Int):=by
   show(nu d ((CY d ((rf d).getD (toNat ((j:Nat):Int)) [])).getD []):Int)=_;rw[w,e3];rfl
  obtain⟨g1,g2⟩:=aad e1
  have:((sQ d).bG.getD (toNat ((j:Nat):Int)) default).Intro=(nu d u:Int):=by show((wz d).getD (toNat ((j:Nat):Int)) default).Intro=_;rw[aS,bD,aM g1,g2];show(nu d ((CY d F).getD []):Int)=_;rw[e3];rfl
  rw[P];exact⟨this,by omega,by show _<((tys d).length:Int);omega⟩
 .obtain⟨i,rfl,N⟩:=D6 z l;obtain⟨j,F,rfl,e1,w,hF⟩:=L f H I;have S:=(R _ _ z l F hF w).2 hs;obtain⟨c,G⟩:=pN.1 S;obtain⟨q,q1,q2,q3⟩:=D _ z l F hF c G;have ev:(tOf d).vl ((i:Nat):Int) ((j:Nat):Int)=H9 (tys d) c:=by
   show(match inh d ((tys d).getD (toNat ((i:Nat):Int)) 0) ((rf d).getD (toNat ((j:Nat):Int)) []) with|some c=>H9 (tys d) c|none=>0)=_;rw[w,G]
  rw[aS] at G;rw[o355 O N e1,o356 O N e1,G,ev];exact⟨rfl,rfl,by omega,by show _<((tys d).length:Int);omega⟩
 .obtain⟨i,rfl,N⟩:=D6 z l;obtain⟨j,F,rfl,e1,w,hF⟩:=L f H I;have S:inh d ((tys d).getD (toNat ((i:Nat):Int)) 0) F=none:=by
   cases e:inh d ((tys d).getD (toNat ((i:Nat):Int)) 0) F with
   |none=>rfl
   |some c=>exact absurd ((R _ _ z l F hF w).1 (by rw[e];rfl)) hs
  rw[aS] at S;rw[o355 O N e1,o356 O N e1,S];exact⟨0,rfl,rfl⟩
 .obtain⟨j,F,rfl,e1,w,hF⟩:=L f H I;have l:=h2.1;have V:=h2.2.1;have h3:=(R _ _ l.1 l.2 F hF w).2 S;obtain⟨c,G⟩:=pN.1 h3;obtain⟨q,q1,q2,q3⟩:=D _ l.1 l.2 F hF c G;have h4:=inh_up h2.2.2 h3;obtain⟨c',Q⟩:=pN.1 h4;obtain⟨q',q1',q2',q3'⟩:=D _ V.1 V.2 F hF c' Q;have ev:(tOf d).vl a ((j:Nat):Int)=(q:Int):=by
   show(match inh d ((tys d).getD a.toNat 0) ((rf d).getD (toNat ((j:Nat):Int)) []) with|some c=>H9 (tys d) c|none=>0)=_;rw[w,G];exact q1
  have ev':(tOf d).vl b ((j:Nat):Int)=(q':Int):=by show(match inh d ((tys d).getD b.toNat 0) ((rf d).getD (toNat ((j:Nat):Int)) []) with|some c=>H9 (tys d) c|none=>0)=_;rw[w,Q];exact q1'
  rw[ev,ev'];refine⟨⟨af,af⟩,⟨af,af⟩,?_⟩;rw[aS,aS,q3,q3'];exact acY h2.2.2 G Q
 .have:=K.Ot a.toNat b.toNat (by have:=h.1;omega) (by have:=h.2.1;omega) h.2.2;have:=h.1;have:=h.2.1;omega
 .obtain⟨i,rfl,N⟩:=D6 z l;obtain⟨j,rfl,hj⟩:=D6 b0 V;refine⟨_,o339 HD N hj,o340 HD N hj,?_⟩;show _↔(tOf d).sb _ _;constructor
  .intro h;exact⟨⟨z,l⟩,⟨b0,V⟩,by rw[aS,aS];exact h⟩
  .intro h;have:=h.2.2;rw[aS,aS] at this;exact this
end Go.Proofs.YtacapiamkgkkjaaGreatDoor.cl.pf
namespace Go.Proofs.YtacapiamkgkkjaaGreatDoor.cl
open Go Go.AM
def ZZ {d:List aB}:Jd d=0↔Vq d=false/\xK [] d=0/\y9 (kZ d) d=0/\Gf d=1/\DL d:=by
 unfold Jd;constructor
 .intro h;split at h
  .cases h
  split at h
  .rename_i l;exact absurd h l
  split at h
  .rename_i l;exact absurd h l
  split at h
  .cases h
  split at h
  .rename_i q l w z D;exact⟨by simpa using q,eH l,eH w,eH z,D⟩
  .cases h
 .rintro⟨a,b,c,e,f⟩;rw[aA (by simp[a]),aA (λh=>h b),aA (λh=>h c),aA (λh=>h e),aC f]
def leT (l:List (bV×List bV)) (x y:bV):Bool:=match l.find? λp=>p.1==x with
 |some p=>p.2.contains y
 |none=>false
def Qf (d:List aB) (x:bV):List bV->List bV->Bool
 |_,[]=>true
 |q,y::l=>(y==x||d.any λt=>t.Name==y&&t.ew.any λs=>q.contains s)&&Qf d x (y::q) l
def tabOk (d:List aB) (l:List (bV×List bV)):Bool:=
 (l.all λp=>Qf d p.1 [] p.2)&&(kZ d).all λx=>leT l x x&&(kZ d).all λy=> !leT l x y||(dn d y).all λz=>leT l x z
def aaK {d:List aB} {x:bV}:∀(l q:List bV),Qf d x q l=true->(∀s∈q,Le d x s)->∀y∈l,Le d x y:=by intro l;induction l with
 |nil=>intro q _ _ y D;cases D
 |cons z l P=>
  intro q h L y D;unfold Qf at h;rw[aT,gC] at h;have N:Le d x z:=by
   rcases h.1 with G|G
   .rw[jo] at G;rw[G];exact .refl
   .obtain⟨t,O,H⟩:=lD.1 G;rw[aT,jo] at H;obtain⟨s,I,K⟩:=lD.1 H.2;rw[EH] at K;exact .step (L s K) (K7.2 ⟨t,O,H.1,I⟩)
  rcases aJ.1 D with rfl|D
  .exact N
  .refine P (z::q) h.2 (λs w=> ?_) y D;rcases aJ.1 w with rfl|w
   .exact N
   .exact L s w
def tab_le {d:List aB} {G:List (bV×List bV)} (h:tabOk d G=true):∀x∈kZ d,∀y,Le d x y↔leT G x y=true:=by
 unfold tabOk at h;rw[aT,cv,cv] at h;intro x I y;have q:=h.2 x I;rw[aT,cv] at q;have key:∀y,Le d x y->y∈kZ d/\leT G x y=true:=by intro y l;induction l with
  |refl=>exact⟨I,q.1⟩
  |step _ K L=>
   refine⟨VH K,?_⟩;have:=q.2 _ L.1;rw[gC,L.2,cv] at this;rcases this with w|w
   .cases w
   .exact w _ K
 constructor
 .intro l;exact(key y l).2
 .intro l;unfold leT at l;split at l
  .rename_i p H;have D:=oq H;have z:p.1=x:=by simpa using qt H
   rw[EH] at l;rw[<-z];exact aaK p.2 [] (h.1 p D) (λs N=>by cases N) y l
  .cases l
def rk (d:List aB) (s:bV):Nat:=(jy (λt:aB=>t.Name==s) d 0).toNat
def chk0 (d:List aB):Bool:= !Vq d&&xK [] d==0&&y9 (kZ d) d==0&&Gf d==1&&d.all λt=>t.ew.all λs=>Nat.blt (rk d s) (rk d t.Name)
def chk0_ok {d:List aB} (h:chk0 d=true):Jd d=0:=by unfold chk0 at h;simp only[aT,jo,cv] at h;obtain⟨⟨⟨⟨l,q⟩,w⟩,z⟩,D⟩:=h;refine ZZ.2 ⟨by simpa using l,q,w,z,rk d,λt H s G=> ?_⟩;exact fD (D t H s G)
section
variable (d:List aB) (le:bV->bV->Bool)
def cwC (all:List bV) (x:bV):Nat:=mk 0 ((List.range all.length).filter λi=>le x (all.getD i []))
def Z2:List Nat:=(iZ d).map (cwC le (iZ d))
def YL (l:List bV):List bV:=(pI (l.filter λs=>decide (s∈kZ d))).filter λx=>(pI (l.filter λs=>decide (s∈kZ d))).all λy=>decide (y=x)|| !le y x
def vS (w:Nat):List bV->List Nat->Nat->List bV->bV
 |s::ss,c::q,i,l=>if c=w then s else vS w ss q (i+1) (if w.testBit i=true then l++[s] else l)
 |_,_,_,l=>yM [38] (YL d le l)
def acj:List El:=((Ba (Z2 d le)).map λw=>((vS d le w (iZ d) (Z2 d le) 0 [],w):El)).foldl (λE p=>sg Fq p E) []
def Tz (F:bV):Option bV:=one (YL d le (pI (xY d F)))
def stpC (w:Nat) (F:bV) (o:Option Nat) (t:aB):Option Nat:=match val t F with
 |some v=>if sub w (cwC le (iZ d) t.Name)=true then some (comb o (cwC le (iZ d) v)) else o
 |none=>o
def acX (w:Nat) (F:bV):Option Nat:=d.foldl (stpC d le w F) none
variable {d le} (hle:∀x∈kZ d,∀y,Le d x y↔le x y=true)
include hle
open Classical in
theorem VF {all:List bV} {x:bV} (l:x∈kZ d):cw d all x=cwC le all x:=by
 unfold cw idxs cwC;congr 1;refine mE λi _=> ?_
 rw[ia,bN];exact hle x l _
theorem XP:qR d=Z2 d le:=by unfold qR Z2;exact iK λx l=>VF hle (gH.1 l)
theorem K6 (l:List bV):wL d l=YL d le l:=by
 unfold wL YL;have D:∀x∈pI (l.filter λs=>decide (s∈kZ d)),x∈kZ d:=λx G=>by have:=(dw.1 (gH.1 G)).2;simpa using this
 generalize pI (l.filter λs=>decide (s∈kZ d))=m at D;refine mE λx G=> ?_
 unfold sP;rw[ia,cv,cv];have key:∀y∈m,((decide (y=x)|| !(open Classical in decide (Le d y x)))=true↔(decide (y=x)|| !le y x)=true):=by intro y q;have z:=hle y (D y q) x;cases w:le y x with
  |true=>
   have:Le d y x:=z.2 w
   simp[this]
  |false=>
   have:¬Le d y x:=λh=>by rw[z.1 h] at w;cases w
   simp[this]
 constructor
 .intro h y q;refine(key y q).1 ?_;have:=h y q;simpa using this
 .intro h y q;have:=(key y q).2 (h y q);simpa using this
theorem P7 {w:Nat}:∀(ss:List bV) (q:List Nat) (i:Nat) (l:List bV),nN d w ss q i l=vS d le w ss q i l:=by intro ss;induction ss with
 |nil=>intro q i l;cases q<;>simp only[nN,vS,K6 hle]
 |cons s ss z=>intro q i l;cases q with
  |nil=>simp only[nN,vS,K6 hle]
  |cons c q=>simp only[nN,vS,z]
theorem KA:dR d=acj d le:=by unfold dR acj Fu;rw[XP hle];congr 1;exact iK λw _=>by rw[P7 hle]
theorem TA (F:bV):CY d F=Tz d le F:=by unfold CY Tz;rw[K6 hle]
theorem Yd (z:Vd d) (w:Nat) (F:bV):inh d w F=acX d le w F:=by
 have key:∀(l:List aB) (o:Option Nat),(∀t∈l,t∈d)->l.foldl (DG d w F) o=l.foldl (stpC d le w F) o:=by intro l;induction l with
  |nil=>intro o _;rfl
  |cons t l H=>
   intro o h;rw[gA,gA];have q:=h t ai;have e:DG d w F o t=stpC d le w F o t:=by unfold DG stpC;cases G:val t F with
    |none=>rfl
    |some v=>simp only;rw[show cwd d t.Name=cwC le (iZ d) t.Name from VF hle (T7 q),show cwd d v=cwC le (iZ d) v from VF hle (z.val q G)]
   rw[e];exact H _ λu D=>h u (by simp[D])
 exact key d none λt h=>h
end
structure At (d:List aB) (le:bV->bV->Bool) (E:List El):Prop where
 hl:∀x∈kZ d,∀y,Le d x y↔le x y=true
 dR:acj d le=E
 Jd:Jd d=0
def At.tys {d:List aB} {le:bV->bV->Bool} {E:List El} (h:At d le E):tys d=E.map (·.2):=by unfold cl.tys;rw[KA h.hl,h.dR]
def At.z1 {d:List aB} {le:bV->bV->Bool} {E:List El} (h:At d le E):z1 d=E.map Jb:=by unfold cl.z1;rw[KA h.hl,h.dR]
def chk5C (d:List aB) (le:bV->bV->Bool) (E:List El):Int:=
 if(Ba (Z2 d le)).length>256 then 7 else if(rf d).length>64 then 7 else if sO (kZ d) d≠0 then sO (kZ d) d
 else if((rf d).any λF=>(Tz d le F).isNone)=true then 10 else if((E.map (·.2)).any λw=>(rf d).any λF=>acX d le w F==some 0)=true then 11 else 0
def At.yb {d:List aB} {le:bV->bV->Bool} {E:List El} (h:At d le E):yb d=chk5C d le E:=by
 unfold cl.yb chk5C;have H:=h.Jd;rw[aA (λD=>D H),XP h.hl];by_cases l:(Ba (Z2 d le)).length>256
 .rw[aC l,aC l]
 .rw[aA l,aA l];by_cases q:(rf d).length>64
  .rw[aC q,aC q]
  .rw[aA q,aA q];by_cases z:sO (kZ d) d=0
   .have hn:¬(sO (kZ d) d≠0):=λD=>D z
    rw[aA hn,aA hn];have e1:CE d (rf d)=(rf d).any λF=>(Tz d le F).isNone:=by unfold CE;congr 1;funext F;rw[TA h.hl]
    have G:DO d (cl.tys d)=(E.map (·.2)).any λw=>(rf d).any λF=>acX d le w F==some 0:=by unfold DO;rw[h.tys];congr 1;funext w;congr 1;funext F;rw[Yd h.hl (OA z)]
    rw[e1,G]
   .rw[aC z,aC z]
def nuC (E:List El) (x:bV):Nat:=(jy (λc:fT=>c.Name==x) (E.map Jb) 0).toNat
def Pf (d:List aB) (le:bV->bV->Bool) (E:List El):List dg:=(rf d).map λF=>⟨F,(nuC E ((Tz d le F).getD []):Int)⟩
def At.feats {d:List aB} {le:bV->bV->Bool} {E:List El} (h:At d le E):wz d=Pf d le E:=by
 unfold wz Pf;refine iK λF _=> ?_
 unfold MV nu nuC;rw[h.z1,TA h.hl]
def ae5 (d:List aB) (le:bV->bV->Bool) (E:List El) (w:Nat):List bV->Nat->List gi
 |[],_=>[]
 |F::l,k=>match acX d le w F with
  |some c=>⟨(k:Int),H9 (E.map (·.2)) c⟩::ae5 d le E w l (k+1)
  |none=>ae5 d le E w l (k+1)
def At.row {d:List aB} {le:bV->bV->Bool} {E:List El} (h:At d le E) (z:Vd d) (w:Nat):∀(l:List bV) (k:Nat),yt d w l k=ae5 d le E w l k:=by intro l;induction l with
 |nil=>intro k;rfl
 |cons F l q=>intro k;unfold yt ae5;rw[Yd h.hl z,h.tys];cases acX d le w F with
  |none=>exact q _
  |some c=>simp only;rw[q]
end Go.Proofs.YtacapiamkgkkjaaGreatDoor.cl
set_option maxRecDepth 100000
namespace Go.Proofs.YtacapiamkgkkjaaGreatDoor.cl.pf
open Go Go.AM
def szB (d:List aB):Bool:=Nat.ble d.length 64&&d.all λt=>Nat.ble t.ew.length 20&&Nat.ble t.bG.length 100
def aff {d:List aB} (h:szB d=true):Sz d/\d.length<=64/\Fz d:=by
 unfold szB at h;rw[aT,cv] at h;have q:=fD h.1;have key:∀t∈d,t.ew.length<=20/\t.bG.length<=100:=λt l=>by have:=h.2 t l;rw[aT] at this;exact⟨fD this.1,fD this.2⟩
 exact⟨⟨af,λt l=>by have:=(key t l).1;omega⟩,q,λt l=>by have:=(key t l).2;omega⟩
def TP:List (bV×List bV):=[([116,111,112],
  [[116,111,112],[108,105,115,116],[100,108,105,115,116],[105,110,100,101,120],[114,101,108],
   [113,101,113],[115,101,109],[115,105,103,110],[99,111,110,115],[110,117,108,108],
   [104,97,110,100,108,101],[101,118,101,110,116],[101,110,116,105,116,121]]),
 ([108,105,115,116],[[108,105,115,116],[99,111,110,115],[110,117,108,108]]),
 ([99,111,110,115],[[99,111,110,115]]),([110,117,108,108],[[110,117,108,108]]),
 ([100,108,105,115,116],[[100,108,105,115,116]]),
 ([105,110,100,101,120],
  [[105,110,100,101,120],[104,97,110,100,108,101],[101,118,101,110,116],
   [101,110,116,105,116,121]]),
 ([104,97,110,100,108,101],[[104,97,110,100,108,101]]),
 ([101,118,101,110,116],[[101,118,101,110,116]]),
 ([101,110,116,105,116,121],[[101,110,116,105,116,121]]),([114,101,108],[[114,101,108]]),
 ([113,101,113],[[113,101,113]]),([115,101,109],[[115,101,109]]),
 ([115,105,103,110],[[115,105,103,110]])]
def EP:List El:=[([116,111,112],8191),([105,110,100,101,120],60),([108,105,115,116],193),([99,111,110,115],1),
  ([100,108,105,115,116],2),([101,110,116,105,116,121],4),([101,118,101,110,116],8),
  ([104,97,110,100,108,101],16),([110,117,108,108],128),([113,101,113],256),([114,101,108],512),
  ([115,101,109],1024),([115,105,103,110],2048)]
def GP:List bV:=[[65,82,71,83],[67,79,78,83],[70,73,82,83,84],[72,73,71,72],[73,78,68,69,88],[76,65,66,69,76],[76,65,83,84],[76,73,83,84],[76,79,87],[82,69,76,83],[82,69,83,84],[83,69,77],[84,79,80]]
def atP:At A9 (leT TP) EP:=⟨tab_le (by kernel_rfl),by kernel_rfl,chk0_ok (by kernel_rfl)⟩
def ckP:yb A9=0:=atP.yb.trans (by kernel_rfl)
def okP:Ok5 A9:=by obtain⟨z,l,hf⟩:=aff (d:=A9) (by kernel_rfl);exact(Lv z l hf ckP).1
def tysP:tys A9=EP.map (·.2):=atP.tys
def lenP:(tys A9).length=13:=by rw[tysP];rfl
def ftsP:rf A9=GP:=by kernel_rfl
def x332:f332 A9=some (sQ A9,0):=by obtain⟨z,l,hf⟩:=aff (d:=A9) (by kernel_rfl);rw[c332 z l hf,aC ckP]
def c403 {d:List aB} (z:Sz d) (hf:Fz d):∃(h:aV) (t:TH),f403 d=some h/\t.OK h:=by
 have pre:Option.bind (f327) (λl=>Option.bind (f332 l) λq=>some q.1)=some (sQ A9):=by rw[c327,ak,x332,ak]
 by_cases D:d.length<=20
 .by_cases w:yb d=0
  .refine⟨_,_,e403 ?_,Pr (Lv z af hf w).1⟩;rw[cond_pos (by rw[bN];omega),c332 z af hf,ak,aC w,cond_pos (by rfl)]
  .refine⟨_,_,e403 ?_,Pr okP⟩;rw[cond_pos (by rw[bN];omega),c332 z af hf,ak,aA w,cond_neg (by simpa using w)];exact pre
 .refine⟨_,_,e403 ?_,Pr okP⟩;rw[cond_neg (by rw[bB];omega)];exact pre
