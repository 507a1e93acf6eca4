/- Canon; the same value at two paths (the reference's sharing). -/
import Derived.Test.YtbnlhmaaccgbjaaGreatDoorClXn
import Derived.Test.YtbnlhmaaccgbjaaGreatDoorClXe
set_option linter.all false
open Int (toNat)
namespace Go.Proofs.YtbnlhmaaccgbjaaGreatDoor.cl.pf
open Go Go.AM
def YW (l:List (List cD)):Nat->List Int->Nat->Prop
 |x,[],y=>x=y
 |x,f::q,y=>∃z:Nat,(⟨f,(z:Int)⟩:cD)∈l.getD x []/\YW l z q y
def YW.snoc {q:List (List cD)} {f:Int} {z:Nat}:∀{D:List Int} {x y:Nat},YW q x D y->(⟨f,(z:Int)⟩:cD)∈q.getD y []->YW q x (D++[f]) z
 |[],x,y,h,l=>by cases h;exact⟨z,l,rfl⟩
 |g::D,x,y,⟨w,G,h⟩,l=>⟨w,G,YW.snoc h l⟩
def YW.mono {z D:List (List cD)} (h:∀x,∀a∈z.getD x [],a∈D.getD x []):∀{q:List Int} {x y:Nat},YW z x q y->YW D x q y
 |[],_,_,l=>l
 |_::q,x,y,⟨w,G,l⟩=>⟨w,h x _ G,YW.mono h l⟩
def yR (A:List Int):List (List cD):=(List.range (A.length+1)).map λj=>match A[j]? with
 |some f=>[⟨f,(j+1:Nat)⟩]
 |none=>[]
def Co {A:List Int} {j:Nat} (h:j<A.length):(yR A).getD j []=[⟨A[j],(j+1:Nat)⟩]:=by grind[yR]
def EE {A:List Int} {j:Nat} (h:A.length<=j):(yR A).getD j []=[]:=by unfold yR;grind
def Oo {A:List Int}:∀i,i<=A.length->YW (yR A) 0 (A.take i) i
 |0,_=>rfl
 |i+1,h=>by rw[de,aK af];exact(Oo i af).snoc (by rw[Co af];simp)
section
variable {F:Nat} {A B:List Int} (hA:∀f∈A,0<=f/\f<(F:Int)) (hB:∀f∈B,0<=f/\f<(F:Int)) (hAl:A.length<=1000) (hBl:B.length<=1000) (hF:F<=1000) (hB0:B≠[]) (hnp:¬B<+:A)
structure SI (F:Nat) (A B:List Int) (n i:Nat) (ys:List (List cD)):Prop where
 len:A.length+1<=ys.length
 le:ys.length<=A.length+1+i
 aw:∀x,x<ys.length->AW F ys.length (ys.getD x [])
 pa:YW ys 0 A A.length
 pb:YW ys 0 (B.take i) n
 nlt:n<ys.length
 dD:∀(C:FSt) (T' k:Nat),Can T' F C->xY C A=some k->xY C B=some k->∃m:Nat->Nat,m 0=0/\m A.length=k/\m n=YZ (oP C) B i/\∀x,x<ys.length->∀a∈ys.getD x [],(a.bN,m a.To.toNat)∈kE C (m x)
 ph:ys.getD n []=[]\/(n=i/\i<=A.length/\B.take i=A.take i/\ys=yR A)
theorem add_get {l:List (List cD)} {n x:Nat} {a:cD} (hn:n<l.length):(l.set n (l.getD n []++[a])).getD x []=if n=x then l.getD n []++[a] else l.getD x []:=by grind
theorem AW.snoc {F n:Nat} {l:List cD} (h:AW F n l) {a:cD} (G:(0<=a.bN/\a.bN<(F:Int))/\0<=a.To/\a.To<(n:Int)) (w:fa l a.bN=none):AW F n (l++[a]):=by
 refine⟨?_,λb q=> ?_⟩
 .rw[cn,iI];refine⟨h.nd,by simp,λx D y z=> ?_⟩;simp at z;subst z;obtain⟨b,q,rfl⟩:=aD.1 D;exact Xh w b q
 .rcases bu.1 q with q|q
  .exact h.ok b q
  simp_all
theorem AW.more {F n w:Nat} {l:List cD} (h:AW F n l) (hn:n<=w):AW F w l:=⟨h.nd,λb q=>⟨(h.ok b q).1,(h.ok b q).2.1,by have:=(h.ok b q).2.2;omega⟩⟩
include hA in
theorem SI.init:SI F A B 0 0 (yR A):=by
 have z:(yR A).length=A.length+1:=by simp[yR]
 refine⟨af,by omega,λx q=> ?_,?_,rfl,by omega,λC G k D w H=>⟨YZ (oP C) A,rfl,Oa w,rfl,λx q a l=> ?_⟩, .inr ⟨rfl,by omega,rfl,rfl⟩⟩
 .rw[z] at q⊢;by_cases h:x<A.length
  .rw[Co h];exact⟨ai,λa l=>by simp at l;subst l;exact⟨hA _ (cG h),by show 0<=((x+1:Nat):Int);omega,by show((x+1:Nat):Int)<((A.length+1:Nat):Int);omega⟩⟩
  .rw[EE af];exact⟨ai,λa l=>by cases l⟩
 .have:=Oo (A:=A) A.length (aU _);rwa[gp] at this
 .rw[z] at q;by_cases h:x<A.length
  .rw[Co h] at l;simp at l;subst l;exact Ec D.Rc w h
  .rw[EE af] at l;cases l
include hB in
theorem SI.go {n i:Nat} {H:List (List cD)} (I:SI F A B n i H) (K:i<B.length) {a:cD} (Q:fa (H.getD n []) B[i]=some a):0<=a.To/\SI F A B a.To.toNat (i+1) H:=by
 obtain⟨q,z⟩:=IJ Q;rcases I.ph with h|⟨rfl,R,G,rfl⟩
 .rw[h] at q;cases q
 .have w:n<A.length:=by
   by_cases h:n<A.length
   .exact h
   .rw[EE af] at q;cases q
  rw[Co w] at q;simp at q;subst q;have z:A[n]=B[n]:=z;have hl:(yR A).length=A.length+1:=by simp[yR]
  have l:B.take (n+1)=A.take (n+1):=by rw[de,de,G,aK K,aK w,z]
  refine⟨by show 0<=((n+1:Nat):Int);omega,?_⟩;show SI F A B ((n+1:Nat):Int).toNat (n+1) (yR A);rw[bg];refine⟨I.len,by have:=I.le;omega,I.aw,I.pa,?_,by omega,λC O k D S L=> ?_, .inr ⟨rfl,by omega,l,rfl⟩⟩
  .rw[l];exact Oo (n+1) af
  .obtain⟨m,U,V,m2,N⟩:=I.dD C O k D S L;refine⟨m,U,V,?_,N⟩;have e1:=N n I.nlt ⟨A[n],(n+1:Nat)⟩ (by rw[Co w];simp);have P:=Ec D.Rc L K;simp only at e1;rw[m2,z,bg] at e1;exact(D.Ay _).Rc e1 P
include hB in
theorem SI.new {n i:Nat} {l:List (List cD)} (I:SI F A B n i l) (N:i<B.length) (L:fa (l.getD n []) B[i]=none):SI F A B l.length (i+1) (l.set n (l.getD n []++[(⟨B[i],(l.length:Nat)⟩:cD)])++[[]]):=by
 have R:(l.set n (l.getD n []++[(⟨B[i],(l.length:Nat)⟩:cD)])++[[]]).length=l.length+1:=ai;have K:∀x,x<l.length->(l.set n (l.getD n []++[(⟨B[i],(l.length:Nat)⟩:cD)])++[[]]).getD x []=if n=x then l.getD n []++[(⟨B[i],(l.length:Nat)⟩:cD)] else l.getD x []:=λx H=>by rw[zO (by simpa using H),add_get I.nlt]
 have G:(l.set n (l.getD n []++[(⟨B[i],(l.length:Nat)⟩:cD)])++[[]]).getD l.length []=[]:=by rw[DJ ai];simp
 have z:∀x,∀b∈l.getD x [],b∈(l.set n (l.getD n []++[(⟨B[i],(l.length:Nat)⟩:cD)])++[[]]).getD x []:=λx b D=>by
  by_cases H:x<l.length
  .rw[K x H];by_cases e:n=x
   .subst e;rw[aB rfl];exact cR _ D
   .rw[au e];exact D
  .rw[bC,gM af] at D;cases D
 have O:=I.nlt;have V:=I.len;have Q:=I.le;refine⟨af,by omega,λx H=> ?_,I.pa.mono z,?_,by omega,λC U k P k1 S=> ?_, .inl G⟩
 .rw[R] at H⊢;by_cases w:x<l.length
  .rw[K x w];by_cases e:n=x
   .subst e;rw[aB rfl];exact((I.aw n w).more af).snoc ⟨hB _ (cG N),by show 0<=((l.length:Nat):Int);omega,by show((l.length:Nat):Int)<((l.length+1:Nat):Int);omega⟩ L
   .rw[au e];exact(I.aw x w).more af
  .have e:x=l.length:=af;subst e;rw[G];exact⟨ai,λa L=>by cases L⟩
 .rw[de,aK N];exact(I.pb.mono z).snoc (by rw[K n O,aB rfl];simp)
 .obtain⟨m,m0,m1,m2,m3⟩:=I.dD C U k P k1 S;refine⟨λx=>if x=l.length then YZ (oP C) B (i+1) else m x,?_,?_,by simp,λx H a q=> ?_⟩
  .show(if 0=l.length then _ else _)=0;rw[au af];exact m0
  .show(if A.length=l.length then _ else _)=k;rw[au af];exact m1
  .rw[R] at H;by_cases w:x<l.length
   .rw[K x w] at q;have old:∀b∈l.getD x [],(b.bN,if b.To.toNat=l.length then YZ (oP C) B (i+1) else m b.To.toNat)∈kE C (if x=l.length then YZ (oP C) B (i+1) else m x):=λb D=>by
     have:=((I.aw x w).ok b D).2;rw[au af,au af];exact m3 x w b D
    by_cases e:n=x
    .subst e;rw[aB rfl] at q;rcases bu.1 q with q|q
     .exact old a q
     .simp at q;subst q;show(B[i],if((l.length:Nat):Int).toNat=l.length then _ else _)∈kE C (if n=l.length then _ else _);rw[bg,aB rfl,au af,m2];exact Ec P.Rc S N
    .rw[au e] at q;exact old a q
   .have e:x=l.length:=af;subst e;rw[G] at q;cases q
include hA hB hB0 hnp hAl hBl hF in
include hA hB hB0 hnp hAl hBl hF in
include hA hB hB0 hnp hAl hBl hF in
end
end Go.Proofs.YtbnlhmaaccgbjaaGreatDoor.cl.pf
namespace Go.Proofs.YtbnlhmaaccgbjaaGreatDoor.cl.pf
open Go Go.AM
def nmA (l:List cD):List Int:=l.flatMap λa=>[a.bN,a.To]
def nmN (x:Node):List Int:=[x.dU,(x.cu.length:Int)]++nmA x.cu
def nmF (f:FSt):List Int:=(f.aA.length:Int)::f.aA.flatMap nmN
def X7 (l:List cD):(nmA l).length=2 *l.length:=by induction l with
 |nil=>rfl
 |cons a l q=>simp only[nmA,p8,cF,bp,dH] at q⊢;omega
def X6:∀{l m:List cD} {x y:List Int},l.length=m.length->nmA l++x=nmA m++y->l=m/\x=y
 |[],[],x,y,_,h=>⟨rfl,by simpa[nmA] using h⟩
 |a::l,b::m,x,y,q,h=>by simp only[nmA,p8,gi,dK,cS] at h;obtain⟨D,G,z⟩:=h;obtain⟨e1,w⟩:=X6 (l:=l) (m:=m) (by simpa using q) z;exact⟨by rw[e1];congr 1;cases a;cases b;simp_all,w⟩
 |[],b::m,_,_,q,_=>by simp at q
 |a::l,[],_,_,q,_=>by simp at q
def nmN_inj {a b:Node} {x y:List Int} (h:nmN a++x=nmN b++y):a=b/\x=y:=by simp only[nmN,gi,dK,cS] at h;obtain⟨w,z,q⟩:=h;obtain⟨e1,l⟩:=X6 af q;exact⟨by cases a;cases b;simp_all,l⟩
def X8:∀{l m:List Node} {x y:List Int},l.length=m.length->l.flatMap nmN++x=m.flatMap nmN++y->l=m/\x=y
 |[],[],x,y,_,h=>⟨rfl,by simpa using h⟩
 |a::l,b::m,x,y,q,h=>by rw[p8,p8,eo,eo] at h;obtain⟨e1,D⟩:=nmN_inj h;obtain⟨w,z⟩:=X8 (by simpa using q) D;exact⟨by rw[e1,w],z⟩
 |[],b::m,_,_,q,_=>by simp at q
 |a::l,[],_,_,q,_=>by simp at q
def nmF_inj {a b:FSt} {x y:List Int} (h:nmF a++x=nmF b++y):a=b:=by simp only[nmF,gi,cS] at h;obtain⟨q,l⟩:=h;have:=(X8 af l).1;cases a;cases b;simp_all
structure Sm (f:FSt):Prop where
 n:f.aA.length<=5000
 a:∀x∈f.aA,x.cu.length<=1000
def h432_8 {f:FSt} {i:Nat} {res:List Int} {l:List cD} (G:l.length<=1000):∀(xs:List cD) (k:Nat) (o:List Int),l.drop k=xs->o.length+2 *xs.length<=100000000->
  LL (IntKind.wrap .i64 ((i:Int)+1)) f (o++nmA xs)=some res->Qm (i:Int) l (k:Int) f o=some res:=by
 intro xs;induction xs with
 |nil=>intro k o q _ w;refine acJ ?_;rw[bq q,az];simpa[nmA] using w
 |cons x xs D=>intro k o q z w;refine acJ ?_;rw[aV q,ak,aM q,aM q,cC _ (by simp at z;omega) ai af,aR q af];refine D (k+1) _ (aI q) (by simp at z⊢;omega) ?_;simpa[nmA] using w
def h432_3 {f:FSt} (hf:Sm f):∀(xs:List Node) (i:Nat) (o:List Int),f.aA.drop i=xs->o.length+2002 *xs.length<=100000000->LL (i:Int) f o=some (o++xs.flatMap nmN):=by intro xs;induction xs with
 |nil=>intro i o l _;refine acI ?_;rw[bq l,az];simp
 |cons x xs z=>intro i o l q;have w:=hf.a x (aZ (bZ l));have hn:=hf.n;refine acI ?_;rw[aV l,ak,aM l,aM l,cC _ (by simp at q;omega) ai af];refine h432_8 w x.cu 0 _ rfl (by simp at q⊢;omega) ?_;rw[aR l af,z (i+1) _ (aI l) (by simp[X7] at q⊢;omega)];simp[nmN]
def c432 {f:FSt} (hf:Sm f):f432 f=some (nmF f):=by refine e432 ?_;exact h432_3 hf f.aA 0 [(f.aA.length:Int)] rfl (by have:=hf.n;simp;omega)
def X9:∀{l:List Node},(∀x∈l,x.cu.length<=1000)->(l.flatMap nmN).length<=2002 *l.length
 |[],_=>by simp
 |x::l,h=>by
  have w:=h x ai;have z:=X9 (l:=l) λy q=>h y (by simp[q])
  rw[p8,cF,bp];simp only[nmN,cF,bp,dH,X7];omega
def nmF_len {f:FSt} (hf:Sm f):(nmF f).length<=1000000000:=by have:=X9 hf.a;have:=hf.n;simp only[nmF,bp];omega
def h418 {l m:List Int} (L:l.length<=1000000000):∀(xs z:List Int) (i:Nat),l.drop i=xs->m.drop i=z->∃r,Ql l m (i:Int)=some r/\(r=0↔∃x y,xs++x=z++y):=by intro xs;induction xs with
 |nil=>intro z i q w;refine⟨0,Kv ?_,⟨λ_=>⟨z,[],ai⟩,λ_=>rfl⟩⟩;rw[bq q,az]
 |cons a xs K=>intro z i q w;cases z with
  |nil=>refine⟨0,Kv ?_,⟨λ_=>⟨[],a::xs,ai⟩,λ_=>rfl⟩⟩;rw[aV q,ak,bq w,az]
  |cons b z=>
   by_cases D:a<b
   .refine⟨-1,Kv ?_,⟨λe=>by omega,λ⟨x,y,e⟩=>by simp at e;omega⟩⟩;rw[aV q,ak,aV w,ak,aM q,aM w,cond_pos (by rw[bB];exact D)]
   by_cases G:a>b
   .refine⟨1,Kv ?_,⟨λe=>by omega,λ⟨x,y,e⟩=>by simp at e;omega⟩⟩;rw[aV q,ak,aV w,ak,aM q,aM w,cond_neg (by rw[aT];exact D),aM q,aM w,cond_pos (by rw[bB];exact G)]
   have e:a=b:=af;obtain⟨r,H,I⟩:=K z (i+1) (aI q) (aI w);refine⟨r,Kv ?_,I.trans ?_⟩
   .rw[aV q,ak,aV w,ak,aM q,aM w,cond_neg (by rw[aT];exact D),aM q,aM w,cond_neg (by rw[aT];exact G),aR q af];exact H
   .subst e;simp
def c407 {a b:FSt} (l:Sm a) (z:Sm b):∃r,f407 a b=some r/\(r=true↔a=b):=by obtain⟨r,q,w⟩:=h418 (l:=nmF a) (m:=nmF b) (nmF_len l) _ _ 0 rfl rfl;have D:f418 a b=some r:=e418 (by rw[c432 l,aj,c432 z,aj];exact q);refine⟨r==0,e407 (by rw[D,aj]),?_⟩;rw[jf,w];exact⟨λ⟨x,y,e⟩=>nmF_inj e,λe=>⟨[],[],by rw[e]⟩⟩
def W0 {a:FSt} (l:Sm a):f407 a a=some true:=by obtain⟨r,q,w⟩:=c407 l l;rw[q,w.2 rfl]
def Can.sm {T F:Nat} {f:FSt} (h:Can T F f) (hn:f.aA.length<=5000) (hF:F<=1000):Sm f:=⟨hn,λx l=>by have:=(h.ao l).len;omega⟩
end Go.Proofs.YtbnlhmaaccgbjaaGreatDoor.cl.pf
namespace Go.Proofs.YtbnlhmaaccgbjaaGreatDoor.cl.pf
open Go Go.AM
structure HX (h:aN) (T F:Nat) (sb:Int->Int->Prop) (bS:Int->Int) (val:Int->Int->Int):Prop where
 hv:HV h T F sb bS val
 tl:h.Types.length=T
 ss:∀a b:Int,0<=a->a<(T:Int)->0<=b->b<(T:Int)->∃r,f339 h a b=some r/\f340 h a b=some r/\(r=true↔sb a b)
def c456 {F n:Nat} {x:Node} (K:0<=x.dU) (q:AO F n x.cu) (I:x.cu.length<=1000000):f456 x (n:Int)=some 0:=by
 have key:∀(xs) (i) (o),x.cu.drop i=xs->(∀a∈xs,getM o a.bN=none)->LR (n) x.cu (x.cu.length) (i) x o=some 0:=by intro xs;induction xs with
  |nil=>intro i o l _;refine acY ?_;rw[bq l,az]
  |cons a xs G=>
   intro i o l z;have H:=q.ok a (aZ (bZ l));have D:F9 (a::xs):=by rw[<-l];exact List.Pairwise.sublist (List.drop_sublist i _) q.Ay
   refine acY ?_;rw[aV l,ak,aM l,cond_neg (by simp_all),cond_neg (by simp_all),cond_neg (by simp_all),zQ (z a ai),Cz,aR l af];refine G _ _ (aI l) λb w=> ?_
   have:=(dG.1 D).1 b w;grind[HB]
 refine e456 ?_;rw[cond_neg (by simp_all)];exact key _ 0 _ rfl λa _=>rfl
def c489 (l:List cD):f489 l=some l:=e489 rfl
def MQ:∀{l:List cD},F9 l->Bf (l.map λa=>(a.bN,a.To))=true
 |[],_=>rfl
 |x::l,h=>by have q:=dG.1 h;simp only[bw,Bf,aS,cH,aD,forall_exists_index,and_imp];refine⟨λp a w e=> ?_,MQ q.2⟩;grind[VV]
def ZJ {l:List cD} (h:F9 l):tO VV (l.map λa=>(a.bN,a.To))=l.map λa=>(a.bN,a.To):=by
 have key:∀(xs o),F9 (o++xs)->(xs.map λa=>(a.bN,a.To)).foldl (λout x=>sJ VV x out) (o.map λa=>(a.bN,a.To))=(o++xs).map λa=>(a.bN,a.To):=by intro xs;induction xs with
  |nil=>simp
  |cons x xs D=>
   intro o z;have e:sJ VV (x.bN,x.To) (o.map λa=>(a.bN,a.To))=(o++[x]).map λa=>(a.bN,a.To):=by
    have:=Ks VV (x:=(x.bN,x.To)) (p:=o.map λa=>(a.bN,a.To)) (q:=[]) (λy q=>by
     obtain⟨a,w,rfl⟩:=aD.1 q;have:=(rN.1 z).2.2 a w x ai
     simp[VV];omega) (λy q=>by cases q)
    simpa using this
   grind
 exact key l [] (by assumption)
def JD:∀l:List cD,Bg (l.map cD.enc)=some (l.map λa=>(a.bN,a.To))
 |[]=>rfl
 |x::l=>by show(Bg _).map _=_;rw[JD l];rfl
def c490 {l:List cD} (h:F9 l) (w:l.length<=1000000):f490 l=some l:=by
 refine yc (E:=EN _) ?_;refine tW ?_
 show(match Bg (l.map cD.enc) with
  |some l=>bif Bf l&&Nat.ble l.length 1073741824 then some (AV.iQ [.iQ [.self 61, .dD 2 ((tO VV l).map R2)]],[]) else none
  |none=>none)=_
 rw[JD];have q:Nat.ble (l.map λa=>(a.bN,a.To)).length 1073741824=true:=uL (by rw[bz];omega);simp only[MQ h,q,ZJ h,rJ,ak,fo];rfl
def NM (n:Nat) (num:List (Int×Int)) (o:List Nat):Prop:=∀x,x<n->getM num (x:Int)=if x∈o then some (o.idxOf x:Int) else none
def NM.snoc {n:Nat} {num:List (Int×Int)} {o:List Nat} (h:NM n num o) {y:Nat} (l:y∉o):NM n (yC num (y:Int) (o.length:Int)) (o++[y]):=by
 intro x q;by_cases e:y=x
 .simp_all[Mr,rW]
 .rw[HB af,h x q];grind
section
variable {T F:Nat} {f:FSt} (hf:Can T F f) (hn:f.aA.length<=100000) (hF:F<=1000)
include hf hn hF
theorem h488_3 {k:Nat} (ih:∀(x:Nat) (o:List Nat) (num:List (Int×Int)),x<f.aA.length->x∉o->NM f.aA.length num o->Met f.aA.length o->f.aA.length<k+o.length->
   ∃q,f488 (x:Int) f (iF o) num=some ((),iF (nD (kE f) k x o),q)/\NM f.aA.length q (nD (kE f) k x o)) {l:List cD} (Q:AO F f.aA.length l):
  ∀(xs:List cD) (i:Nat) (o:List Nat) (num:List (Int×Int)),l.drop i=xs->NM f.aA.length num o->Met f.aA.length o->f.aA.length<k+o.length->
   ∃q,LV (l.length:Int) (i:Int) l f num (iF o)=some ((),iF (sL (kE f) k (xs.map λa=>(a.bN,a.To.toNat)) o),q)/\NM f.aA.length q (sL (kE f) k (xs.map λa=>(a.bN,a.To.toNat)) o):=by
 have hll:=Q.len;intro xs;induction xs with
 |nil=>intro i o num w D _ _;refine⟨_,VB ?_,D⟩;rw[bq w];rfl
 |cons a xs H=>
  intro i o num w D L P;have ha:=(Q.ok a (aZ (bZ w))).2;obtain⟨x,S⟩:=gm ha.1;have z:x<f.aA.length:=af;have O:a.To.toNat=x:=af;simp[bw,gJ,O];by_cases I:x∈o
  .have ev:nD (kE f) k x o=o:=by
    cases k with
    |zero=>rfl
    |succ k=>rw[nD,aB I]
   rw[ev];obtain⟨q,g1,K⟩:=H _ o _ (aI w) D L P;refine⟨_,VB ?_,K⟩;have G:=D x z;rw[aB I] at G;rw[aV w,ak,mh w,me w,S,zR G,aR w af];omega
  .obtain⟨U,f1,V⟩:=ih x o _ z I D L P;have N:=Ar hf.bd k x o L z;have R:=Jl (sc:=kE f) k x o;obtain⟨q,g1,K⟩:=H _ _ _ (aI w) V N af;refine⟨_,VB ?_,K⟩;have G:=D x z;rw[au I] at G;rw[aV w,ak,mh w,me w,S,zQ G,f1,bI,aR w af];omega
theorem h488:∀(k x:Nat) (o:List Nat) (num:List (Int×Int)),x<f.aA.length->x∉o->NM f.aA.length num o->Met f.aA.length o->f.aA.length<k+o.length->
  ∃l,f488 (x:Int) f (iF o) num=some ((),iF (nD (kE f) k x o),l)/\NM f.aA.length l (nD (kE f) k x o):=by
 intro k;induction k with
 |zero=>intro x o num _ _ _ z L;have:=yq z.nd z.lt;omega
 |succ k O=>
  intro x o num D w I z L;have N:=yq z.nd z.lt;have q:=hf.ao (cG D);have K:=q.len;obtain⟨l,P,H⟩:=h488_3 hf hn hF O q _ 0 _ _ rfl (I.snoc w) (z.snoc D w) (by grind);have G:nD (kE f) (k+1) x o=sL (kE f) k (f.aA[x].cu.map λa=>(a.bN,a.To.toNat)) (o++[x]):=by rw[nD,au w,wD _];rfl
  rw[G];refine⟨_,e488 ?_,H⟩;rw[Cz,cC _ (by grind[iF]) ai af,cO D,c489,aj,c490 q.Ay af];simp_all[iF]
theorem h457_12 {i:Nat} (R:i<f.aA.length) {K:FSt} {num:List (Int×Int)} (O:NM f.aA.length num (List.range f.aA.length)) {w:List Node} (H:i<w.length) {L:List Int} {a b:List Node} {res:FSt}
  (V:LS (f.aA.length:Int) ((i+1:Nat):Int) f K num (w.set i f.aA[i]) L a b=some res):∀(xs:List cD) (k:Nat),f.aA[i].cu.drop k=xs->
  FP (i:Int) (i:Int) (f.aA.length:Int) (i:Int) (f.aA[i].cu.length:Int) (k:Int) f K num w f.aA[i].cu L a b=some res:=by
 have z:=hf.ao (cG R);have P:=z.len;intro xs;induction xs with
 |nil=>intro k l;refine XS ?_;rw[bq l,az,cO _,Bv H,bg,tf H,bP af];omega
 |cons c xs U=>
  intro k l;have Q:=(z.ok c (aZ (bZ l))).2;obtain⟨x,I⟩:=gm Q.1;have q:x<f.aA.length:=af;have S:=eF l;have G:=O x q;rw[aB (gL.2 q),Ng q] at G;have D :=by have:=bZ l;rw[aK S] at this;exact eT this
  refine XS ?_;rw[aV l,ak,mh l,me l];have N:w6 num c.To=w6 num (x) (R:=FSt):=by rw[I]
  rw[N,zR G,mh l,me l,aR l af,bg,<-I];have e1:f.aA[i].cu.set k ⟨c.bN,c.To⟩=f.aA[i].cu:=by
   have:(⟨c.bN,c.To⟩)=f.aA[i].cu[k]:=by rw[D]
   grind[List.set_getElem_self]
  rw[e1];exact U _ (aI l)
theorem c457:f457 f 0=some f:=by
 obtain⟨w,I,H⟩:=h488 hf hn hF (f.aA.length+1) 0 _ [] hf.ne ai (λx P=>rfl) Met.nil ai;have N:nD (kE f) _ 0 _=List.range _:=hf.ord;rw[N] at I H;have D:(iF (List.range f.aA.length)).length=f.aA.length:=by simp[iF]
 have key:∀(k i),f.aA.length=i+k->∀a b:List _,LS (f.aA.length) (i) f ⟨[]⟩ w (f.aA.take i++List.replicate k ⟨0,[]⟩) (iF (List.range f.aA.length)) a b=some f:=by intro k;induction k with
  |zero=>simp_all[acZ]
  |succ k Q=>
   intro i O a b;have q:i<f.aA.length:=af;have l:=hf.ao (cG q);have L:=l.len;refine acZ ?_;have z:(iF (List.range f.aA.length)).getD i 0=(i):=by unfold iF;rw[j9 (by simp_all)];simp
   rw[cond_pos (by grind),tT af,z,cO q,c489,aj,c490 l.Ay af,aj];refine h457_12 hf hn hF _ H (by simp_all) ?_ _ 0 rfl;have e:(f.aA.take i++List.replicate (k+1) (⟨0,[]⟩:Node)).set i f.aA[i]=f.aA.take (i+1)++List.replicate k ⟨0,[]⟩:=by
    have G:(f.aA.take i).length=i:=by rw[fJ];omega
    rw[pV _ _ af,G,nS,de,aK _,eo];rfl
   grind
 refine e457 ?_;have K:f488 0 f [] _=some _:=I;rw[K,bI,bU ⟨af,by omega,by omega,af⟩,D];have:=key f.aA.length 0 af [] [];assumption
theorem c437 (H:f.aA.length<=4096):f437 f=some (f,0):=by
 have G:=hf.ne;have key:∀(xs) (i),f.aA.drop i=xs->Qq f.aA (f.aA.length) (i) f ⟨[]⟩=some (f,0):=by intro xs;induction xs with
  |nil=>intro i l;refine acN ?_;rw[bq l,az,c457 hf hn hF,aj]
  |cons x xs D=>intro i l;have w:=aZ (bZ l);have q:=hf.ao w;have z:=q.len;refine acN ?_;rw[aV l,ak,aM l,c456 (hf.tyr w).1 q af,aj,cond_neg (by rfl),aR l af];exact D _ (aI l)
 refine e437 ?_;grind
end
end Go.Proofs.YtbnlhmaaccgbjaaGreatDoor.cl.pf
namespace Go.Proofs.YtbnlhmaaccgbjaaGreatDoor.cl.pf
open Go Go.AM
structure TH where
 T:Nat
 F:Nat
 sb:Int->Int->Prop
 io:Int->Int
 vl:Int->Int->Int
structure TH.OK (t:TH) (h:aN):Prop where
 hx:HX h t.T t.F t.sb t.io t.vl
 T:t.T<=1000
 F:t.F<=64
 P:0<t.T
noncomputable def tOf (d:List aC):TH:=⟨(tys d).length,(qB d).length,
 λa b=>(0<=a/\a<((tys d).length:Int))/\(0<=b/\b<((tys d).length:Int))/\sub ((tys d).getD b.toNat 0) ((tys d).getD a.toNat 0)=true,
 λf=>(nu d ((CQ d ((qB d).getD f.toNat [])).getD []):Int),
 λa f=>match inh d ((tys d).getD a.toNat 0) ((qB d).getD f.toNat []) with
  |some c=>Hz (tys d) c
  |none=>0⟩
def DR {a:Int} {n:Nat} (h:0<=a) (l:a<(n:Int)):∃i:Nat,a=(i:Int)/\i<n:=⟨a.toNat,by omega,af⟩
def hd_to {q:List Nat} (K:aaC q):TO q.length (λa b=>(0<=a/\a<(q.length:Int))/\(0<=b/\b<(q.length:Int))/\sub (q.getD b.toNat 0) (q.getD a.toNat 0)=true):=by refine⟨λh=>h.1,λh=>h.2.1,λh l=>⟨⟨h,l⟩,⟨h,l⟩,yM _⟩,λh l=>⟨h.1,l.2.1,yN l.2.2 h.2.2⟩,λh l=> ?_,λh l=>⟨⟨af,af⟩,⟨h,l⟩,K.top _ (lS af)⟩⟩;have:=getD_inj K.nd af af (sG h.2.2 l.2.2);omega
def hd_hm {h:aN} {l:List Nat} (H:Hd h l) (K:aaC l):HM h l.length (λa b=>(0<=a/\a<(l.length:Int))/\(0<=b/\b<(l.length:Int))/\sub (l.getD b.toNat 0) (l.getD a.toNat 0)=true):=by
 refine⟨hd_to K,λa b N O P Q=> ?_⟩;obtain⟨i,rfl,z⟩:=DR N O;obtain⟨j,rfl,G⟩:=DR P Q;rw[o335 H K z G,o336 H K z G];simp only[bg];by_cases I:l.getD i 0&&&l.getD j 0∈l
 .obtain⟨q,q1,L,U⟩:=OF I;have e:Dd l (l.getD i 0&&&l.getD j 0)=((q:Int),true):=by
   unfold Dd;rw[U,au af]
  rw[e];refine .inl ⟨q,rfl,rfl,⟨⟨N,O⟩,⟨af,af⟩,?_⟩,⟨⟨P,Q⟩,⟨af,af⟩,?_⟩,λc w D=>⟨⟨af,af⟩,w.2.1,?_⟩⟩
  .rw[bg,L];exact FE _ _
  .rw[bg,L];exact MI _ _
  .rw[bg,L];exact Ys w.2.2 D.2.2
 .have e:Dd l (l.getD i 0&&&l.getD j 0)=(0,false):=by
   unfold Dd;rw[Xj I];rfl
  rw[e];refine .inr ⟨0,rfl,rfl,λc w D=>I (K.cl _ (lS z) _ (lS G) λS=> ?_)⟩;have R:=Ys w.2.2 D.2.2;rw[S] at R;have V:=w.2.1;refine K.nz _ (lS af) (sG R ?_);exact kz.2 λi z=>by simp at z
def ON {d:List aC} (O:Ok5 d):(tOf d).OK (se d):=by
 have HD:=hd5 O;have K:=O.ok.Vn;have hl:=O.ok.cL;have h64:=O.f64;have hvd:=NW O.fd;have L:∀f:Int,0<=f->f<((qB d).length:Int)->∃j F,f=((j:Nat):Int)/\(qB d)[j]? =some F/\(qB d).getD f.toNat []=F/\F∈qB d:=λf H I=>by obtain⟨j,rfl,hj⟩:=DR H I;have e:=aK hj;exact⟨j,_,rfl,e,by rw[bg,bC,e];rfl,cG hj⟩
 have hio:∀F∈qB d,∃u∈kH d,CQ d F=some u:=λF hF=>by obtain⟨u,U⟩:=O.intro F hF;exact⟨u,SH O.ok.acc U,U⟩
 have R:∀(a f:Int),0<=a->a<((tys d).length:Int)->∀F∈qB d,(qB d).getD f.toNat []=F->((inh d ((tys d).getD a.toNat 0) F).isSome=true↔(tOf d).sb ((tOf d).io f) a):=λa f z l F hF e=>by
  obtain⟨u,U,w⟩:=hio F hF;obtain⟨_,n1,n2,_⟩:=O.ok.zW U;have P:(tOf d).io f=(nu d u:Int):=by show(nu d ((CQ d ((qB d).getD f.toNat [])).getD []):Int)=_;rw[e,w];rfl
  rw[ZH O.ok.acc w,P];constructor
  .intro h;exact⟨⟨af,af⟩,⟨z,l⟩,by rw[bg,n2];exact h⟩
  .intro h;have:=h.2.2;rw[bg,n2] at this;exact this
 have D:∀a:Int,0<=a->a<((tys d).length:Int)->∀F∈qB d,∀c,inh d ((tys d).getD a.toNat 0) F=some c->∃q:Nat,Hz (tys d) c=(q:Int)/\q<(tys d).length/\(tys d).getD q 0=c:=λa z l F hF c G=>O.num (lS af) hF G
 refine⟨⟨⟨hd_hm HD K,J9,λf H I=> ?_,λa f z l H I hs=> ?_,λa f z l H I hs=> ?_,λa b f H I S h2=> ?_,λa b h=> ?_⟩,HD.length,λa b z l b0 V=> ?_⟩,by show(tys d).length<=1000;omega,h64,K.pos⟩
 .obtain⟨j,F,rfl,e1,w,hF⟩:=L f H I;obtain⟨u,U,e3⟩:=hio F hF;obtain⟨_,n1,n2,_⟩:=O.ok.zW U;have P:(tOf d).io ((j:Nat):Int)=(nu d u:Int):=by
   show(nu d ((CQ d ((qB d).getD (toNat ((j:Nat):Int)) [])).getD []):Int)=_;rw[w,e3];rfl
  obtain⟨g1,g2⟩:=Zr e1
  have:((se d).bJ.getD (toNat ((j:Nat):Int)) default).Intro=(nu d u:Int):=by show((vP d).getD (toNat ((j:Nat):Int)) default).Intro=_;rw[bg,bC,aK g1,g2];show(nu d ((CQ d F).getD []):Int)=_;rw[e3];rfl
  rw[P];exact⟨this,by omega,by show _<((tys d).length:Int);omega⟩
 .obtain⟨i,rfl,N⟩:=DR z l;obtain⟨j,F,rfl,e1,w,hF⟩:=L f H I;have S:=(R _ _ z l F hF w).2 hs;obtain⟨c,G⟩:=oQ.1 S;obtain⟨q,q1,q2,q3⟩:=D _ z l F hF c G;have ev:(tOf d).vl ((i:Nat):Int) ((j:Nat):Int)=Hz (tys d) c:=by
   show(match inh d ((tys d).getD (toNat ((i:Nat):Int)) 0) ((qB d).getD (toNat ((j:Nat):Int)) []) with|some c=>Hz (tys d) c|none=>0)=_;rw[w,G]
  rw[bg] at G;rw[o355 O N e1,o356 O N e1,G,ev];exact⟨rfl,rfl,by omega,by show _<((tys d).length:Int);omega⟩
 .obtain⟨i,rfl,N⟩:=DR z l;obtain⟨j,F,rfl,e1,w,hF⟩:=L f H I;have S:inh d ((tys d).getD (toNat ((i:Nat):Int)) 0) F=none:=by
   cases e:inh d ((tys d).getD (toNat ((i:Nat):Int)) 0) F with
   |none=>rfl
   |some c=>exact absurd ((R _ _ z l F hF w).1 (by rw[e];rfl)) hs
  rw[bg] at S;rw[o355 O N e1,o356 O N e1,S];exact⟨0,rfl,rfl⟩
 .obtain⟨j,F,rfl,e1,w,hF⟩:=L f H I;have l:=h2.1;have V:=h2.2.1;have h3:=(R _ _ l.1 l.2 F hF w).2 S;obtain⟨c,G⟩:=oQ.1 h3;obtain⟨q,q1,q2,q3⟩:=D _ l.1 l.2 F hF c G;have h4:=inh_up h2.2.2 h3;obtain⟨c',Q⟩:=oQ.1 h4;obtain⟨q',q1',q2',q3'⟩:=D _ V.1 V.2 F hF c' Q;have ev:(tOf d).vl a ((j:Nat):Int)=(q:Int):=by
   show(match inh d ((tys d).getD a.toNat 0) ((qB d).getD (toNat ((j:Nat):Int)) []) with|some c=>Hz (tys d) c|none=>0)=_;rw[w,G];exact q1
  have ev':(tOf d).vl b ((j:Nat):Int)=(q':Int):=by show(match inh d ((tys d).getD b.toNat 0) ((qB d).getD (toNat ((j:Nat):Int)) []) with|some c=>Hz (tys d) c|none=>0)=_;rw[w,Q];exact q1'
  rw[ev,ev'];refine⟨⟨af,af⟩,⟨af,af⟩,?_⟩;rw[bg,bg,q3,q3'];exact ab1 h2.2.2 G Q
 .have:=K.NQ a.toNat b.toNat (by have:=h.1;omega) (by have:=h.2.1;omega) h.2.2;have:=h.1;have:=h.2.1;omega
 .obtain⟨i,rfl,N⟩:=DR z l;obtain⟨j,rfl,hj⟩:=DR b0 V;refine⟨_,o339 HD N hj,o340 HD N hj,?_⟩;show _↔(tOf d).sb _ _;constructor
  .intro h;exact⟨⟨z,l⟩,⟨b0,V⟩,by rw[bg,bg];exact h⟩
  .intro h;have:=h.2.2;rw[bg,bg] at this;exact this
end Go.Proofs.YtbnlhmaaccgbjaaGreatDoor.cl.pf
namespace Go.Proofs.YtbnlhmaaccgbjaaGreatDoor.cl
open Go Go.AM
def Ze {d:List aC}:IG d=0↔UD d=false/\xd [] d=0/\yJ (kH d) d=0/\F1 d=1/\Dv d:=by
 unfold IG;constructor
 .intro h;split at h
  .cases h
  split at h
  .rename_i l;exact absurd h l
  split at h
  .rename_i l;exact absurd h l
  split at h
  .cases h
  split at h
  .rename_i q l w z D;exact⟨by simpa using q,eB l,eB w,eB z,D⟩
  .cases h
 .rintro⟨a,b,c,e,f⟩;rw[au (by simp[a]),au (λh=>h b),au (λh=>h c),au (λh=>h e),aB f]
def leT (tb:List (b9×List b9)) (x y:b9):Bool:=match tb.find? λp=>p.1==x with
 |some p=>p.2.contains y
 |none=>false
def Pp (d:List aC) (x:b9):List b9->List b9->Bool
 |_,[]=>true
 |q,y::l=>(y==x||d.any λt=>t.Name==y&&t.dW.any λs=>q.contains s)&&Pp d x (y::q) l
def tabOk (d:List aC) (tb:List (b9×List b9)):Bool:=
 (tb.all λp=>Pp d p.1 [] p.2)&&(kH d).all λx=>leT tb x x&&(kH d).all λy=> !leT tb x y||(dn d y).all λz=>leT tb x z
def ZX {d:List aC} {x:b9}:∀(l q:List b9),Pp d x q l=true->(∀s∈q,Le d x s)->∀y∈l,Le d x y:=by intro l;induction l with
 |nil=>intro q _ _ y D;cases D
 |cons z l P=>
  intro q h L y D;unfold Pp at h;rw[aS,gK] at h;have N:Le d x z:=by
   rcases h.1 with G|G
   .rw[jf] at G;rw[G];exact .refl
   .obtain⟨t,O,H⟩:=kM.1 G;rw[aS,jf] at H;obtain⟨s,I,K⟩:=kM.1 H.2;rw[Ep] at K;exact .step (L s K) (KD.2 ⟨t,O,H.1,I⟩)
  rcases aJ.1 D with rfl|D
  .exact N
  .refine P (z::q) h.2 (λs w=> ?_) y D;rcases aJ.1 w with rfl|w
   .exact N
   .exact L s w
def tab_le {d:List aC} {tb:List (b9×List b9)} (h:tabOk d tb=true):∀x∈kH d,∀y,Le d x y↔leT tb x y=true:=by
 unfold tabOk at h;rw[aS,cH,cH] at h;intro x H y;have q:=h.2 x H;rw[aS,cH] at q;have key:∀y,Le d x y->y∈kH d/\leT tb x y=true:=by intro y l;induction l with
  |refl=>exact⟨H,q.1⟩
  |step _ I K=>
   refine⟨UW I,?_⟩;have:=q.2 _ K.1;rw[gK,K.2,cH] at this;rcases this with w|w
   .cases w
   .exact w _ I
 constructor
 .intro l;exact(key y l).2
 .intro l;unfold leT at l;split at l
  .rename_i p G;have D:=nR G;have z:p.1=x:=by simpa using p6 G
   rw[Ep] at l;rw[<-z];exact ZX p.2 [] (h.1 p D) (λs L=>by cases L) y l
  .cases l
def rk (d:List aC) (s:b9):Nat:=(jo (λt:aC=>t.Name==s) d 0).toNat
def chk0 (d:List aC):Bool:= !UD d&&xd [] d==0&&yJ (kH d) d==0&&F1 d==1&&d.all λt=>t.dW.all λs=>Nat.blt (rk d s) (rk d t.Name)
def chk0_ok {d:List aC} (h:chk0 d=true):IG d=0:=by unfold chk0 at h;simp only[aS,jf,cH] at h;obtain⟨⟨⟨⟨l,q⟩,w⟩,z⟩,D⟩:=h;refine Ze.2 ⟨by simpa using l,q,w,z,rk d,λt H s G=> ?_⟩;exact fI (D t H s G)
section
variable (d:List aC) (le:b9->b9->Bool)
def cwC (all:List b9) (x:b9):Nat:=mk 0 ((List.range all.length).filter λi=>le x (all.getD i []))
def Zg:List Nat:=(iW d).map (cwC le (iW d))
def XZ (l:List b9):List b9:=(oK (l.filter λs=>decide (s∈kH d))).filter λx=>(oK (l.filter λs=>decide (s∈kH d))).all λy=>decide (y=x)|| !le y x
def vB (w:Nat):List b9->List Nat->Nat->List b9->b9
 |s::ss,c::q,i,l=>if c=w then s else vB w ss q (i+1) (if w.testBit i=true then l++[s] else l)
 |_,_,_,l=>yj [38] (XZ d le l)
def abo:List D7:=((AU (Zg d le)).map λw=>((vB d le w (iW d) (Zg d le) 0 [],w):D7)).foldl (λE p=>sJ E7 p E) []
def SE (F:b9):Option b9:=one (XZ d le (oK (xD d F)))
def stpC (w:Nat) (F:b9) (o:Option Nat) (t:aC):Option Nat:=match val t F with
 |some v=>if sub w (cwC le (iW d) t.Name)=true then some (comb o (cwC le (iW d) v)) else o
 |none=>o
def ab0 (w:Nat) (F:b9):Option Nat:=d.foldl (stpC d le w F) none
variable {d le} (hle:∀x∈kH d,∀y,Le d x y↔le x y=true)
include hle
open Classical in
theorem UT {all:List b9} {x:b9} (l:x∈kH d):cw d all x=cwC le all x:=by
 unfold cw idxs cwC;congr 1;refine lU λi _=> ?_
 rw[je,bB];exact hle x l _
theorem Xb:qs d=Zg d le:=by unfold qs Zg;exact gY λx l=>UT hle (gH.1 l)
theorem KC (l:List b9):wh d l=XZ d le l:=by
 unfold wh XZ;have D:∀x∈oK (l.filter λs=>decide (s∈kH d)),x∈kH d:=λx G=>by have:=(c4.1 (gH.1 G)).2;simpa using this
 generalize oK (l.filter λs=>decide (s∈kH d))=m at D;refine lU λx G=> ?_
 unfold sd;rw[je,cH,cH];have key:∀y∈m,((decide (y=x)|| !(open Classical in decide (Le d y x)))=true↔(decide (y=x)|| !le y x)=true):=by intro y q;have z:=hle y (D y q) x;cases w:le y x with
  |true=>
   have:Le d y x:=z.2 w
   simp[this]
  |false=>
   have:¬Le d y x:=λh=>by rw[z.1 h] at w;cases w
   simp[this]
 constructor
 .intro h y q;refine(key y q).1 ?_;have:=h y q;simpa using this
 .intro h y q;have:=(key y q).2 (h y q);simpa using this
theorem Pj {w:Nat}:∀(ss:List b9) (q:List Nat) (i:Nat) (l:List b9),nh d w ss q i l=vB d le w ss q i l:=by intro ss;induction ss with
 |nil=>intro q i l;cases q<;>simp only[nh,vB,KC hle]
 |cons s ss z=>intro q i l;cases q with
  |nil=>simp only[nh,vB,KC hle]
  |cons c q=>simp only[nh,vB,z]
theorem J6:dM d=abo d le:=by unfold dM abo Fa;rw[Xb hle];congr 1;exact gY λw _=>by rw[Pj hle]
theorem SF (F:b9):CQ d F=SE d le F:=by unfold CQ SE;rw[KC hle]
theorem Xx (z:Vd d) (w:Nat) (F:b9):inh d w F=ab0 d le w F:=by
 have key:∀(l:List aC) (o:Option Nat),(∀t∈l,t∈d)->l.foldl (CF d w F) o=l.foldl (stpC d le w F) o:=by intro l;induction l with
  |nil=>intro o _;rfl
  |cons t l H=>
   intro o h;rw[gJ,gJ];have q:=h t ai;have e:CF d w F o t=stpC d le w F o t:=by unfold CF stpC;cases G:val t F with
    |none=>rfl
    |some v=>simp only;rw[show cwd d t.Name=cwC le (iW d) t.Name from UT hle (Tb q),show cwd d v=cwC le (iW d) v from UT hle (z.val q G)]
   rw[e];exact H _ λu D=>h u (by simp[D])
 exact key d none λt h=>h
end
structure At (d:List aC) (le:b9->b9->Bool) (E:List D7):Prop where
 hl:∀x∈kH d,∀y,Le d x y↔le x y=true
 dM:abo d le=E
 IG:IG d=0
def At.tys {d:List aC} {le:b9->b9->Bool} {E:List D7} (h:At d le E):tys d=E.map (·.2):=by unfold cl.tys;rw[J6 h.hl,h.dM]
def At.zG {d:List aC} {le:b9->b9->Bool} {E:List D7} (h:At d le E):zG d=E.map ID:=by unfold cl.zG;rw[J6 h.hl,h.dM]
def chk5C (d:List aC) (le:b9->b9->Bool) (E:List D7):Int:=
 if(AU (Zg d le)).length>256 then 7 else if(qB d).length>64 then 7 else if r9 (kH d) d≠0 then r9 (kH d) d
 else if((qB d).any λF=>(SE d le F).isNone)=true then 10 else if((E.map (·.2)).any λw=>(qB d).any λF=>ab0 d le w F==some 0)=true then 11 else 0
def At.xK {d:List aC} {le:b9->b9->Bool} {E:List D7} (h:At d le E):xK d=chk5C d le E:=by
 unfold cl.xK chk5C;have H:=h.IG;rw[au (λD=>D H),Xb h.hl];by_cases l:(AU (Zg d le)).length>256
 .rw[aB l,aB l]
 .rw[au l,au l];by_cases q:(qB d).length>64
  .rw[aB q,aB q]
  .rw[au q,au q];by_cases z:r9 (kH d) d=0
   .have hn:¬(r9 (kH d) d≠0):=λD=>D z
    rw[au hn,au hn];have e1:CB d (qB d)=(qB d).any λF=>(SE d le F).isNone:=by unfold CB;congr 1;funext F;rw[SF h.hl]
    have G:Dz d (cl.tys d)=(E.map (·.2)).any λw=>(qB d).any λF=>ab0 d le w F==some 0:=by unfold Dz;rw[h.tys];congr 1;funext w;congr 1;funext F;rw[Xx h.hl (NW z)]
    rw[e1,G]
   .rw[aB z,aB z]
def nuC (E:List D7) (x:b9):Nat:=(jo (λc:fQ=>c.Name==x) (E.map ID) 0).toNat
def OC (d:List aC) (le:b9->b9->Bool) (E:List D7):List cU:=(qB d).map λF=>⟨F,(nuC E ((SE d le F).getD []):Int)⟩
def At.feats {d:List aC} {le:b9->b9->Bool} {E:List D7} (h:At d le E):vP d=OC d le E:=by
 unfold vP OC;refine gY λF _=> ?_
 unfold Mo nu nuC;rw[h.zG,SF h.hl]
def ad0 (d:List aC) (le:b9->b9->Bool) (E:List D7) (w:Nat):List b9->Nat->List fV
 |[],_=>[]
 |F::l,k=>match ab0 d le w F with
  |some c=>⟨(k:Int),Hz (E.map (·.2)) c⟩::ad0 d le E w l (k+1)
  |none=>ad0 d le E w l (k+1)
def At.row {d:List aC} {le:b9->b9->Bool} {E:List D7} (h:At d le E) (z:Vd d) (w:Nat):∀(l:List b9) (k:Nat),xW d w l k=ad0 d le E w l k:=by intro l;induction l with
 |nil=>intro k;rfl
 |cons F l q=>intro k;unfold xW ad0;rw[Xx h.hl z,h.tys];cases ab0 d le w F with
  |none=>exact q _
  |some c=>simp only;rw[q]
end Go.Proofs.YtbnlhmaaccgbjaaGreatDoor.cl
set_option maxRecDepth 100000
namespace Go.Proofs.YtbnlhmaaccgbjaaGreatDoor.cl.pf
open Go Go.AM
def szB (d:List aC):Bool:=Nat.ble d.length 64&&d.all λt=>Nat.ble t.dW.length 20&&Nat.ble t.bJ.length 100
def ad9 {d:List aC} (h:szB d=true):Sz d/\d.length<=64/\Fz d:=by
 unfold szB at h;rw[aS,cH] at h;have q:=fI h.1;have key:∀t∈d,t.dW.length<=20/\t.bJ.length<=100:=λt l=>by have:=h.2 t l;rw[aS] at this;exact⟨fI this.1,fI this.2⟩
 exact⟨⟨af,λt l=>by have:=(key t l).1;omega⟩,q,λt l=>by have:=(key t l).2;omega⟩
def TP:List (b9×List b9):=[([116,111,112],
  [[116,111,112],[108,105,115,116],[100,108,105,115,116],[105,110,100,101,120],[114,101,108],
   [113,101,113],[115,101,109],[115,105,103,110],[99,111,110,115],[110,117,108,108],
   [104,97,110,100,108,101],[101,118,101,110,116],[101,110,116,105,116,121]]),
 ([108,105,115,116],[[108,105,115,116],[99,111,110,115],[110,117,108,108]]),
 ([99,111,110,115],[[99,111,110,115]]),([110,117,108,108],[[110,117,108,108]]),
 ([100,108,105,115,116],[[100,108,105,115,116]]),
 ([105,110,100,101,120],
  [[105,110,100,101,120],[104,97,110,100,108,101],[101,118,101,110,116],
   [101,110,116,105,116,121]]),
 ([104,97,110,100,108,101],[[104,97,110,100,108,101]]),
 ([101,118,101,110,116],[[101,118,101,110,116]]),
 ([101,110,116,105,116,121],[[101,110,116,105,116,121]]),([114,101,108],[[114,101,108]]),
 ([113,101,113],[[113,101,113]]),([115,101,109],[[115,101,109]]),
 ([115,105,103,110],[[115,105,103,110]])]
def EP:List D7:=[([116,111,112],8191),([105,110,100,101,120],60),([108,105,115,116],193),([99,111,110,115],1),
  ([100,108,105,115,116],2),([101,110,116,105,116,121],4),([101,118,101,110,116],8),
  ([104,97,110,100,108,101],16),([110,117,108,108],128),([113,101,113],256),([114,101,108],512),
  ([115,101,109],1024),([115,105,103,110],2048)]
def GP:List b9:=[[65,82,71,83],[67,79,78,83],[70,73,82,83,84],[72,73,71,72],[73,78,68,69,88],[76,65,66,69,76],[76,65,83,84],[76,73,83,84],[76,79,87],[82,69,76,83],[82,69,83,84],[83,69,77],[84,79,80]]
def atP:At AS (leT TP) EP:=⟨tab_le (by kernel_rfl),by kernel_rfl,chk0_ok (by kernel_rfl)⟩
def ckP:xK AS=0:=atP.xK.trans (by kernel_rfl)
def okP:Ok5 AS:=by obtain⟨z,l,hf⟩:=ad9 (d:=AS) (by kernel_rfl);exact(KX z l hf ckP).1
def tysP:tys AS=EP.map (·.2):=atP.tys
def lenP:(tys AS).length=13:=by rw[tysP];rfl
def ftsP:qB AS=GP:=by kernel_rfl
def x332:f332 AS=some (se AS,0):=by obtain⟨z,l,hf⟩:=ad9 (d:=AS) (by kernel_rfl);rw[c332 z l hf,aB ckP]
def c403 {d:List aC} (z:Sz d) (hf:Fz d):∃(h:aN) (t:TH),f403 d=some h/\t.OK h:=by
 have pre:Option.bind (f327) (λl=>Option.bind (f332 l) λq=>some q.1)=some (se AS):=by rw[c327,aj,x332,aj]
 by_cases D:d.length<=20
 .by_cases w:xK d=0
  .refine⟨_,_,e403 ?_,ON (KX z af hf w).1⟩;rw[cond_pos (by rw[bB];omega),c332 z af hf,aj,aB w,cond_pos (by rfl)]
  .refine⟨_,_,e403 ?_,ON okP⟩;rw[cond_pos (by rw[bB];omega),c332 z af hf,aj,au w,cond_neg (by simpa using w)];exact pre
 .refine⟨_,_,e403 ?_,ON okP⟩;rw[cond_neg (by rw[aT];omega)];exact pre
