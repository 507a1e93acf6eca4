/- Canon; the same value at two paths (the reference's sharing). -/
import Derived.Test.YthppjmoncapdfaaGreatDoorClXn
set_option linter.all false
open Go.IntKind (wrap)
open Int (toNat)
open List (length replicate)
namespace Go.Proofs.YthppjmoncapdfaaGreatDoor.cl.pf
open Go Go.AM
def Px (l:List bY) (n:Int):Prop:=(∀a∈l,0<=a.aT/\0<=a.To/\a.To<n)/\(l.map (·.aT)).Nodup
def c454 {l:List bY} {n:Int} (hl:l.length<=1000000):∃e,f454 l n=some e/\(e=0↔Px l n):=by
 have key:∀(k i:Nat),l.length=i+k->((∀a∈l.take i,0<=a.aT/\0<=a.To/\a.To<n)/\((l.take i).map (·.aT)).Nodup)->∃e,Kf l n (i:Int)=some e/\(e=0↔Px l n):=by intro k;induction k with
  |zero=>intro i V K;have e:i=l.length:=af;subst e;rw[fC] at K;refine⟨0,IN ?_,⟨λ_=>K,λ_=>rfl⟩⟩;simp
  |succ k ih=>
   intro i V K;have q:i<l.length:=af;have O:=br q;by_cases R:l[i].aT<0
   .refine⟨2,IN ?_,⟨λe=>by omega,λh=>by have:=h.1 _ O;omega⟩⟩;rw[cond_pos (by rw[bH];omega),bS q,cond_pos (by rw[bH];exact R)]
   by_cases U:l[i].To<0
   .refine⟨2,IN ?_,⟨λe=>by omega,λh=>by have:=h.1 _ O;omega⟩⟩;rw[cond_pos (by rw[bH];omega),bS q,cond_neg (by rw[bP];exact R),bS q,cond_pos (by rw[bH];exact U)]
   by_cases h3:l[i].To>=n
   .refine⟨2,IN ?_,⟨λe=>by omega,λh=>by have:=h.1 _ O;omega⟩⟩;rw[cond_pos (by rw[bH];omega),bS q,cond_neg (by simp_all),bS q,cond_neg (by simp_all),bS q,cond_pos (by simp_all)]
   have step:∀r,Kg l n (i:Int) 0=some r->Kf l n (i:Int)=some r:=λr hr=>by refine IN ?_;rw[cond_pos (by grind),bS q,cond_neg (by simp_all),bS q,cond_neg (by simp_all),bS q,cond_neg (by simp_all)];omega
   have inner:∀(d w:Nat),i=w+d->(∀j,(L:j<l.length)->j<w->l[j].aT≠l[i].aT)->∃e,Kg l n (i:Int) (w:Int)=some e/\(e=0↔Px l n):=by intro d;induction d with
    |zero=>
     intro w N P;have e:w=i:=af;subst e
     obtain⟨e,H,D⟩:=ih (w+1) af (by
      rw[cr,aM q];refine⟨λa I=> ?_,?_⟩
      .grind
      .rw[bM,gW];refine⟨K.2,by simp,λx hx y S=> ?_⟩;simp at S;subst S;obtain⟨a,I,rfl⟩:=aD.1 hx;obtain⟨j,L⟩:=gE.1 I
       grind)
     refine⟨e,Ue ?_,D⟩;rw[cond_neg ah,bp af];omega
    |succ d Q=>
     intro w N P;have z:w<l.length:=af;by_cases e:l[w].aT=l[i].aT
     .refine⟨4,Ue ?_,⟨λe=>by omega,λh=> ?_⟩⟩
      .rw[cond_pos (by grind),bS z,bS q,cond_pos (by simp_all)]
      .have:=h.2;unfold List.Nodup at this;rw[gU] at this;grind[List.pairwise_iff_getElem]
     .obtain⟨r,H,D⟩:=Q (w+1) af (λj L G=>by
       grind)
      refine⟨r,Ue ?_,D⟩;rw[cond_pos (by grind),bS z,bS q,cond_neg (by simp_all),bp af];omega
   obtain⟨e,H,D⟩:=inner i 0 af (λj L G=>absurd G af);simp_all
 obtain⟨e,H,D⟩:=key l.length 0 af ⟨λa I=>by(cases I),ah⟩;exact⟨e,e454 H,D⟩
def zw (f:FSt):Prop:=0<f.aj.length/\f.aj.length<=4096/\∀x∈f.aj,0<=x.cQ/\Px x.bD f.aj.length
def c435 {f:FSt} (K:∀x∈f.aj,x.bD.length<=1000000):∃e,f435 f=some e/\(e=0↔zw f):=by
 by_cases O:f.aj.length=0
 .refine⟨1,e435 ?_,⟨λe=>by omega,λh=>by have:=h.1;omega⟩⟩;simp_all
 by_cases P:f.aj.length>4096
 .refine⟨7,e435 ?_,⟨λe=>by omega,λh=>by have:=h.2.1;omega⟩⟩;grind
 have key:∀(k i),f.aj.length=i+k->(∀x∈f.aj.take i,0<=x.cQ/\Px x.bD f.aj.length)->∃e,O2 (i) f=some e/\(e=0↔zw f):=by intro k;induction k with
  |zero=>intro i I D;have e:i=f.aj.length:=af;subst e;rw[fC] at D;refine⟨0,Nb ?_,⟨λ_=>⟨af,by omega,D⟩,λ_=>rfl⟩⟩;simp
  |succ k L=>
   intro i I D;have l:i<f.aj.length:=af;have z:=br l;by_cases Q:f.aj[i].cQ<0
   .refine⟨2,Nb ?_,⟨λe=>by omega,λh=>by have:=(h.2.2 _ z).1;omega⟩⟩;rw[cond_pos (by grind),bS l,cond_pos (by simp_all)]
   .obtain⟨e,q,w⟩:=c454 (n:=(f.aj.length)) (K _ z);by_cases H:e=0
    .obtain⟨r,R,N⟩:=L (i+1) af (λx G=>by
      rw[cr] at G
      grind)
     refine⟨r,Nb ?_,N⟩;rw[cond_pos (by grind),bS l,cond_neg (by simp_all),bS l,q,ak,cond_neg (by simp_all),bp af];omega
    .refine⟨e,Nb ?_,⟨λh=>absurd h H,λh=>absurd (w.2 (h.2.2 _ z).2) H⟩⟩;rw[cond_pos (by grind),bS l,cond_neg (by simp_all),bS l,q,ak,cond_pos (by simp_all)]
 obtain⟨e,q,w⟩:=key f.aj.length 0 af (λx G=>by cases G);refine⟨e,e435 ?_,w⟩;grind
def zw.SU {f:FSt} (h:zw f) (w:∀x∈f.aj,x.bD.length<=1000000):L5 f:=λx l=>⟨w x l,λa q=>by have:=(h.2.2 x l).2.1 a q;omega⟩
def c421 {f:FSt} (q:∀x∈f.aj,x.bD.length<=1000000):(zw f/\f421 f=some (lM (CF f) f.aj.length 0,0))\/(¬zw f/\∃e,e≠0/\f421 f=some (⟨[]⟩,e)):=by
 obtain⟨e,z,D⟩:=c435 q;by_cases G:e=0
 .have l:=D.1 G;refine .inl ⟨l,e421 ?_⟩;have w:(0:Int)=((0:Nat)):=rfl;rw[z,ak,cond_neg (by grind),w,c436 (l.SU q) (by have:=l.2.1;omega) l.1,ak]
 simp_all[e421,cond_pos]
def c468 {l:List bY} {f:Int} (z:l.length<=1000000):f468 l f=some (match fa l f with|some a=>a.To|none=> -1):=by
 have key:∀(xs) (i),l.drop i=xs->Pd l f (i)=some (match fa xs f with|some a=>a.To|none=> -1):=by intro xs;induction xs with
  |nil=>intro i q;refine acj ?_;rw[bq q];rfl
  |cons x xs w=>intro i q;refine acj ?_;rw[bf q,aQ q,aQ q,aX q af,w _ (aH q)];unfold fa;grind
 exact e468 (key l 0 rfl)
def acS {R:Type} {l:List (List bY)} {i:Nat} (h:i<l.length) (k:List bY->Option R):nrT (l.map some) i k=k (l.getD i []):=by simp_all[nrT]
def Xs (l:List (List bY)):Nat->List Int->Nat->Prop
 |x,[],y=>x=y
 |x,f::q,y=>∃z:Nat,(⟨f,(z:Int)⟩:bY)∈l.getD x []/\Xs l z q y
def Xs.snoc {q:List (List bY)} {f:Int} {z:Nat}:∀{D:List Int} {x y:Nat},Xs q x D y->(⟨f,(z:Int)⟩:bY)∈q.getD y []->Xs q x (D++[f]) z
 |[],x,y,h,l=>by cases h;exact⟨z,l,rfl⟩
 |g::D,x,y,⟨w,G,h⟩,l=>⟨w,G,Xs.snoc h l⟩
def Xs.mono {z D:List (List bY)} (h:∀x,∀a∈z.getD x [],a∈D.getD x []):∀{q:List Int} {x y:Nat},Xs z x q y->Xs D x q y
 |[],_,_,l=>l
 |_::q,x,y,⟨w,G,l⟩=>⟨w,h x _ G,Xs.mono h l⟩
def EC (A:List Int):List (List bY):=(List.range (A.length+1)).map λj=>match A[j]? with
 |some f=>[⟨f,(j+1:Nat)⟩]
 |none=>[]
def yl {A:List Int} {j:Nat} (h:j<A.length):(EC A).getD j []=[⟨A[j],(j+1:Nat)⟩]:=by grind[EC]
def GQ {A:List Int} {j:Nat} (h:A.length<=j):(EC A).getD j []=[]:=by unfold EC;grind
def Mp {A:List Int}:∀i,i<=A.length->Xs (EC A) 0 (A.take i) i
 |0,_=>rfl
 |i+1,h=>by rw[cr,aM af];exact(Mp i af).snoc (by rw[yl af];simp)
section
variable {F:Nat} {A B:List Int} (hA:∀f∈A,0<=f/\f<(F:Int)) (hB:∀f∈B,0<=f/\f<(F:Int)) (hAl:A.length<=1000) (YX:B.length<=1000) (hF:F<=1000) (X2:B≠[]) (hnp:¬B<+:A)
structure SI (F:Nat) (A B:List Int) (n i:Nat) (ys:List (List bY)):Prop where
 len:A.length+1<=ys.length
 le:ys.length<=A.length+1+i
 aw:∀x,x<ys.length->AW F ys.length (ys.getD x [])
 pa:Xs ys 0 A A.length
 pb:Xs ys 0 (B.take i) n
 nlt:n<ys.length
 dK:∀(C:FSt) (T' k:Nat),Can T' F C->zN C A=some k->zN C B=some k->∃m:Nat->Nat,m 0=0/\m A.length=k/\m n=Pr (mJ C) B i/\∀x,x<ys.length->∀a∈ys.getD x [],(a.aT,m a.To.toNat)∈iY C (m x)
 ph:ys.getD n []=[]\/(n=i/\i<=A.length/\B.take i=A.take i/\ys=EC A)
theorem add_get {l:List (List bY)} {n x:Nat} {a:bY} (q:n<l.length):(l.set n (l.getD n []++[a])).getD x []=if n=x then l.getD n []++[a] else l.getD x []:=by grind
theorem Zl {l:List (List bY)} {n:Nat} {a:bY} (w:n<l.length) (x:Nat):∀b∈l.getD x [],b∈(l.set n (l.getD n []++[a])).getD x []:=λb q=>by grind
theorem AW.snoc {F n:Nat} {l:List bY} (h:AW F n l) {a:bY} (G:(0<=a.aT/\a.aT<(F:Int))/\0<=a.To/\a.To<(n:Int)) (w:fa l a.aT=none):AW F n (l++[a]):=by
 refine⟨?_,λb q=> ?_⟩
 .rw[bM,gW];refine⟨h.nd,by simp,λx D y z=> ?_⟩;simp at z;subst z;obtain⟨b,q,rfl⟩:=aD.1 D;exact MB w b q
 .rcases bw.1 q with q|q
  .exact h.ok b q
  simp_all
theorem AW.more {F n w:Nat} {l:List bY} (h:AW F n l) (z:n<=w):AW F w l:=⟨h.nd,λb q=>⟨(h.ok b q).1,(h.ok b q).2.1,by have:=(h.ok b q).2.2;omega⟩⟩
include hA in
theorem SI.init:SI F A B 0 0 (EC A):=by
 have z:(EC A).length=A.length+1:=by simp[EC]
 refine⟨af,by omega,λx q=> ?_,?_,rfl,by omega,λC G k D w H=>⟨Pr (mJ C) A,rfl,CK w,rfl,λx q a l=> ?_⟩, .inr ⟨rfl,by omega,rfl,rfl⟩⟩
 .rw[z] at q⊢;by_cases h:x<A.length
  .rw[yl h];exact⟨ah,λa l=>by simp at l;subst l;exact⟨hA _ (br h),by show 0<=((x+1:Nat):Int);omega,by show((x+1:Nat):Int)<((A.length+1:Nat):Int);omega⟩⟩
  .rw[GQ af];exact⟨ah,λa l=>by cases l⟩
 .have:=Mp (A:=A) A.length (aU _);rwa[fC] at this
 .rw[z] at q;by_cases h:x<A.length
  .rw[yl h] at l;simp at l;subst l;exact uI D.KC w h
  .rw[GQ af] at l;cases l
include hB in
theorem SI.go {n i:Nat} {H:List (List bY)} (I:SI F A B n i H) (K:i<B.length) {a:bY} (Q:fa (H.getD n []) B[i]=some a):0<=a.To/\SI F A B a.To.toNat (i+1) H:=by
 obtain⟨q,z⟩:=A3 Q;rcases I.ph with h|⟨rfl,R,G,rfl⟩
 .rw[h] at q;cases q
 .have w:n<A.length:=by
   by_cases h:n<A.length
   .exact h
   .rw[GQ af] at q;cases q
  rw[yl w] at q;simp at q;subst q;have z:A[n]=B[n]:=z;have hl:(EC A).length=A.length+1:=by simp[EC]
  have l:B.take (n+1)=A.take (n+1):=by rw[cr,cr,G,aM K,aM w,z]
  refine⟨by show 0<=((n+1:Nat):Int);omega,?_⟩;show SI F A B ((n+1:Nat):Int).toNat (n+1) (EC A);rw[aR];refine⟨I.len,by have:=I.le;omega,I.aw,I.pa,?_,by omega,λC O k D S L=> ?_, .inr ⟨rfl,by omega,l,rfl⟩⟩
  .rw[l];exact Mp (n+1) af
  .obtain⟨m,U,V,m2,N⟩:=I.dK C O k D S L;refine⟨m,U,V,?_,N⟩;have e1:=N n I.nlt ⟨A[n],(n+1:Nat)⟩ (by rw[yl w];simp);have P:=uI D.KC L K;simp only at e1;rw[m2,z,aR] at e1;exact(D.yh _).KC e1 P
include hB in
theorem SI.new {n i:Nat} {l:List (List bY)} (I:SI F A B n i l) (N:i<B.length) (L:fa (l.getD n []) B[i]=none):SI F A B l.length (i+1) (l.set n (l.getD n []++[(⟨B[i],(l.length:Nat)⟩:bY)])++[[]]):=by
 have R:(l.set n (l.getD n []++[(⟨B[i],(l.length:Nat)⟩:bY)])++[[]]).length=l.length+1:=ah;have K:∀x,x<l.length->(l.set n (l.getD n []++[(⟨B[i],(l.length:Nat)⟩:bY)])++[[]]).getD x []=if n=x then l.getD n []++[(⟨B[i],(l.length:Nat)⟩:bY)] else l.getD x []:=λx H=>by rw[B5 (by simpa using H),add_get I.nlt]
 have G:(l.set n (l.getD n []++[(⟨B[i],(l.length:Nat)⟩:bY)])++[[]]).getD l.length []=[]:=by rw[B6 ah];simp
 have z:∀x,∀b∈l.getD x [],b∈(l.set n (l.getD n []++[(⟨B[i],(l.length:Nat)⟩:bY)])++[[]]).getD x []:=λx b D=>by
  by_cases H:x<l.length
  .rw[K x H];by_cases e:n=x
   .subst e;rw[az rfl];exact dV _ D
   .rw[au e];exact D
  .rw[aZ,fB af] at D;cases D
 have O:=I.nlt;have V:=I.len;have Q:=I.le;refine⟨af,by omega,λx H=> ?_,I.pa.mono z,?_,by omega,λC U k P k1 S=> ?_, .inl G⟩
 .rw[R] at H⊢;by_cases w:x<l.length
  .rw[K x w];by_cases e:n=x
   .subst e;rw[az rfl];exact((I.aw n w).more af).snoc ⟨hB _ (br N),by show 0<=((l.length:Nat):Int);omega,by show((l.length:Nat):Int)<((l.length+1:Nat):Int);omega⟩ L
   .rw[au e];exact(I.aw x w).more af
  .have e:x=l.length:=af;subst e;rw[G];exact⟨ah,λa L=>by cases L⟩
 .rw[cr,aM N];exact(I.pb.mono z).snoc (by rw[K n O,az rfl];simp)
 .obtain⟨m,m0,m1,m2,m3⟩:=I.dK C U k P k1 S;refine⟨λx=>if x=l.length then Pr (mJ C) B (i+1) else m x,?_,?_,by simp,λx H a q=> ?_⟩
  .show(if 0=l.length then _ else _)=0;rw[au af];exact m0
  .show(if A.length=l.length then _ else _)=k;rw[au af];exact m1
  .rw[R] at H;by_cases w:x<l.length
   .rw[K x w] at q;have old:∀b∈l.getD x [],(b.aT,if b.To.toNat=l.length then Pr (mJ C) B (i+1) else m b.To.toNat)∈iY C (if x=l.length then Pr (mJ C) B (i+1) else m x):=λb D=>by
     have:=((I.aw x w).ok b D).2;rw[au af,au af];exact m3 x w b D
    by_cases e:n=x
    .subst e;rw[az rfl] at q;rcases bw.1 q with q|q
     .exact old a q
     .simp at q;subst q;show(B[i],if((l.length:Nat):Int).toNat=l.length then _ else _)∈iY C (if n=l.length then _ else _);rw[aR,az rfl,au af,m2];exact uI P.KC S N
    .rw[au e] at q;exact old a q
   .have e:x=l.length:=af;subst e;rw[G] at q;cases q
include hB X2 hnp in
theorem SI.last {n i:Nat} {D:List (List bY)} (I:SI F A B n i D) (K:i+1=B.length):fa (D.getD n []) (B[i]'(by omega))=none:=by
 rcases I.ph with h|⟨rfl,H,z,rfl⟩
 .rw[h];rfl
 .cases e:fa ((EC A).getD n []) (B[n]'(by omega)) with
  |none=>rfl
  |some a=>
   exfalso;obtain⟨l,w⟩:=A3 e;have q:n<A.length:=by
    by_cases h:n<A.length
    .exact h
    .rw[GQ af] at l;cases l
   rw[yl q] at l;simp at l;subst l;have w:A[n]=B[n]'(by omega):=w;apply hnp
   have:B=A.take (n+1):=by have G:B.take (n+1)=B:=gd af;rw[<-G,cr,cr,z,aM (by omega:n<B.length),aM q,w]
   rw[this];exact List.take_prefix _ _
include hA hB X2 hnp hAl YX hF in
theorem SI.fin {n i:Nat} {q:List (List bY)} (I:SI F A B n i q) (hi:i+1=B.length) {g:FSt} (hg:g=⟨List.zipWith Sn (replicate q.length ⟨0,[]⟩) (q.set n (q.getD n []++[⟨B[i]'(by omega),(A.length:Nat)⟩]))⟩):
  ∃f,f421 g=some (f,0)/\YV F A B f:=by
 have hno:=I.last hB X2 hnp hi;have hib:i<B.length:=af;generalize hzs:q.set n (q.getD n []++[⟨B[i]'(by omega),(A.length:Nat)⟩])=P at hg;have hzl:P.length=q.length:=by rw[<-hzs];simp
 have L:∀x,P.getD x []=if n=x then q.getD n []++[⟨B[i],(A.length:Nat)⟩] else q.getD x []:=λx=>by rw[<-hzs];exact add_get I.nlt
 have N:∀x,∀b∈q.getD x [],b∈P.getD x []:=λx=>by rw[<-hzs];exact Zl I.nlt x
 have hIl:=I.len;have hIle:=I.le;have K:∀x,x<q.length->AW F q.length (P.getD x []):=λx l=>by
  rw[L];by_cases e:n=x
  .subst e;rw[az rfl];exact(I.aw n l).snoc ⟨hB _ (br hib),by show 0<=((A.length:Nat):Int);omega,by show((A.length:Nat):Int)<((q.length:Nat):Int);omega⟩ hno
  .rw[au e];exact I.aw x l
 have hgl:g.aj.length=q.length:=by rw[hg];simp[hzl]
 have hgg:∀x,x<q.length->g.aj[x]? =some ⟨0,P.getD x []⟩:=λx l=>by rw[hg];show(List.zipWith _ _ _)[x]? =_;rw[C6,jr,az l,aM (by omega:x<P.length),aZ,aM (by omega:x<P.length)];rfl
 have S:∀y∈g.aj,∃x,x<q.length/\y=⟨0,P.getD x []⟩:=λy V=>by obtain⟨x,l⟩:=gE.1 V;have G:=(bF.1 l).1;rw[hgl] at G;rw[hgg x G] at l;exact⟨x,G,(cU l).symm⟩
 have hfg:zw g:=by refine⟨af,by omega,λy V=> ?_⟩;obtain⟨x,l,rfl⟩:=S y V;refine⟨js 0,λa D=> ?_,(K x l).nd⟩;have:=(K x l).ok a D;rw[hgl];exact⟨this.1.1,this.2.1,this.2.2⟩
 have hs:∀y∈g.aj,y.bD.length<=1000000:=λy V=>by obtain⟨x,l,rfl⟩:=S y V;have:=(K x l).len;show(P.getD x []).length<=_;omega
 rcases c421 hs with⟨_,e⟩|⟨hno,_⟩
 .have O:∀x,x<q.length->Cv g x=(Gn (P.getD x [])).map λa=>(a.aT,a.To.toNat):=λx l=>by unfold Cv;rw[hgg x l]
  have hty:∀x,x<q.length->ny g x=0:=λx l=>by unfold ny;rw[hgg x l]
  have z:GO 1 F (CF g) q.length:=by
   refine⟨λx l p H=> ?_,λx l=> ?_,λx l p H=> ?_,λx l=> ?_⟩
   .have H:p∈Cv g x:=H;rw[O x l] at H;obtain⟨a,D,rfl⟩:=aD.1 H;have:=((K x l).Gn.ok a D).2;show a.To.toNat<_;omega
   .show zl (Cv g x);rw[O x l];unfold zl;rw[gU];exact(K x l).Gn.yh
   .have H:p∈Cv g x:=H;rw[O x l] at H;obtain⟨a,D,rfl⟩:=aD.1 H;exact((K x l).Gn.ok a D).1
   .show 0<=ny g x/\ny g x<_;rw[hty x l];omega
  have Q:0<q.length:=af;have U:∀{π:List Int} {x y:Nat},x<q.length->Xs P x π y->AU (CF g) x π=some y:=by intro π;induction π with
   |nil=>intro x y _ h;cases h;rfl
   |cons f π ih=>
    intro x y l h;obtain⟨w,hw,h⟩:=h;have hm:(f,w)∈(CF g).sc x:=by show _∈Cv g x;rw[O x l];exact aD.2 ⟨_,(qh _).2.2 _|>.2 hw,ah⟩
    have hwl:w<q.length:=z.bd x l _ hm;show(match zo ((CF g).sc x) f with|some k=>AU (CF g) k π|none=>none)=_;rw[(sQ (z.yh x l)).2 hm];exact ih hwl h
  have hPA:=U Q (I.pa.mono N);have hPB:AU (CF g) 0 B=some A.length:=by
   have hb:B.take i++[B[i]]=B:=by have:=gd (by omega:B.length<=i+1);rw[cr,aM hib] at this;exact this
   have:=U Q ((I.pb.mono N).snoc (f:=B[i]) (z:=A.length) (by rw[L,az rfl];simp));rwa[hb] at this
  have hc:Can 1 F (lM (CF g) q.length 0):=Tg z Q;have hh:=VW (sb:=SD) z Q to0.refl;have R:∀i,rX (CF g).sc 0 i->zl ((CF g).sc i):=λi hi=>z.yh i (hi.lt z.bd Q)
  have qA:=(MT hh R hc.KC A 0 _ .root hPA).2;have qB:=(MT hh R hc.KC B 0 _ .root hPB).2;have q0:(jQ (CF g) q.length 0).idxOf 0=0:=hh.1;simp only[q0] at qA qB;refine⟨_,e,?_⟩;rw[hgl];refine⟨hc,⟨_,qA,qB⟩,λC T' sb hT hC hk=> ?_⟩;obtain⟨k,k1,k2⟩:=hk;obtain⟨m,m0,m1,m2,m3⟩:=I.dK C T' k hC k1 k2;refine le_zero hT hc hC ?_;have hl:(replicate C.aj.length (0:Int)).length=C.aj.length:=ah;have esc:(mJ (zn C (replicate C.aj.length 0))).sc=(mJ C).sc:=yN hl;have ety:∀y,(mJ (zn C (replicate C.aj.length 0))).ty y=0:=λy=>by
   show ny _ y=0;by_cases V:y<C.aj.length
   .rw[Ct hl V,aZ,jr,az V];rfl
   .unfold ny;rw[fB (by rw[vT hl];omega)]
  have hm:CH SD (CF g) 0 (mJ (zn C (replicate C.aj.length 0))) 0 m:=by
   refine⟨m0,λx l=>⟨⟨hty x (l.lt z.bd Q),ety _⟩,λp H=> ?_⟩⟩;have G:=l.lt z.bd Q;have H:p∈Cv g x:=H;rw[O x G] at H;obtain⟨a,D,rfl⟩:=aD.1 H;have D:=(qh _).2.2 a|>.1 D
   rw[esc];rw[L] at D;by_cases e2:n=x
   .subst e2;rw[az rfl] at D;rcases bw.1 D with D|D
    .exact m3 n G a D
    .simp at D;subst D;show(B[i],m ((A.length:Nat):Int).toNat)∈iY C (m n);rw[aR,m1,m2];have:=uI hC.KC k2 hib;have e3:Pr (mJ C) B (i+1)=k:=by rw[hi];exact CK k2
     rw[e3] at this;exact this
   .rw[au e2] at D;exact m3 x G a D
  exact⟨_,CH.comp (s1:=SD) (s2:=SD) (s3:=SD) (λa b=>to0.trans a b) (Vz z Q to0.refl) hm⟩
 .exact absurd hfg hno
include hA hB X2 hnp hAl YX hF in
theorem h439_10 {o4:FSt}:∀(k i n:Nat) (l:List (List bY)),B.length=i+1+k->SI F A B n i l->∃f,rP A B (n:Int) (i:Int) o4 (replicate l.length ⟨0,[]⟩) (l.map some)=some f/\YV F A B f:=by intro k;induction k with
 |zero=>
  intro i n l hi I;have q:=I.nlt;have L:=I.le;have w:i<B.length:=af;have N:=(I.aw n q).len;obtain⟨f,H,K⟩:=I.fin hA hB hAl YX hF X2 hnp af rfl;refine⟨f,Ra ?_,K⟩;have R:wrap .i64 ((B.length:Int)-1)=(i:Int):=by rw[jN af af];omega
  rw[bp af,cond_neg (by rw[bP];omega),uP (by simpa using q),aR,E5 q,R,bS w,bU _ af ah af,bh ⟨af,by simpa using q⟩,bh (by simpa using q),List.set_set];rw[sG];have Q:(l.map some).set n (some (l.getD n []++[⟨B[i],(A.length:Nat)⟩]))=(l.set n (l.getD n []++[⟨B[i],(A.length:Nat)⟩])).map some:=by rw[jm]
  rw[Q];show PG Sn _ _ _=_;rw[AT ah,H,ak]
 |succ k V=>
  intro i n l hi I;have q:=I.nlt;have L:=I.le;have w:i<B.length:=af;have N:=(I.aw n q).len
  have pre:∀r,(bif(decide (((match fa (l.getD n []) B[i] with|some a=>a.To|none=> -1):Int)<0)) then(
    check (0<=(n:Int)/\toNat (n:Int)<length (replicate l.length (⟨0,[]⟩:Node))) (
    RB (l.map some) (toNat (n:Int)) λz G=>
    aW B (i:Int) λD=>
    check ((length z+length [(bY.mk D ((length (replicate l.length (⟨0,[]⟩:Node)):Int)))]) *16<=140737488355328/\length z+length [(bY.mk D ((length (replicate l.length (⟨0,[]⟩:Node)):Int)))]<=4611686018427387904) (
    check (0<=(n:Int)/\toNat (n:Int)<length (replicate l.length (⟨0,[]⟩:Node))) (
    check ((toNat (n:Int))<length G) (tH (List.set G (toNat (n:Int)) (some (z++[(bY.mk D ((length (replicate l.length (⟨0,[]⟩:Node)):Int)))]))) λO=>
    check ((length (replicate l.length (⟨0,[]⟩:Node))+length [(Node.mk 0 ([]:List bY))]) *32<=140737488355328/\length (replicate l.length (⟨0,[]⟩:Node))+length [(Node.mk 0 ([]:List bY))]<=4611686018427387904) (
    tH (O++[some []]) λP=>
    rP A B ((length (replicate l.length (⟨0,[]⟩:Node)):Int)) ((i+1:Nat):Int) o4 ((replicate l.length (⟨0,[]⟩:Node))++[(Node.mk 0 ([]:List bY))]) P))))))
    else rP A B (match fa (l.getD n []) B[i] with|some a=>a.To|none=> -1) ((i+1:Nat):Int) o4 (replicate l.length ⟨0,[]⟩) (l.map some))=some r->rP A B (n:Int) (i:Int) o4 (replicate l.length ⟨0,[]⟩) (l.map some)=some r:=λr U=>by
   refine Ra ?_;rw[bp af,cond_pos (by rw[bH];omega),uP (by simpa using q),bh (by simpa using q),bS w,aR,acS q,c468 af,ak];rw[aR] at U;exact U
  cases e:fa (l.getD n []) B[i] with
  |some a=>
   obtain⟨h1,h2⟩:=I.go hB w e;obtain⟨f,H,K⟩:=V (i+1) a.To.toNat l af h2;refine⟨f,pre f ?_,K⟩;rw[e];simp only[];rw[cond_neg (by rw[bP];omega)]
   have:((a.To.toNat:Nat):Int)=a.To:=af
   rw[this] at H;exact H
  |none=>
   have I2:=I.new hB w e;obtain⟨f,H,K⟩:=V (i+1) l.length _ af I2;refine⟨f,pre f ?_,K⟩;rw[e];simp only[];rw[cond_pos (by rfl),uP (by simpa using q),aR,E5 q,bS w,bU _ af ah af,bh ⟨af,by simpa using q⟩,bh (by simpa using q),List.set_set];rw[sG,bU _ aF ah af,sG,j5];have Q:(l.map some).set n (some (l.getD n []++[(⟨B[i],(l.length:Nat)⟩:bY)]))++[some []]=(l.set n (l.getD n []++[(⟨B[i],(l.length:Nat)⟩:bY)])++[[]]).map some:=by rw[bM,jm];rfl
   rw[Q,<-mY];have S:(l.set n (l.getD n []++[(⟨B[i],(l.length:Nat)⟩:bY)])++[[]]).length=l.length+1:=ah;rw[S] at H;exact H
include hA hB X2 hnp hAl YX hF in
theorem c439:∃f,f439 A B=some f/\YV F A B f:=by
 have K:0<B.length:=List.length_pos_iff.2 X2;obtain⟨f,D,H⟩:=h439_10 hA hB hAl YX hF X2 hnp (o4:=⟨[]⟩) (B.length-1) 0 0 (EC A) af (SI.init hA);refine⟨f,e439 ?_,H⟩;rw[bU _ ah ah af];unfold tH;have q:(EC A).length=A.length+1:=by simp[EC]
 rw[q] at D;have key:∀(k i:Nat),A.length=i+k->Bh A B (i:Int) ⟨[]⟩ (replicate (i+1) ⟨0,[]⟩) ((((EC A).take i)++[[]]).map some)=some f:=by intro k;induction k with
  |zero=>
   intro i L;have e:i=A.length:=af;subst e;refine Wm ?_;rw[cond_neg (by rw[bP];omega)]
   have:(EC A).take A.length++[[]]=EC A:=by
    have I:(EC A).drop A.length=[[]]:=by apply kq;intro j;rw[vr];cases j with
     |zero=>simp[EC]
     |succ j=>rw[fB (by rw[q];omega)];simp
    rw[<-I,jq]
   rw[this];exact D
  |succ k N=>
   intro i L;have l:i<A.length:=af;refine Wm ?_;rw[cond_pos (by rw[bH];omega),bS l,uP ah,bh (by simp[q];omega),aR];rw[sG,bU _ aF ah af,bp af,<-mY];have:=N (i+1) af;have G:((((EC A).take i)++[[]]).map some).set i (some [⟨A[i],((i+1:Nat):Int)⟩])++[some []]=(((EC A).take (i+1))++[[]]).map some:=by
    have z:((EC A).take i).length=i:=by rw[fI,q];omega
    have w:(EC A)[i]? =some [⟨A[i],((i+1:Nat):Int)⟩]:=by have:=yl l;rw[aZ,aM (by omega:i<(EC A).length)] at this;rw[aM (by omega:i<(EC A).length)];exact aK some this
    rw[bM,mO _ _ aF,cr,w]
    have:i-(((EC A).take i).map some).length=0:=by rw[aV,z];omega
    rw[this];simp
   rw[G,sG];exact this
 have:=key A.length 0 af;simpa using this
end
end Go.Proofs.YthppjmoncapdfaaGreatDoor.cl.pf
namespace Go.Proofs.YthppjmoncapdfaaGreatDoor.cl.pf
open Go Go.AM
def nmA (l:List bY):List Int:=l.flatMap λa=>[a.aT,a.To]
def nmN (x:Node):List Int:=[x.cQ,(x.bD.length:Int)]++nmA x.bD
def nmF (f:FSt):List Int:=(f.aj.length:Int)::f.aj.flatMap nmN
def WH (l:List bY):(nmA l).length=2 *l.length:=by induction l with
 |nil=>rfl
 |cons a l q=>simp only[nmA,oL,cS,bg,er] at q⊢;omega
def WG:∀{l m:List bY} {x y:List Int},l.length=m.length->nmA l++x=nmA m++y->l=m/\x=y
 |[],[],x,y,_,h=>⟨rfl,by simpa[nmA] using h⟩
 |a::l,b::m,x,y,q,h=>by simp only[nmA,oL,eU,dh,dN] at h;obtain⟨D,G,z⟩:=h;obtain⟨e1,w⟩:=WG (l:=l) (m:=m) (by simpa using q) z;exact⟨by rw[e1];congr 1;cases a;cases b;simp_all,w⟩
 |[],b::m,_,_,q,_=>by simp at q
 |a::l,[],_,_,q,_=>by simp at q
def nmN_inj {a b:Node} {x y:List Int} (h:nmN a++x=nmN b++y):a=b/\x=y:=by simp only[nmN,eU,dh,dN] at h;obtain⟨w,z,q⟩:=h;obtain⟨e1,l⟩:=WG af q;exact⟨by cases a;cases b;simp_all,l⟩
def WI:∀{l m:List Node} {x y:List Int},l.length=m.length->l.flatMap nmN++x=m.flatMap nmN++y->l=m/\x=y
 |[],[],x,y,_,h=>⟨rfl,by simpa using h⟩
 |a::l,b::m,x,y,q,h=>by rw[oL,oL,eT,eT] at h;obtain⟨e1,D⟩:=nmN_inj h;obtain⟨w,z⟩:=WI (by simpa using q) D;exact⟨by rw[e1,w],z⟩
 |[],b::m,_,_,q,_=>by simp at q
 |a::l,[],_,_,q,_=>by simp at q
def nmF_inj {a b:FSt} {x y:List Int} (h:nmF a++x=nmF b++y):a=b:=by simp only[nmF,eU,dN] at h;obtain⟨q,l⟩:=h;have:=(WI af l).1;cases a;cases b;simp_all
structure Sm (f:FSt):Prop where
 n:f.aj.length<=5000
 a:∀x∈f.aj,x.bD.length<=1000
def h432_8 {f:FSt} {i:Nat} {res:List Int} {l:List bY} (G:l.length<=1000):∀(xs:List bY) (k:Nat) (o:List Int),l.drop k=xs->o.length+2 *xs.length<=100000000->
  J9 (wrap .i64 ((i:Int)+1)) f (o++nmA xs)=some res->O0 (i:Int) l (k:Int) f o=some res:=by
 intro xs;induction xs with
 |nil=>intro k o q _ w;refine abX ?_;rw[bq q,aA];simpa[nmA] using w
 |cons x xs D=>intro k o q z w;refine abX ?_;rw[bf q,ai,aQ q,aQ q,bU _ (by simp at z;omega) ah af,aX q af];refine D (k+1) _ (aH q) (by simp at z⊢;omega) ?_;simpa[nmA] using w
def h432_3 {f:FSt} (w:Sm f):∀(xs:List Node) (i:Nat) (o:List Int),f.aj.drop i=xs->o.length+2002 *xs.length<=100000000->J9 (i:Int) f o=some (o++xs.flatMap nmN):=by intro xs;induction xs with
 |nil=>intro i o l _;refine abW ?_;rw[bq l,aA];simp
 |cons x xs D=>intro i o l q;have z:=w.a x (aI (bA l));have G:=w.n;refine abW ?_;rw[bf l,ai,aQ l,aQ l,bU _ (by simp at q;omega) ah af];refine h432_8 z x.bD 0 _ rfl (by simp at q⊢;omega) ?_;rw[aX l af,D (i+1) _ (aH l) (by simp[WH] at q⊢;omega)];simp[nmN]
def c432 {f:FSt} (l:Sm f):f432 f=some (nmF f):=by refine e432 ?_;exact h432_3 l f.aj 0 [(f.aj.length:Int)] rfl (by have:=l.n;simp;omega)
def WJ:∀{l:List Node},(∀x∈l,x.bD.length<=1000)->(l.flatMap nmN).length<=2002 *l.length
 |[],_=>by simp
 |x::l,h=>by
  have w:=h x ah;have z:=WJ (l:=l) λy q=>h y (by simp[q])
  rw[oL,cS,bg];simp only[nmN,cS,bg,er,WH];omega
def nmF_len {f:FSt} (l:Sm f):(nmF f).length<=1000000000:=by have:=WJ l.a;have:=l.n;simp only[nmF,bg];omega
def h418 {l m:List Int} (L:l.length<=1000000000):∀(xs z:List Int) (i:Nat),l.drop i=xs->m.drop i=z->∃r,OR l m (i:Int)=some r/\(r=0↔∃x y,xs++x=z++y):=by intro xs;induction xs with
 |nil=>intro z i q w;refine⟨0,IL ?_,⟨λ_=>⟨z,[],ah⟩,λ_=>rfl⟩⟩;rw[bq q,aA]
 |cons a xs K=>intro z i q w;cases z with
  |nil=>refine⟨0,IL ?_,⟨λ_=>⟨[],a::xs,ah⟩,λ_=>rfl⟩⟩;rw[bf q,ai,bq w,aA]
  |cons b z=>
   by_cases D:a<b
   .refine⟨-1,IL ?_,⟨λe=>by omega,λ⟨x,y,e⟩=>by simp at e;omega⟩⟩;rw[bf q,ai,bf w,ai,aQ q,aQ w,cond_pos (by rw[bH];exact D)]
   by_cases G:a>b
   .refine⟨1,IL ?_,⟨λe=>by omega,λ⟨x,y,e⟩=>by simp at e;omega⟩⟩;rw[bf q,ai,bf w,ai,aQ q,aQ w,cond_neg (by rw[bP];exact D),aQ q,aQ w,cond_pos (by rw[bH];exact G)]
   have e:a=b:=af;obtain⟨r,H,I⟩:=K z (i+1) (aH q) (aH w);refine⟨r,IL ?_,I.trans ?_⟩
   .rw[bf q,ai,bf w,ai,aQ q,aQ w,cond_neg (by rw[bP];exact D),aQ q,aQ w,cond_neg (by rw[bP];exact G),aX q af];exact H
   .subst e;simp
def c407 {a b:FSt} (l:Sm a) (z:Sm b):∃r,f407 a b=some r/\(r=true↔a=b):=by obtain⟨r,q,w⟩:=h418 (l:=nmF a) (m:=nmF b) (nmF_len l) _ _ 0 rfl rfl;have D:f418 a b=some r:=e418 (by rw[c432 l,ak,c432 z,ak];exact q);refine⟨r==0,e407 (by rw[D,ak]),?_⟩;rw[gj,w];exact⟨λ⟨x,y,e⟩=>nmF_inj e,λe=>⟨[],[],by rw[e]⟩⟩
def Dk {a:FSt} (l:Sm a):f407 a a=some true:=by obtain⟨r,q,w⟩:=c407 l l;rw[q,w.2 rfl]
def srG_grF {f:FSt} (h:∀x∈f.aj,zg x.bD):CF f=mJ f:=by
 unfold CF mJ;congr 1;funext n;by_cases l:n<f.aj.length
 .rw[AB l,qu l,srt_id (h _ (br l))];rfl
 .rw[N0 af];unfold Cv;rw[fB af]
def InB (T F:Nat) (x:Node):Prop:=x.cQ<(T:Int)/\∀a∈x.bD,a.aT<(F:Int)
def srG_go {T F:Nat} {f:FSt} (w:zw f) (G:∀x∈f.aj,x.bD.length<=1000) (D:∀x∈f.aj,InB T F x):GO T F (CF f) f.aj.length:=by
 refine⟨N3 (w.SU λx H=>by have:=G x H;omega),λn l=> ?_,λn l p z=> ?_,λn l=> ?_⟩
 .show zl (Cv f n);rw[AB l];have:=N4 (w.2.2 _ (br l)).2.2;unfold zl;rw[gU];exact this
 .have z:p∈Cv f n:=z;rw[AB l] at z;obtain⟨a,q,rfl⟩:=aD.1 z;have q:=(qh _).2.2 a|>.1 q
  exact⟨((w.2.2 _ (br l)).2.1 a q).1,(D _ (br l)).2 a q⟩
 .show 0<=ny f n/\_;have e:(CF f).ty n=f.aj[n].cQ:=ox l;rw[e,ox l];exact⟨(w.2.2 _ (br l)).1,(D _ (br l)).1⟩
def Can.jw {T F:Nat} {f:FSt} (h:Can T F f):∀x∈f.aj,InB T F x:=λx l=>⟨(h.Pw l).2,λa q=>((h.ao l).ok a q).1.2⟩
def Can.good {T F:Nat} {f:FSt} (h:Can T F f) (w:f.aj.length<=4096):zw f:=
 ⟨h.ne,w,λx l=>⟨(h.Pw l).1,λa q=>⟨((h.ao l).ok a q).1.1,((h.ao l).ok a q).2⟩,(h.ao l).yh.nd⟩⟩
def Can.sr {T F:Nat} {f:FSt} (h:Can T F f):lM (CF f) f.aj.length 0=f:=by rw[srG_grF λx l=>(h.ao l).yh];exact h.eq.symm
def Can.sm {T F:Nat} {f:FSt} (h:Can T F f) (l:f.aj.length<=5000) (hF:F<=1000):Sm f:=⟨l,λx q=>by have:=(h.ao q).len;omega⟩
def can_sr {T F:Nat} {f:FSt} (l:zw f) (w:∀x∈f.aj,x.bD.length<=1000) (q:∀x∈f.aj,InB T F x):f=lM (CF f) f.aj.length 0↔Can T F f:=
 ⟨λe=>by
  have:=Tg (srG_go l w q) l.1
  rw[<-e] at this;exact this,λh=>h.sr.symm⟩
def sm_can {f:FSt} (q:zw f) (D:∀x∈f.aj,x.bD.length<=1000):Sm (lM (CF f) f.aj.length 0):=by have hB:=N3 (q.SU λx z=>by have:=D x z;omega);have w:=uw (G:=CF f) hB q.1;have H:=vN w.nd w.lt;refine⟨by rw[H7];have:=q.2.1;omega,λx z=> ?_⟩;obtain⟨n,G,rfl⟩:=aD.1 z;have l:=w.lt n G;have e:(CF f).sc n=_:=AB l;simp only[aV,e,(qh _).2.1];exact D _ (br l)
def h410_11 {h:bR} {f g:FSt} {x:Node} {i:Nat} {P:Prop} (L:x.bD.length<=1000) (I:∃e,J4 (wrap .i64 ((i:Int)+1)) h f g=some e/\(e=0↔P)):∀(xs:List bY) (k:Nat),x.bD.drop k=xs->
  ∃e,Ho (i:Int) (k:Int) h f g x=some e/\(e=0↔(∀a∈xs,a.aT<(h.cE.length:Int))/\P):=by
 intro xs;induction xs with
 |nil=>intro k l;obtain⟨e,z,D⟩:=I;refine⟨e,M4 ?_,D.trans ⟨λq=>⟨λa H=>by(cases H),q⟩,λq=>q.2⟩⟩;rw[bq l,aA];exact z
 |cons a xs K=>
  intro k l;by_cases G:a.aT>=(h.cE.length:Int)
  .refine⟨2,M4 ?_,⟨λe=>by omega,λq=>by have:=q.1 a (by simp);omega⟩⟩;rw[bf l,ai,aQ l,cond_pos (by rw[bH];exact G)]
  .obtain⟨e,z,D⟩:=K (k+1) (aH l);refine⟨e,M4 ?_,D.trans ⟨λq=>⟨λb w=> ?_,q.2⟩,λq=>⟨λb w=>q.1 b (by simp[w]),q.2⟩⟩⟩
   .rw[bf l,ai,aQ l,cond_neg (by rw[bP];exact G),aX l af];exact z
   .rcases aG.1 w with rfl|w
    .omega
    .exact q.1 b w
def h410_5 {h:bR} {f g:FSt} (G:Sm f) (K:Sm g):∀(xs:List Node) (i:Nat),f.aj.drop i=xs->
  ∃e,J4 (i:Int) h f g=some e/\(e=0↔(∀x∈xs,InB h.Types.length h.cE.length x)/\f=g):=by
 intro xs;induction xs with
 |nil=>intro i l;obtain⟨r,z,D⟩:=c407 G K;cases r with
  |true=>refine⟨0,M5 ?_,⟨λ_=>⟨λx H=>by(cases H),D.1 rfl⟩,λ_=>rfl⟩⟩;rw[bq l,aA,z,ak];rfl
  |false=>refine⟨3,M5 ?_,⟨λe=>by omega,λq=>absurd (D.2 q.2) ah⟩⟩;rw[bq l,aA,z,ak];rfl
 |cons x xs L=>
  intro i l;have H:=G.a x (aI (bA l));have N:=G.n;by_cases I:x.cQ>=(h.Types.length:Int)
  .refine⟨2,M5 ?_,⟨λe=>by omega,λq=>by have:=(q.1 x ah).1;omega⟩⟩;rw[bf l,ai,aQ l,cond_pos (by rw[bH];exact I)]
  .obtain⟨e,z,D⟩:=h410_11 (i:=i) H (by rw[aX l af];exact L (i+1) (aH l)) x.bD 0 rfl;refine⟨e,M5 ?_,D.trans ⟨λq=>⟨λy w=> ?_,q.2.2⟩,λq=>⟨(q.1 x ah).2,λy w=>q.1 y (by simp[w]),q.2⟩⟩⟩
   .rw[bf l,ai,aQ l,cond_neg (by rw[bP];exact I)];exact z
   .rcases aG.1 w with rfl|w
    .exact⟨af,q.1⟩
    .exact q.2.1 y w
def c410 {h:bR} {f:FSt} (w:∀x∈f.aj,x.bD.length<=1000):∃e,f410 h f=some e/\(e=0↔Can h.Types.length h.cE.length f/\f.aj.length<=4096):=by
 rcases c421 (f:=f) (λx H=>by have:=w x H;omega) with⟨l,z⟩|⟨l,e,D,z⟩
 .have G:=l.2.1;obtain⟨e,I,K⟩:=h410_5 (h:=h) ⟨af,w⟩ (sm_can l w) f.aj 0 rfl;refine⟨e,e410 ?_,K.trans ⟨λq=>⟨(can_sr l w q.1).1 q.2,G⟩,λq=>⟨q.1.jw,q.1.sr.symm⟩⟩⟩;rw[z,ak,cond_neg (by rfl)];exact I
 .refine⟨e,e410 ?_,⟨λq=>absurd q D,λq=>absurd (q.1.good q.2) l⟩⟩;rw[z,ak,cond_pos (by rw[j0];exact D)]
structure PC (f:FSt):Prop where
 n:f.aj.length<=12
 a:∀x∈f.aj,x.bD.length<=12
def c413 (f:FSt):∃r,f413 f=some r/\(r=true->PC f):=by
 by_cases H:f.aj.length>12
 .refine⟨false,e413 ?_,λe=>by cases e⟩;rw[cond_pos (by rw[bH];omega)]
 have key:∀(xs:List Node) (i:Nat),f.aj.drop i=xs->∃r,OO (i:Int) f=some r/\(r=true->∀x∈xs,x.bD.length<=12):=by intro xs;induction xs with
  |nil=>intro i l;refine⟨true,T7 ?_,λ_ x D=>by cases D⟩;rw[bq l,aA]
  |cons x xs G=>
   intro i l;by_cases I:x.bD.length>12
   .refine⟨false,T7 ?_,λe=>by cases e⟩;rw[bf l,ai,aQ l,cond_pos (by rw[bH];omega)]
   .obtain⟨r,q,w⟩:=G (i+1) (aH l);refine⟨r,T7 ?_,λe y z=> ?_⟩
    .rw[bf l,ai,aQ l,cond_neg (by rw[bP];omega),aX l af];exact q
    .rcases aG.1 z with rfl|z
     .omega
     .exact w e y z
 obtain⟨r,q,w⟩:=key f.aj 0 rfl;refine⟨r,e413 ?_,λe=>⟨af,w e⟩⟩;rw[cond_neg (by rw[bP];omega)];exact q
def PC.sm {f:FSt} (h:PC f):Sm f:=⟨by have:=h.n;omega,λx l=>by have:=h.a x l;omega⟩
structure SL (T F:Nat) (f:FSt):Prop where
 lt:PC f
 can:Can T F f
def c408 (h:bR) (f:FSt):∃r,f408 h f=some r/\(r=true->SL h.Types.length h.cE.length f):=by obtain⟨r,l,w⟩:=c413 f;cases r with
 |false=>exact⟨false,e408 (by rw[l,ak];rfl),λe=>by cases e⟩
 |true=>
  have q:=w rfl;obtain⟨e,G,H⟩:=c410 (h:=h) (f:=f) λx D=>by have:=q.a x D;omega
  refine⟨e==0,e408 (by rw[l,ak,ai,G,ak]),λz=>⟨q,(H.1 (by simpa using z)).1⟩⟩
