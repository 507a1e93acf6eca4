/- Canon; the same value at two paths (the reference's sharing). -/
import Derived.Test.YthppjmoncapdfaaGreatDoorClXn
set_option linter.all false
open Go.IntKind (wrap)
open Int (toNat)
open List (length replicate)
namespace Go.Proofs.YthppjmoncapdfaaGreatDoor.cl.pf
open Go Go.AM
def Po (l:List bX) (n:Int):Prop:=(∀a∈l,0<=a.aS/\0<=a.To/\a.To<n)/\(l.map (·.aS)).Nodup
def c454 {l:List bX} {n:Int} (hl:l.length<=1000000):∃e,f454 l n=some e/\(e=0↔Po l n):=by
 have key:∀(k i:Nat),l.length=i+k->((∀a∈l.take i,0<=a.aS/\0<=a.To/\a.To<n)/\((l.take i).map (·.aS)).Nodup)->∃e,J6 l n (i:Int)=some e/\(e=0↔Po l n):=by intro k;induction k with
  |zero=>intro i V K;have e:i=l.length:=af;subst e;rw[fJ] at K;refine⟨0,IE ?_,⟨λ_=>K,λ_=>rfl⟩⟩;simp
  |succ k ih=>
   intro i V K;have q:i<l.length:=af;have O:=bq q;by_cases R:l[i].aS<0
   .refine⟨2,IE ?_,⟨λe=>by omega,λh=>by have:=h.1 _ O;omega⟩⟩;rw[cond_pos (by rw[bF];omega),bR q,cond_pos (by rw[bF];exact R)]
   by_cases U:l[i].To<0
   .refine⟨2,IE ?_,⟨λe=>by omega,λh=>by have:=h.1 _ O;omega⟩⟩;rw[cond_pos (by rw[bF];omega),bR q,cond_neg (by rw[bM];exact R),bR q,cond_pos (by rw[bF];exact U)]
   by_cases h3:l[i].To>=n
   .refine⟨2,IE ?_,⟨λe=>by omega,λh=>by have:=h.1 _ O;omega⟩⟩;rw[cond_pos (by rw[bF];omega),bR q,cond_neg (by simp_all),bR q,cond_neg (by simp_all),bR q,cond_pos (by simp_all)]
   have step:∀r,J7 l n (i:Int) 0=some r->J6 l n (i:Int)=some r:=λr hr=>by refine IE ?_;rw[cond_pos (by grind),bR q,cond_neg (by simp_all),bR q,cond_neg (by simp_all),bR q,cond_neg (by simp_all)];omega
   have inner:∀(d w:Nat),i=w+d->(∀j,(L:j<l.length)->j<w->l[j].aS≠l[i].aS)->∃e,J7 l n (i:Int) (w:Int)=some e/\(e=0↔Po l n):=by intro d;induction d with
    |zero=>
     intro w N P;have e:w=i:=af;subst e
     obtain⟨e,H,D⟩:=ih (w+1) af (by
      rw[cg,aK q];refine⟨λa I=> ?_,?_⟩
      .grind
      .rw[bJ,gV];refine⟨K.2,by simp,λx hx y S=> ?_⟩;simp at S;subst S;obtain⟨a,I,rfl⟩:=aC.1 hx;obtain⟨j,L⟩:=gC.1 I
       grind)
     refine⟨e,TZ ?_,D⟩;rw[cond_neg ah,bl af];omega
    |succ d Q=>
     intro w N P;have z:w<l.length:=af;by_cases e:l[w].aS=l[i].aS
     .refine⟨4,TZ ?_,⟨λe=>by omega,λh=> ?_⟩⟩
      .rw[cond_pos (by grind),bR z,bR q,cond_pos (by simp_all)]
      .have:=h.2;unfold List.Nodup at this;rw[gT] at this;grind[List.pairwise_iff_getElem]
     .obtain⟨r,H,D⟩:=Q (w+1) af (λj L G=>by
       grind)
      refine⟨r,TZ ?_,D⟩;rw[cond_pos (by grind),bR z,bR q,cond_neg (by simp_all),bl af];omega
   obtain⟨e,H,D⟩:=inner i 0 af (λj L G=>absurd G af);simp_all
 obtain⟨e,H,D⟩:=key l.length 0 af ⟨λa I=>by(cases I),ah⟩;exact⟨e,e454 H,D⟩
def ze (f:FSt):Prop:=0<f.aj.length/\f.aj.length<=4096/\∀x∈f.aj,0<=x.cO/\Po x.bC f.aj.length
def c435 {f:FSt} (K:∀x∈f.aj,x.bC.length<=1000000):∃e,f435 f=some e/\(e=0↔ze f):=by
 by_cases O:f.aj.length=0
 .refine⟨1,e435 ?_,⟨λe=>by omega,λh=>by have:=h.1;omega⟩⟩;simp_all
 by_cases P:f.aj.length>4096
 .refine⟨7,e435 ?_,⟨λe=>by omega,λh=>by have:=h.2.1;omega⟩⟩;grind
 have key:∀(k i),f.aj.length=i+k->(∀x∈f.aj.take i,0<=x.cO/\Po x.bC f.aj.length)->∃e,OS (i) f=some e/\(e=0↔ze f):=by intro k;induction k with
  |zero=>intro i I D;have e:i=f.aj.length:=af;subst e;rw[fJ] at D;refine⟨0,M1 ?_,⟨λ_=>⟨af,by omega,D⟩,λ_=>rfl⟩⟩;simp
  |succ k L=>
   intro i I D;have l:i<f.aj.length:=af;have z:=bq l;by_cases Q:f.aj[i].cO<0
   .refine⟨2,M1 ?_,⟨λe=>by omega,λh=>by have:=(h.2.2 _ z).1;omega⟩⟩;rw[cond_pos (by grind),bR l,cond_pos (by simp_all)]
   .obtain⟨e,q,w⟩:=c454 (n:=(f.aj.length)) (K _ z);by_cases H:e=0
    .obtain⟨r,R,N⟩:=L (i+1) af (λx G=>by
      rw[cg] at G
      grind)
     refine⟨r,M1 ?_,N⟩;rw[cond_pos (by grind),bR l,cond_neg (by simp_all),bR l,q,ak,cond_neg (by simp_all),bl af];omega
    .refine⟨e,M1 ?_,⟨λh=>absurd h H,λh=>absurd (w.2 (h.2.2 _ z).2) H⟩⟩;rw[cond_pos (by grind),bR l,cond_neg (by simp_all),bR l,q,ak,cond_pos (by simp_all)]
 obtain⟨e,q,w⟩:=key f.aj.length 0 af (λx G=>by cases G);refine⟨e,e435 ?_,w⟩;grind
def ze.SH {f:FSt} (h:ze f) (w:∀x∈f.aj,x.bC.length<=1000000):LW f:=λx l=>⟨w x l,λa q=>by have:=(h.2.2 x l).2.1 a q;omega⟩
def c421 {f:FSt} (q:∀x∈f.aj,x.bC.length<=1000000):(ze f/\f421 f=some (lK (CA f) f.aj.length 0,0))\/(¬ze f/\∃e,e≠0/\f421 f=some (⟨[]⟩,e)):=by
 obtain⟨e,z,D⟩:=c435 q;by_cases G:e=0
 .have l:=D.1 G;refine .inl ⟨l,e421 ?_⟩;have w:(0:Int)=((0:Nat)):=rfl;rw[z,ak,cond_neg (by grind),w,c436 (l.SH q) (by have:=l.2.1;omega) l.1,ak]
 simp_all[e421,cond_pos]
def c468 {l:List bX} {f:Int} (z:l.length<=1000000):f468 l f=some (match fa l f with|some a=>a.To|none=> -1):=by
 have key:∀(xs) (i),l.drop i=xs->O3 l f (i)=some (match fa xs f with|some a=>a.To|none=> -1):=by intro xs;induction xs with
  |nil=>intro i q;refine abV ?_;rw[bp q];rfl
  |cons x xs w=>intro i q;refine abV ?_;rw[aZ q,aQ q,aQ q,aY q af,w _ (aG q)];unfold fa;grind
 exact e468 (key l 0 rfl)
def acw {R:Type} {l:List (List bX)} {i:Nat} (h:i<l.length) (k:List bX->Option R):nrT (l.map some) i k=k (l.getD i []):=by simp_all[nrT]
def Xf (l:List (List bX)):Nat->List Int->Nat->Prop
 |x,[],y=>x=y
 |x,f::q,y=>∃z:Nat,(⟨f,(z:Int)⟩:bX)∈l.getD x []/\Xf l z q y
def Xf.snoc {q:List (List bX)} {f:Int} {z:Nat}:∀{D:List Int} {x y:Nat},Xf q x D y->(⟨f,(z:Int)⟩:bX)∈q.getD y []->Xf q x (D++[f]) z
 |[],x,y,h,l=>by cases h;exact⟨z,l,rfl⟩
 |g::D,x,y,⟨w,G,h⟩,l=>⟨w,G,Xf.snoc h l⟩
def Xf.mono {z D:List (List bX)} (h:∀x,∀a∈z.getD x [],a∈D.getD x []):∀{q:List Int} {x y:Nat},Xf z x q y->Xf D x q y
 |[],_,_,l=>l
 |_::q,x,y,⟨w,G,l⟩=>⟨w,h x _ G,Xf.mono h l⟩
def Em (A:List Int):List (List bX):=(List.range (A.length+1)).map λj=>match A[j]? with
 |some f=>[⟨f,(j+1:Nat)⟩]
 |none=>[]
def yb {A:List Int} {j:Nat} (h:j<A.length):(Em A).getD j []=[⟨A[j],(j+1:Nat)⟩]:=by grind[Em]
def GF {A:List Int} {j:Nat} (h:A.length<=j):(Em A).getD j []=[]:=by unfold Em;grind
def Mg {A:List Int}:∀i,i<=A.length->Xf (Em A) 0 (A.take i) i
 |0,_=>rfl
 |i+1,h=>by rw[cg,aK af];exact(Mg i af).snoc (by rw[yb af];simp)
section
variable {F:Nat} {A B:List Int} (hA:∀f∈A,0<=f/\f<(F:Int)) (hB:∀f∈B,0<=f/\f<(F:Int)) (hAl:A.length<=1000) (YH:B.length<=1000) (hF:F<=1000) (XQ:B≠[]) (hnp:¬B<+:A)
structure SI (F:Nat) (A B:List Int) (n i:Nat) (ys:List (List bX)):Prop where
 len:A.length+1<=ys.length
 le:ys.length<=A.length+1+i
 aw:∀x,x<ys.length->AW F ys.length (ys.getD x [])
 pa:Xf ys 0 A A.length
 pb:Xf ys 0 (B.take i) n
 nlt:n<ys.length
 dH:∀(C:FSt) (T' k:Nat),Can T' F C->zz C A=some k->zz C B=some k->∃m:Nat->Nat,m 0=0/\m A.length=k/\m n=Pg (mI C) B i/\∀x,x<ys.length->∀a∈ys.getD x [],(a.aS,m a.To.toNat)∈iW C (m x)
 ph:ys.getD n []=[]\/(n=i/\i<=A.length/\B.take i=A.take i/\ys=Em A)
theorem add_get {l:List (List bX)} {n x:Nat} {a:bX} (q:n<l.length):(l.set n (l.getD n []++[a])).getD x []=if n=x then l.getD n []++[a] else l.getD x []:=by grind
theorem Y5 {l:List (List bX)} {n:Nat} {a:bX} (w:n<l.length) (x:Nat):∀b∈l.getD x [],b∈(l.set n (l.getD n []++[a])).getD x []:=λb q=>by grind
theorem AW.snoc {F n:Nat} {l:List bX} (h:AW F n l) {a:bX} (G:(0<=a.aS/\a.aS<(F:Int))/\0<=a.To/\a.To<(n:Int)) (w:fa l a.aS=none):AW F n (l++[a]):=by
 refine⟨?_,λb q=> ?_⟩
 .rw[bJ,gV];refine⟨h.nd,by simp,λx D y z=> ?_⟩;simp at z;subst z;obtain⟨b,q,rfl⟩:=aC.1 D;exact Mr w b q
 .rcases bu.1 q with q|q
  .exact h.ok b q
  simp_all
theorem AW.more {F n w:Nat} {l:List bX} (h:AW F n l) (z:n<=w):AW F w l:=⟨h.nd,λb q=>⟨(h.ok b q).1,(h.ok b q).2.1,by have:=(h.ok b q).2.2;omega⟩⟩
include hA in
theorem SI.init:SI F A B 0 0 (Em A):=by
 have z:(Em A).length=A.length+1:=by simp[Em]
 refine⟨af,by omega,λx q=> ?_,?_,rfl,by omega,λC G k D w H=>⟨Pg (mI C) A,rfl,CF w,rfl,λx q a l=> ?_⟩, .inr ⟨rfl,by omega,rfl,rfl⟩⟩
 .rw[z] at q⊢;by_cases h:x<A.length
  .rw[yb h];exact⟨ah,λa l=>by simp at l;subst l;exact⟨hA _ (bq h),by show 0<=((x+1:Nat):Int);omega,by show((x+1:Nat):Int)<((A.length+1:Nat):Int);omega⟩⟩
  .rw[GF af];exact⟨ah,λa l=>by cases l⟩
 .have:=Mg (A:=A) A.length (aT _);rwa[fJ] at this
 .rw[z] at q;by_cases h:x<A.length
  .rw[yb h] at l;simp at l;subst l;exact uD D.Kt w h
  .rw[GF af] at l;cases l
include hB in
theorem SI.go {n i:Nat} {H:List (List bX)} (I:SI F A B n i H) (K:i<B.length) {a:bX} (Q:fa (H.getD n []) B[i]=some a):0<=a.To/\SI F A B a.To.toNat (i+1) H:=by
 obtain⟨q,z⟩:=AL Q;rcases I.ph with h|⟨rfl,R,G,rfl⟩
 .rw[h] at q;cases q
 .have w:n<A.length:=by
   by_cases h:n<A.length
   .exact h
   .rw[GF af] at q;cases q
  rw[yb w] at q;simp at q;subst q;have z:A[n]=B[n]:=z;have hl:(Em A).length=A.length+1:=by simp[Em]
  have l:B.take (n+1)=A.take (n+1):=by rw[cg,cg,G,aK K,aK w,z]
  refine⟨by show 0<=((n+1:Nat):Int);omega,?_⟩;show SI F A B ((n+1:Nat):Int).toNat (n+1) (Em A);rw[aP];refine⟨I.len,by have:=I.le;omega,I.aw,I.pa,?_,by omega,λC O k D S L=> ?_, .inr ⟨rfl,by omega,l,rfl⟩⟩
  .rw[l];exact Mg (n+1) af
  .obtain⟨m,U,V,m2,N⟩:=I.dH C O k D S L;refine⟨m,U,V,?_,N⟩;have e1:=N n I.nlt ⟨A[n],(n+1:Nat)⟩ (by rw[yb w];simp);have P:=uD D.Kt L K;simp only at e1;rw[m2,z,aP] at e1;exact(D.x8 _).Kt e1 P
include hB in
theorem SI.new {n i:Nat} {l:List (List bX)} (I:SI F A B n i l) (N:i<B.length) (L:fa (l.getD n []) B[i]=none):SI F A B l.length (i+1) (l.set n (l.getD n []++[(⟨B[i],(l.length:Nat)⟩:bX)])++[[]]):=by
 have R:(l.set n (l.getD n []++[(⟨B[i],(l.length:Nat)⟩:bX)])++[[]]).length=l.length+1:=ah;have K:∀x,x<l.length->(l.set n (l.getD n []++[(⟨B[i],(l.length:Nat)⟩:bX)])++[[]]).getD x []=if n=x then l.getD n []++[(⟨B[i],(l.length:Nat)⟩:bX)] else l.getD x []:=λx H=>by rw[BX (by simpa using H),add_get I.nlt]
 have G:(l.set n (l.getD n []++[(⟨B[i],(l.length:Nat)⟩:bX)])++[[]]).getD l.length []=[]:=by rw[BY ah];simp
 have z:∀x,∀b∈l.getD x [],b∈(l.set n (l.getD n []++[(⟨B[i],(l.length:Nat)⟩:bX)])++[[]]).getD x []:=λx b D=>by
  by_cases H:x<l.length
  .rw[K x H];by_cases e:n=x
   .subst e;rw[au rfl];exact dU _ D
   .rw[aq e];exact D
  .rw[aX,fA af] at D;cases D
 have O:=I.nlt;have V:=I.len;have Q:=I.le;refine⟨af,by omega,λx H=> ?_,I.pa.mono z,?_,by omega,λC U k P k1 S=> ?_, .inl G⟩
 .rw[R] at H⊢;by_cases w:x<l.length
  .rw[K x w];by_cases e:n=x
   .subst e;rw[au rfl];exact((I.aw n w).more af).snoc ⟨hB _ (bq N),by show 0<=((l.length:Nat):Int);omega,by show((l.length:Nat):Int)<((l.length+1:Nat):Int);omega⟩ L
   .rw[aq e];exact(I.aw x w).more af
  .have e:x=l.length:=af;subst e;rw[G];exact⟨ah,λa L=>by cases L⟩
 .rw[cg,aK N];exact(I.pb.mono z).snoc (by rw[K n O,au rfl];simp)
 .obtain⟨m,m0,m1,m2,m3⟩:=I.dH C U k P k1 S;refine⟨λx=>if x=l.length then Pg (mI C) B (i+1) else m x,?_,?_,by simp,λx H a q=> ?_⟩
  .show(if 0=l.length then _ else _)=0;rw[aq af];exact m0
  .show(if A.length=l.length then _ else _)=k;rw[aq af];exact m1
  .rw[R] at H;by_cases w:x<l.length
   .rw[K x w] at q;have old:∀b∈l.getD x [],(b.aS,if b.To.toNat=l.length then Pg (mI C) B (i+1) else m b.To.toNat)∈iW C (if x=l.length then Pg (mI C) B (i+1) else m x):=λb D=>by
     have:=((I.aw x w).ok b D).2;rw[aq af,aq af];exact m3 x w b D
    by_cases e:n=x
    .subst e;rw[au rfl] at q;rcases bu.1 q with q|q
     .exact old a q
     .simp at q;subst q;show(B[i],if((l.length:Nat):Int).toNat=l.length then _ else _)∈iW C (if n=l.length then _ else _);rw[aP,au rfl,aq af,m2];exact uD P.Kt S N
    .rw[aq e] at q;exact old a q
   .have e:x=l.length:=af;subst e;rw[G] at q;cases q
include hB XQ hnp in
theorem SI.last {n i:Nat} {D:List (List bX)} (I:SI F A B n i D) (K:i+1=B.length):fa (D.getD n []) (B[i]'(by omega))=none:=by
 rcases I.ph with h|⟨rfl,H,z,rfl⟩
 .rw[h];rfl
 .cases e:fa ((Em A).getD n []) (B[n]'(by omega)) with
  |none=>rfl
  |some a=>
   exfalso;obtain⟨l,w⟩:=AL e;have q:n<A.length:=by
    by_cases h:n<A.length
    .exact h
    .rw[GF af] at l;cases l
   rw[yb q] at l;simp at l;subst l;have w:A[n]=B[n]'(by omega):=w;apply hnp
   have:B=A.take (n+1):=by have G:B.take (n+1)=B:=gx af;rw[<-G,cg,cg,z,aK (by omega:n<B.length),aK q,w]
   rw[this];exact List.take_prefix _ _
include hA hB XQ hnp hAl YH hF in
theorem SI.fin {n i:Nat} {q:List (List bX)} (I:SI F A B n i q) (hi:i+1=B.length) {g:FSt} (hg:g=⟨List.zipWith Sb (replicate q.length ⟨0,[]⟩) (q.set n (q.getD n []++[⟨B[i]'(by omega),(A.length:Nat)⟩]))⟩):
  ∃f,f421 g=some (f,0)/\YG F A B f:=by
 have hno:=I.last hB XQ hnp hi;have hib:i<B.length:=af;generalize hzs:q.set n (q.getD n []++[⟨B[i]'(by omega),(A.length:Nat)⟩])=P at hg;have hzl:P.length=q.length:=by rw[<-hzs];simp
 have L:∀x,P.getD x []=if n=x then q.getD n []++[⟨B[i],(A.length:Nat)⟩] else q.getD x []:=λx=>by rw[<-hzs];exact add_get I.nlt
 have N:∀x,∀b∈q.getD x [],b∈P.getD x []:=λx=>by rw[<-hzs];exact Y5 I.nlt x
 have hIl:=I.len;have hIle:=I.le;have K:∀x,x<q.length->AW F q.length (P.getD x []):=λx l=>by
  rw[L];by_cases e:n=x
  .subst e;rw[au rfl];exact(I.aw n l).snoc ⟨hB _ (bq hib),by show 0<=((A.length:Nat):Int);omega,by show((A.length:Nat):Int)<((q.length:Nat):Int);omega⟩ hno
  .rw[aq e];exact I.aw x l
 have hgl:g.aj.length=q.length:=by rw[hg];simp[hzl]
 have hgg:∀x,x<q.length->g.aj[x]? =some ⟨0,P.getD x []⟩:=λx l=>by rw[hg];show(List.zipWith _ _ _)[x]? =_;rw[CX,jm,au l,aK (by omega:x<P.length),aX,aK (by omega:x<P.length)];rfl
 have S:∀y∈g.aj,∃x,x<q.length/\y=⟨0,P.getD x []⟩:=λy V=>by obtain⟨x,l⟩:=gC.1 V;have G:=(bD.1 l).1;rw[hgl] at G;rw[hgg x G] at l;exact⟨x,G,(c9 l).symm⟩
 have hfg:ze g:=by refine⟨af,by omega,λy V=> ?_⟩;obtain⟨x,l,rfl⟩:=S y V;refine⟨jo 0,λa D=> ?_,(K x l).nd⟩;have:=(K x l).ok a D;rw[hgl];exact⟨this.1.1,this.2.1,this.2.2⟩
 have hs:∀y∈g.aj,y.bC.length<=1000000:=λy V=>by obtain⟨x,l,rfl⟩:=S y V;have:=(K x l).len;show(P.getD x []).length<=_;omega
 rcases c421 hs with⟨_,e⟩|⟨hno,_⟩
 .have O:∀x,x<q.length->Cp g x=(Gc (P.getD x [])).map λa=>(a.aS,a.To.toNat):=λx l=>by unfold Cp;rw[hgg x l]
  have hty:∀x,x<q.length->nw g x=0:=λx l=>by unfold nw;rw[hgg x l]
  have z:GO 1 F (CA g) q.length:=by
   refine⟨λx l p H=> ?_,λx l=> ?_,λx l p H=> ?_,λx l=> ?_⟩
   .have H:p∈Cp g x:=H;rw[O x l] at H;obtain⟨a,D,rfl⟩:=aC.1 H;have:=((K x l).Gc.ok a D).2;show a.To.toNat<_;omega
   .show y7 (Cp g x);rw[O x l];unfold y7;rw[gT];exact(K x l).Gc.x8
   .have H:p∈Cp g x:=H;rw[O x l] at H;obtain⟨a,D,rfl⟩:=aC.1 H;exact((K x l).Gc.ok a D).1
   .show 0<=nw g x/\nw g x<_;rw[hty x l];omega
  have Q:0<q.length:=af;have U:∀{π:List Int} {x y:Nat},x<q.length->Xf P x π y->AG (CA g) x π=some y:=by intro π;induction π with
   |nil=>intro x y _ h;cases h;rfl
   |cons f π ih=>
    intro x y l h;obtain⟨w,hw,h⟩:=h;have hm:(f,w)∈(CA g).sc x:=by show _∈Cp g x;rw[O x l];exact aC.2 ⟨_,(qf _).2.2 _|>.2 hw,ah⟩
    have hwl:w<q.length:=z.bd x l _ hm;show(match za ((CA g).sc x) f with|some k=>AG (CA g) k π|none=>none)=_;rw[(sK (z.x8 x l)).2 hm];exact ih hwl h
  have hPA:=U Q (I.pa.mono N);have hPB:AG (CA g) 0 B=some A.length:=by
   have hb:B.take i++[B[i]]=B:=by have:=gx (by omega:B.length<=i+1);rw[cg,aK hib] at this;exact this
   have:=U Q ((I.pb.mono N).snoc (f:=B[i]) (z:=A.length) (by rw[L,au rfl];simp));rwa[hb] at this
  have hc:Can 1 F (lK (CA g) q.length 0):=S7 z Q;have hh:=VL (sb:=Ss) z Q to0.refl;have R:∀i,rR (CA g).sc 0 i->y7 ((CA g).sc i):=λi hi=>z.x8 i (hi.lt z.bd Q)
  have qA:=(MJ hh R hc.Kt A 0 _ .root hPA).2;have qB:=(MJ hh R hc.Kt B 0 _ .root hPB).2;have q0:(jM (CA g) q.length 0).idxOf 0=0:=hh.1;simp only[q0] at qA qB;refine⟨_,e,?_⟩;rw[hgl];refine⟨hc,⟨_,qA,qB⟩,λC T' sb hT hC hk=> ?_⟩;obtain⟨k,k1,k2⟩:=hk;obtain⟨m,m0,m1,m2,m3⟩:=I.dH C T' k hC k1 k2;refine le_zero hT hc hC ?_;have hl:(replicate C.aj.length (0:Int)).length=C.aj.length:=ah;have esc:(mI (y9 C (replicate C.aj.length 0))).sc=(mI C).sc:=yA hl;have ety:∀y,(mI (y9 C (replicate C.aj.length 0))).ty y=0:=λy=>by
   show nw _ y=0;by_cases V:y<C.aj.length
   .rw[Cn hl V,aX,jm,au V];rfl
   .unfold nw;rw[fA (by rw[vP hl];omega)]
  have hm:CC Ss (CA g) 0 (mI (y9 C (replicate C.aj.length 0))) 0 m:=by
   refine⟨m0,λx l=>⟨⟨hty x (l.lt z.bd Q),ety _⟩,λp H=> ?_⟩⟩;have G:=l.lt z.bd Q;have H:p∈Cp g x:=H;rw[O x G] at H;obtain⟨a,D,rfl⟩:=aC.1 H;have D:=(qf _).2.2 a|>.1 D
   rw[esc];rw[L] at D;by_cases e2:n=x
   .subst e2;rw[au rfl] at D;rcases bu.1 D with D|D
    .exact m3 n G a D
    .simp at D;subst D;show(B[i],m ((A.length:Nat):Int).toNat)∈iW C (m n);rw[aP,m1,m2];have:=uD hC.Kt k2 hib;have e3:Pg (mI C) B (i+1)=k:=by rw[hi];exact CF k2
     rw[e3] at this;exact this
   .rw[aq e2] at D;exact m3 x G a D
  exact⟨_,CC.comp (s1:=Ss) (s2:=Ss) (s3:=Ss) (λa b=>to0.trans a b) (Vo z Q to0.refl) hm⟩
 .exact absurd hfg hno
include hA hB XQ hnp hAl YH hF in
theorem h439_10 {o4:FSt}:∀(k i n:Nat) (l:List (List bX)),B.length=i+1+k->SI F A B n i l->∃f,rK A B (n:Int) (i:Int) o4 (replicate l.length ⟨0,[]⟩) (l.map some)=some f/\YG F A B f:=by intro k;induction k with
 |zero=>
  intro i n l hi I;have q:=I.nlt;have L:=I.le;have w:i<B.length:=af;have N:=(I.aw n q).len;obtain⟨f,H,K⟩:=I.fin hA hB hAl YH hF XQ hnp af rfl;refine⟨f,QO ?_,K⟩;have R:wrap .i64 ((B.length:Int)-1)=(i:Int):=by rw[ko af af];omega
  rw[bl af,cond_neg (by rw[bM];omega),uK (by simpa using q),aP,ER q,R,bR w,bT _ af ah af,bh ⟨af,by simpa using q⟩,bh (by simpa using q),List.set_set];rw[sB];have Q:(l.map some).set n (some (l.getD n []++[⟨B[i],(A.length:Nat)⟩]))=(l.set n (l.getD n []++[⟨B[i],(A.length:Nat)⟩])).map some:=by rw[jj]
  rw[Q];show Py Sb _ _ _=_;rw[AE ah,H,ak]
 |succ k V=>
  intro i n l hi I;have q:=I.nlt;have L:=I.le;have w:i<B.length:=af;have N:=(I.aw n q).len
  have pre:∀r,(bif(decide (((match fa (l.getD n []) B[i] with|some a=>a.To|none=> -1):Int)<0)) then(
    check (0<=(n:Int)/\toNat (n:Int)<length (replicate l.length (⟨0,[]⟩:Node))) (
    Rr (l.map some) (toNat (n:Int)) λz G=>
    aV B (i:Int) λD=>
    check ((length z+length [(bX.mk D ((length (replicate l.length (⟨0,[]⟩:Node)):Int)))]) *16<=140737488355328/\length z+length [(bX.mk D ((length (replicate l.length (⟨0,[]⟩:Node)):Int)))]<=4611686018427387904) (
    check (0<=(n:Int)/\toNat (n:Int)<length (replicate l.length (⟨0,[]⟩:Node))) (
    check ((toNat (n:Int))<length G) (tA (List.set G (toNat (n:Int)) (some (z++[(bX.mk D ((length (replicate l.length (⟨0,[]⟩:Node)):Int)))]))) λO=>
    check ((length (replicate l.length (⟨0,[]⟩:Node))+length [(Node.mk 0 ([]:List bX))]) *32<=140737488355328/\length (replicate l.length (⟨0,[]⟩:Node))+length [(Node.mk 0 ([]:List bX))]<=4611686018427387904) (
    tA (O++[some []]) λP=>
    rK A B ((length (replicate l.length (⟨0,[]⟩:Node)):Int)) ((i+1:Nat):Int) o4 ((replicate l.length (⟨0,[]⟩:Node))++[(Node.mk 0 ([]:List bX))]) P))))))
    else rK A B (match fa (l.getD n []) B[i] with|some a=>a.To|none=> -1) ((i+1:Nat):Int) o4 (replicate l.length ⟨0,[]⟩) (l.map some))=some r->rK A B (n:Int) (i:Int) o4 (replicate l.length ⟨0,[]⟩) (l.map some)=some r:=λr U=>by
   refine QO ?_;rw[bl af,cond_pos (by rw[bF];omega),uK (by simpa using q),bh (by simpa using q),bR w,aP,acw q,c468 af,ak];rw[aP] at U;exact U
  cases e:fa (l.getD n []) B[i] with
  |some a=>
   obtain⟨h1,h2⟩:=I.go hB w e;obtain⟨f,H,K⟩:=V (i+1) a.To.toNat l af h2;refine⟨f,pre f ?_,K⟩;rw[e];simp only[];rw[cond_neg (by rw[bM];omega)]
   have:((a.To.toNat:Nat):Int)=a.To:=af
   rw[this] at H;exact H
  |none=>
   have I2:=I.new hB w e;obtain⟨f,H,K⟩:=V (i+1) l.length _ af I2;refine⟨f,pre f ?_,K⟩;rw[e];simp only[];rw[cond_pos (by rfl),uK (by simpa using q),aP,ER q,bR w,bT _ af ah af,bh ⟨af,by simpa using q⟩,bh (by simpa using q),List.set_set];rw[sB,bT _ aD ah af,sB,jY];have Q:(l.map some).set n (some (l.getD n []++[(⟨B[i],(l.length:Nat)⟩:bX)]))++[some []]=(l.set n (l.getD n []++[(⟨B[i],(l.length:Nat)⟩:bX)])++[[]]).map some:=by rw[bJ,jj];rfl
   rw[Q,<-mX];have S:(l.set n (l.getD n []++[(⟨B[i],(l.length:Nat)⟩:bX)])++[[]]).length=l.length+1:=ah;rw[S] at H;exact H
include hA hB XQ hnp hAl YH hF in
theorem c439:∃f,f439 A B=some f/\YG F A B f:=by
 have K:0<B.length:=List.length_pos_iff.2 XQ;obtain⟨f,D,H⟩:=h439_10 hA hB hAl YH hF XQ hnp (o4:=⟨[]⟩) (B.length-1) 0 0 (Em A) af (SI.init hA);refine⟨f,e439 ?_,H⟩;rw[bT _ ah ah af];unfold tA;have q:(Em A).length=A.length+1:=by simp[Em]
 rw[q] at D;have key:∀(k i:Nat),A.length=i+k->A6 A B (i:Int) ⟨[]⟩ (replicate (i+1) ⟨0,[]⟩) ((((Em A).take i)++[[]]).map some)=some f:=by intro k;induction k with
  |zero=>
   intro i L;have e:i=A.length:=af;subst e;refine V8 ?_;rw[cond_neg (by rw[bM];omega)]
   have:(Em A).take A.length++[[]]=Em A:=by
    have I:(Em A).drop A.length=[[]]:=by apply ki;intro j;rw[vn];cases j with
     |zero=>simp[Em]
     |succ j=>rw[fA (by rw[q];omega)];simp
    rw[<-I,jl]
   rw[this];exact D
  |succ k N=>
   intro i L;have l:i<A.length:=af;refine V8 ?_;rw[cond_pos (by rw[bF];omega),bR l,uK ah,bh (by simp[q];omega),aP];rw[sB,bT _ aD ah af,bl af,<-mX];have:=N (i+1) af;have G:((((Em A).take i)++[[]]).map some).set i (some [⟨A[i],((i+1:Nat):Int)⟩])++[some []]=(((Em A).take (i+1))++[[]]).map some:=by
    have z:((Em A).take i).length=i:=by rw[fF,q];omega
    have w:(Em A)[i]? =some [⟨A[i],((i+1:Nat):Int)⟩]:=by have:=yb l;rw[aX,aK (by omega:i<(Em A).length)] at this;rw[aK (by omega:i<(Em A).length)];exact aJ some this
    rw[bJ,mN _ _ aD,cg,w]
    have:i-(((Em A).take i).map some).length=0:=by rw[aU,z];omega
    rw[this];simp
   rw[G,sB];exact this
 have:=key A.length 0 af;simpa using this
end
end Go.Proofs.YthppjmoncapdfaaGreatDoor.cl.pf
namespace Go.Proofs.YthppjmoncapdfaaGreatDoor.cl.pf
open Go Go.AM
def nmA (l:List bX):List Int:=l.flatMap λa=>[a.aS,a.To]
def nmN (x:Node):List Int:=[x.cO,(x.bC.length:Int)]++nmA x.bC
def nmF (f:FSt):List Int:=(f.aj.length:Int)::f.aj.flatMap nmN
def Wu (l:List bX):(nmA l).length=2 *l.length:=by induction l with
 |nil=>rfl
 |cons a l q=>simp only[nmA,oJ,cR,bg,ek] at q⊢;omega
def Wt:∀{l m:List bX} {x y:List Int},l.length=m.length->nmA l++x=nmA m++y->l=m/\x=y
 |[],[],x,y,_,h=>⟨rfl,by simpa[nmA] using h⟩
 |a::l,b::m,x,y,q,h=>by simp only[nmA,oJ,e7,dw,dM] at h;obtain⟨D,G,z⟩:=h;obtain⟨e1,w⟩:=Wt (l:=l) (m:=m) (by simpa using q) z;exact⟨by rw[e1];congr 1;cases a;cases b;simp_all,w⟩
 |[],b::m,_,_,q,_=>by simp at q
 |a::l,[],_,_,q,_=>by simp at q
def nmN_inj {a b:Node} {x y:List Int} (h:nmN a++x=nmN b++y):a=b/\x=y:=by simp only[nmN,e7,dw,dM] at h;obtain⟨w,z,q⟩:=h;obtain⟨e1,l⟩:=Wt af q;exact⟨by cases a;cases b;simp_all,l⟩
def Wv:∀{l m:List Node} {x y:List Int},l.length=m.length->l.flatMap nmN++x=m.flatMap nmN++y->l=m/\x=y
 |[],[],x,y,_,h=>⟨rfl,by simpa using h⟩
 |a::l,b::m,x,y,q,h=>by rw[oJ,oJ,eO,eO] at h;obtain⟨e1,D⟩:=nmN_inj h;obtain⟨w,z⟩:=Wv (by simpa using q) D;exact⟨by rw[e1,w],z⟩
 |[],b::m,_,_,q,_=>by simp at q
 |a::l,[],_,_,q,_=>by simp at q
def nmF_inj {a b:FSt} {x y:List Int} (h:nmF a++x=nmF b++y):a=b:=by simp only[nmF,e7,dM] at h;obtain⟨q,l⟩:=h;have:=(Wv af l).1;cases a;cases b;simp_all
structure Sm (f:FSt):Prop where
 n:f.aj.length<=5000
 a:∀x∈f.aj,x.bC.length<=1000
def h432_8 {f:FSt} {i:Nat} {res:List Int} {l:List bX} (G:l.length<=1000):∀(xs:List bX) (k:Nat) (o:List Int),l.drop k=xs->o.length+2 *xs.length<=100000000->
  JY (wrap .i64 ((i:Int)+1)) f (o++nmA xs)=some res->OQ (i:Int) l (k:Int) f o=some res:=by
 intro xs;induction xs with
 |nil=>intro k o q _ w;refine abC ?_;rw[bp q,az];simpa[nmA] using w
 |cons x xs D=>intro k o q z w;refine abC ?_;rw[aZ q,ai,aQ q,aQ q,bT _ (by simp at z;omega) ah af,aY q af];refine D (k+1) _ (aG q) (by simp at z⊢;omega) ?_;simpa[nmA] using w
def h432_3 {f:FSt} (w:Sm f):∀(xs:List Node) (i:Nat) (o:List Int),f.aj.drop i=xs->o.length+2002 *xs.length<=100000000->JY (i:Int) f o=some (o++xs.flatMap nmN):=by intro xs;induction xs with
 |nil=>intro i o l _;refine abB ?_;rw[bp l,az];simp
 |cons x xs D=>intro i o l q;have z:=w.a x (aH (bB l));have G:=w.n;refine abB ?_;rw[aZ l,ai,aQ l,aQ l,bT _ (by simp at q;omega) ah af];refine h432_8 z x.bC 0 _ rfl (by simp at q⊢;omega) ?_;rw[aY l af,D (i+1) _ (aG l) (by simp[Wu] at q⊢;omega)];simp[nmN]
def c432 {f:FSt} (l:Sm f):f432 f=some (nmF f):=by refine e432 ?_;exact h432_3 l f.aj 0 [(f.aj.length:Int)] rfl (by have:=l.n;simp;omega)
def Ww:∀{l:List Node},(∀x∈l,x.bC.length<=1000)->(l.flatMap nmN).length<=2002 *l.length
 |[],_=>by simp
 |x::l,h=>by
  have w:=h x ah;have z:=Ww (l:=l) λy q=>h y (by simp[q])
  rw[oJ,cR,bg];simp only[nmN,cR,bg,ek,Wu];omega
def nmF_len {f:FSt} (l:Sm f):(nmF f).length<=1000000000:=by have:=Ww l.a;have:=l.n;simp only[nmF,bg];omega
def h418 {l m:List Int} (L:l.length<=1000000000):∀(xs z:List Int) (i:Nat),l.drop i=xs->m.drop i=z->∃r,OG l m (i:Int)=some r/\(r=0↔∃x y,xs++x=z++y):=by intro xs;induction xs with
 |nil=>intro z i q w;refine⟨0,IC ?_,⟨λ_=>⟨z,[],ah⟩,λ_=>rfl⟩⟩;rw[bp q,az]
 |cons a xs K=>intro z i q w;cases z with
  |nil=>refine⟨0,IC ?_,⟨λ_=>⟨[],a::xs,ah⟩,λ_=>rfl⟩⟩;rw[aZ q,ai,bp w,az]
  |cons b z=>
   by_cases D:a<b
   .refine⟨-1,IC ?_,⟨λe=>by omega,λ⟨x,y,e⟩=>by simp at e;omega⟩⟩;rw[aZ q,ai,aZ w,ai,aQ q,aQ w,cond_pos (by rw[bF];exact D)]
   by_cases G:a>b
   .refine⟨1,IC ?_,⟨λe=>by omega,λ⟨x,y,e⟩=>by simp at e;omega⟩⟩;rw[aZ q,ai,aZ w,ai,aQ q,aQ w,cond_neg (by rw[bM];exact D),aQ q,aQ w,cond_pos (by rw[bF];exact G)]
   have e:a=b:=af;obtain⟨r,H,I⟩:=K z (i+1) (aG q) (aG w);refine⟨r,IC ?_,I.trans ?_⟩
   .rw[aZ q,ai,aZ w,ai,aQ q,aQ w,cond_neg (by rw[bM];exact D),aQ q,aQ w,cond_neg (by rw[bM];exact G),aY q af];exact H
   .subst e;simp
def c407 {a b:FSt} (l:Sm a) (z:Sm b):∃r,f407 a b=some r/\(r=true↔a=b):=by obtain⟨r,q,w⟩:=h418 (l:=nmF a) (m:=nmF b) (nmF_len l) _ _ 0 rfl rfl;have D:f418 a b=some r:=e418 (by rw[c432 l,ak,c432 z,ak];exact q);refine⟨r==0,e407 (by rw[D,ak]),?_⟩;rw[ga,w];exact⟨λ⟨x,y,e⟩=>nmF_inj e,λe=>⟨[],[],by rw[e]⟩⟩
def GD {a:FSt} (l:Sm a):f407 a a=some true:=by obtain⟨r,q,w⟩:=c407 l l;rw[q,w.2 rfl]
def srG_grF {f:FSt} (h:∀x∈f.aj,yX x.bC):CA f=mI f:=by
 unfold CA mI;congr 1;funext n;by_cases l:n<f.aj.length
 .rw[Am l,qq l,srt_id (h _ (bq l))];rfl
 .rw[NQ af];unfold Cp;rw[fA af]
def InB (T F:Nat) (x:Node):Prop:=x.cO<(T:Int)/\∀a∈x.bC,a.aS<(F:Int)
def srG_go {T F:Nat} {f:FSt} (w:ze f) (G:∀x∈f.aj,x.bC.length<=1000) (D:∀x∈f.aj,InB T F x):GO T F (CA f) f.aj.length:=by
 refine⟨NS (w.SH λx H=>by have:=G x H;omega),λn l=> ?_,λn l p z=> ?_,λn l=> ?_⟩
 .show y7 (Cp f n);rw[Am l];have:=NT (w.2.2 _ (bq l)).2.2;unfold y7;rw[gT];exact this
 .have z:p∈Cp f n:=z;rw[Am l] at z;obtain⟨a,q,rfl⟩:=aC.1 z;have q:=(qf _).2.2 a|>.1 q
  exact⟨((w.2.2 _ (bq l)).2.1 a q).1,(D _ (bq l)).2 a q⟩
 .show 0<=nw f n/\_;have e:(CA f).ty n=f.aj[n].cO:=ou l;rw[e,ou l];exact⟨(w.2.2 _ (bq l)).1,(D _ (bq l)).1⟩
def Can.js {T F:Nat} {f:FSt} (h:Can T F f):∀x∈f.aj,InB T F x:=λx l=>⟨(h.Pn l).2,λa q=>((h.ao l).ok a q).1.2⟩
def Can.good {T F:Nat} {f:FSt} (h:Can T F f) (w:f.aj.length<=4096):ze f:=
 ⟨h.ne,w,λx l=>⟨(h.Pn l).1,λa q=>⟨((h.ao l).ok a q).1.1,((h.ao l).ok a q).2⟩,(h.ao l).x8.nd⟩⟩
def Can.sr {T F:Nat} {f:FSt} (h:Can T F f):lK (CA f) f.aj.length 0=f:=by rw[srG_grF λx l=>(h.ao l).x8];exact h.eq.symm
def Can.sm {T F:Nat} {f:FSt} (h:Can T F f) (l:f.aj.length<=5000) (hF:F<=1000):Sm f:=⟨l,λx q=>by have:=(h.ao q).len;omega⟩
def can_sr {T F:Nat} {f:FSt} (l:ze f) (w:∀x∈f.aj,x.bC.length<=1000) (q:∀x∈f.aj,InB T F x):f=lK (CA f) f.aj.length 0↔Can T F f:=
 ⟨λe=>by
  have:=S7 (srG_go l w q) l.1
  rw[<-e] at this;exact this,λh=>h.sr.symm⟩
def sm_can {f:FSt} (q:ze f) (D:∀x∈f.aj,x.bC.length<=1000):Sm (lK (CA f) f.aj.length 0):=by have hB:=NS (q.SH λx z=>by have:=D x z;omega);have w:=uo (G:=CA f) hB q.1;have H:=vI w.nd w.lt;refine⟨by rw[HP];have:=q.2.1;omega,λx z=> ?_⟩;obtain⟨n,G,rfl⟩:=aC.1 z;have l:=w.lt n G;have e:(CA f).sc n=_:=Am l;simp only[aU,e,(qf _).2.1];exact D _ (bq l)
def h410_11 {h:bQ} {f g:FSt} {x:Node} {i:Nat} {P:Prop} (L:x.bC.length<=1000) (I:∃e,JT (wrap .i64 ((i:Int)+1)) h f g=some e/\(e=0↔P)):∀(xs:List bX) (k:Nat),x.bC.drop k=xs->
  ∃e,G8 (i:Int) (k:Int) h f g x=some e/\(e=0↔(∀a∈xs,a.aS<(h.cD.length:Int))/\P):=by
 intro xs;induction xs with
 |nil=>intro k l;obtain⟨e,z,D⟩:=I;refine⟨e,MU ?_,D.trans ⟨λq=>⟨λa H=>by(cases H),q⟩,λq=>q.2⟩⟩;rw[bp l,az];exact z
 |cons a xs K=>
  intro k l;by_cases G:a.aS>=(h.cD.length:Int)
  .refine⟨2,MU ?_,⟨λe=>by omega,λq=>by have:=q.1 a (by simp);omega⟩⟩;rw[aZ l,ai,aQ l,cond_pos (by rw[bF];exact G)]
  .obtain⟨e,z,D⟩:=K (k+1) (aG l);refine⟨e,MU ?_,D.trans ⟨λq=>⟨λb w=> ?_,q.2⟩,λq=>⟨λb w=>q.1 b (by simp[w]),q.2⟩⟩⟩
   .rw[aZ l,ai,aQ l,cond_neg (by rw[bM];exact G),aY l af];exact z
   .rcases aF.1 w with rfl|w
    .omega
    .exact q.1 b w
def h410_5 {h:bQ} {f g:FSt} (G:Sm f) (K:Sm g):∀(xs:List Node) (i:Nat),f.aj.drop i=xs->
  ∃e,JT (i:Int) h f g=some e/\(e=0↔(∀x∈xs,InB h.Types.length h.cD.length x)/\f=g):=by
 intro xs;induction xs with
 |nil=>intro i l;obtain⟨r,z,D⟩:=c407 G K;cases r with
  |true=>refine⟨0,MV ?_,⟨λ_=>⟨λx H=>by(cases H),D.1 rfl⟩,λ_=>rfl⟩⟩;rw[bp l,az,z,ak];rfl
  |false=>refine⟨3,MV ?_,⟨λe=>by omega,λq=>absurd (D.2 q.2) ah⟩⟩;rw[bp l,az,z,ak];rfl
 |cons x xs L=>
  intro i l;have H:=G.a x (aH (bB l));have N:=G.n;by_cases I:x.cO>=(h.Types.length:Int)
  .refine⟨2,MV ?_,⟨λe=>by omega,λq=>by have:=(q.1 x ah).1;omega⟩⟩;rw[aZ l,ai,aQ l,cond_pos (by rw[bF];exact I)]
  .obtain⟨e,z,D⟩:=h410_11 (i:=i) H (by rw[aY l af];exact L (i+1) (aG l)) x.bC 0 rfl;refine⟨e,MV ?_,D.trans ⟨λq=>⟨λy w=> ?_,q.2.2⟩,λq=>⟨(q.1 x ah).2,λy w=>q.1 y (by simp[w]),q.2⟩⟩⟩
   .rw[aZ l,ai,aQ l,cond_neg (by rw[bM];exact I)];exact z
   .rcases aF.1 w with rfl|w
    .exact⟨af,q.1⟩
    .exact q.2.1 y w
def c410 {h:bQ} {f:FSt} (w:∀x∈f.aj,x.bC.length<=1000):∃e,f410 h f=some e/\(e=0↔Can h.Types.length h.cD.length f/\f.aj.length<=4096):=by
 rcases c421 (f:=f) (λx H=>by have:=w x H;omega) with⟨l,z⟩|⟨l,e,D,z⟩
 .have G:=l.2.1;obtain⟨e,I,K⟩:=h410_5 (h:=h) ⟨af,w⟩ (sm_can l w) f.aj 0 rfl;refine⟨e,e410 ?_,K.trans ⟨λq=>⟨(can_sr l w q.1).1 q.2,G⟩,λq=>⟨q.1.js,q.1.sr.symm⟩⟩⟩;rw[z,ak,cond_neg (by rfl)];exact I
 .refine⟨e,e410 ?_,⟨λq=>absurd q D,λq=>absurd (q.1.good q.2) l⟩⟩;rw[z,ak,cond_pos (by rw[jW];exact D)]
structure Pu (f:FSt):Prop where
 n:f.aj.length<=12
 a:∀x∈f.aj,x.bC.length<=12
def c413 (f:FSt):∃r,f413 f=some r/\(r=true->Pu f):=by
 by_cases H:f.aj.length>12
 .refine⟨false,e413 ?_,λe=>by cases e⟩;rw[cond_pos (by rw[bF];omega)]
 have key:∀(xs:List Node) (i:Nat),f.aj.drop i=xs->∃r,OD (i:Int) f=some r/\(r=true->∀x∈xs,x.bC.length<=12):=by intro xs;induction xs with
  |nil=>intro i l;refine⟨true,TU ?_,λ_ x D=>by cases D⟩;rw[bp l,az]
  |cons x xs G=>
   intro i l;by_cases I:x.bC.length>12
   .refine⟨false,TU ?_,λe=>by cases e⟩;rw[aZ l,ai,aQ l,cond_pos (by rw[bF];omega)]
   .obtain⟨r,q,w⟩:=G (i+1) (aG l);refine⟨r,TU ?_,λe y z=> ?_⟩
    .rw[aZ l,ai,aQ l,cond_neg (by rw[bM];omega),aY l af];exact q
    .rcases aF.1 z with rfl|z
     .omega
     .exact w e y z
 obtain⟨r,q,w⟩:=key f.aj 0 rfl;refine⟨r,e413 ?_,λe=>⟨af,w e⟩⟩;rw[cond_neg (by rw[bM];omega)];exact q
def Pu.sm {f:FSt} (h:Pu f):Sm f:=⟨by have:=h.n;omega,λx l=>by have:=h.a x l;omega⟩
structure SA (T F:Nat) (f:FSt):Prop where
 lt:Pu f
 can:Can T F f
def c408 (h:bQ) (f:FSt):∃r,f408 h f=some r/\(r=true->SA h.Types.length h.cD.length f):=by obtain⟨r,l,w⟩:=c413 f;cases r with
 |false=>exact⟨false,e408 (by rw[l,ak];rfl),λe=>by cases e⟩
 |true=>
  have q:=w rfl;obtain⟨e,G,H⟩:=c410 (h:=h) (f:=f) λx D=>by have:=q.a x D;omega
  refine⟨e==0,e408 (by rw[l,ak,ai,G,ak]),λz=>⟨q,(H.1 (by simpa using z)).1⟩⟩
