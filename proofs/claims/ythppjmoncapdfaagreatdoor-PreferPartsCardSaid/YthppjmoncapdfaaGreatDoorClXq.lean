/- Canon; the same value at two paths (the reference's sharing). -/
import Derived.Test.YthppjmoncapdfaaGreatDoorClXn
set_option linter.all false
open Go.IntKind (wrap)
open Int (toNat)
open List (length replicate)
namespace Go.Proofs.YthppjmoncapdfaaGreatDoor.cl.pf
open Go Go.AM
def Gs (l:List bD) (n:Int):Prop:=(∀a∈l,0<=a.aV/\0<=a.To/\a.To<n)/\(l.map (·.aV)).Nodup
def c454 {l:List bD} {n:Int} (hl:l.length<=1000000):∃e,f454 l n=some e/\(e=0↔Gs l n):=by
 have key:∀(k i:Nat),l.length=i+k->((∀a∈l.take i,0<=a.aV/\0<=a.To/\a.To<n)/\((l.take i).map (·.aV)).Nodup)->∃e,CH l n (i:Int)=some e/\(e=0↔Gs l n):=by intro k;induction k with
  |zero=>intro i V K;have e:i=l.length:=af;subst e;rw[fF] at K;refine⟨0,BW ?_,⟨λ_=>K,λ_=>rfl⟩⟩;simp
  |succ k ih=>
   intro i V K;have q:i<l.length:=af;have O:=bH q;by_cases R:l[i].aV<0
   .refine⟨2,BW ?_,⟨λe=>by omega,λh=>by have:=h.1 _ O;omega⟩⟩;rw[cond_pos (by rw[bG];omega),eY q,cond_pos (by rw[bG];exact R)]
   by_cases U:l[i].To<0
   .refine⟨2,BW ?_,⟨λe=>by omega,λh=>by have:=h.1 _ O;omega⟩⟩;rw[cond_pos (by rw[bG];omega),eY q,cond_neg (by rw[bM];exact R),eY q,cond_pos (by rw[bG];exact U)]
   by_cases h3:l[i].To>=n
   .refine⟨2,BW ?_,⟨λe=>by omega,λh=>by have:=h.1 _ O;omega⟩⟩;rw[cond_pos (by rw[bG];omega),eY q,cond_neg (by simp_all),eY q,cond_neg (by simp_all),eY q,cond_pos (by simp_all)]
   have step:∀r,CI l n (i:Int) 0=some r->CH l n (i:Int)=some r:=λr hr=>by refine BW ?_;rw[cond_pos (by grind),eY q,cond_neg (by simp_all),eY q,cond_neg (by simp_all),eY q,cond_neg (by simp_all)];omega
   have inner:∀(d w:Nat),i=w+d->(∀j,(L:j<l.length)->j<w->l[j].aV≠l[i].aV)->∃e,CI l n (i:Int) (w:Int)=some e/\(e=0↔Gs l n):=by intro d;induction d with
    |zero=>
     intro w N P;have e:w=i:=af;subst e
     obtain⟨e,H,D⟩:=ih (w+1) af (by
      rw[cS,aW q];refine⟨λa I=> ?_,?_⟩
      .grind
      .rw[bw,jU];refine⟨K.2,by simp,λx W y S=> ?_⟩;simp at S;subst S;obtain⟨a,I,rfl⟩:=aA.1 W;obtain⟨j,L⟩:=fG.1 I
       grind)
     refine⟨e,J9 ?_,D⟩;rw[cond_neg ah,cQ af];omega
    |succ d Q=>
     intro w N P;have z:w<l.length:=af;by_cases e:l[w].aV=l[i].aV
     .refine⟨4,J9 ?_,⟨λe=>by omega,λh=> ?_⟩⟩
      .rw[cond_pos (by grind),eY z,eY q,cond_pos (by simp_all)]
      .have:=h.2;unfold List.Nodup at this;rw[fR] at this;grind[List.pairwise_iff_getElem]
     .obtain⟨r,H,D⟩:=Q (w+1) af (λj L G=>by
       grind)
      refine⟨r,J9 ?_,D⟩;rw[cond_pos (by grind),eY z,eY q,cond_neg (by simp_all),cQ af];omega
   obtain⟨e,H,D⟩:=inner i 0 af (λj L G=>absurd G af);simp_all
 obtain⟨e,H,D⟩:=key l.length 0 af ⟨λa I=>by(cases I),ah⟩;exact⟨e,e454 H,D⟩
def uG (f:FSt):Prop:=0<f.au.length/\f.au.length<=4096/\∀x∈f.au,0<=x.ef/\Gs x.cG f.au.length
def c435 {f:FSt} (K:∀x∈f.au,x.cG.length<=1000000):∃e,f435 f=some e/\(e=0↔uG f):=by
 by_cases O:f.au.length=0
 .refine⟨1,e435 ?_,⟨λe=>by omega,λh=>by have:=h.1;omega⟩⟩;simp_all
 by_cases P:f.au.length>4096
 .refine⟨7,e435 ?_,⟨λe=>by omega,λh=>by have:=h.2.1;omega⟩⟩;grind
 have key:∀(k i),f.au.length=i+k->(∀x∈f.au.take i,0<=x.ef/\Gs x.cG f.au.length)->∃e,F8 (i) f=some e/\(e=0↔uG f):=by intro k;induction k with
  |zero=>intro i I D;have e:i=f.au.length:=af;subst e;rw[fF] at D;refine⟨0,ET ?_,⟨λ_=>⟨af,by omega,D⟩,λ_=>rfl⟩⟩;simp
  |succ k L=>
   intro i I D;have l:i<f.au.length:=af;have z:=bH l;by_cases Q:f.au[i].ef<0
   .refine⟨2,ET ?_,⟨λe=>by omega,λh=>by have:=(h.2.2 _ z).1;omega⟩⟩;rw[cond_pos (by grind),eY l,cond_pos (by simp_all)]
   .obtain⟨e,q,w⟩:=c454 (n:=(f.au.length)) (K _ z);by_cases H:e=0
    .obtain⟨r,R,N⟩:=L (i+1) af (λx G=>by
      rw[cS] at G
      grind)
     refine⟨r,ET ?_,N⟩;rw[cond_pos (by grind),eY l,cond_neg (by simp_all),eY l,q,aI,cond_neg (by simp_all),cQ af];omega
    .refine⟨e,ET ?_,⟨λh=>absurd h H,λh=>absurd (w.2 (h.2.2 _ z).2) H⟩⟩;rw[cond_pos (by grind),eY l,cond_neg (by simp_all),eY l,q,aI,cond_pos (by simp_all)]
 obtain⟨e,q,w⟩:=key f.au.length 0 af (λx G=>by cases G);refine⟨e,e435 ?_,w⟩;grind
def uG.Ji {f:FSt} (h:uG f) (w:∀x∈f.au,x.cG.length<=1000000):I7 f:=λx l=>⟨w x l,λa q=>by have:=(h.2.2 x l).2.1 a q;omega⟩
def VI {f:FSt} (q:∀x∈f.au,x.cG.length<=1000000):(uG f/\f421 f=some (jG (y6 f) f.au.length 0,0))\/(¬uG f/\∃e,e≠0/\f421 f=some (⟨[]⟩,e)):=by
 obtain⟨e,z,D⟩:=c435 q;by_cases G:e=0
 .have l:=D.1 G;refine .inl ⟨l,e421 ?_⟩;have w:(0:Int)=((0:Nat)):=rfl;rw[z,aI,cond_neg (by grind),w,c436 (l.Ji q) (by have:=l.2.1;omega) l.1,aI]
 simp_all[e421,cond_pos]
def c468 {l:List bD} {f:Int} (z:l.length<=1000000):f468 l f=some (match fa l f with|some a=>a.To|none=> -1):=by
 have key:∀(xs) (i),l.drop i=xs->Gd l f (i)=some (match fa xs f with|some a=>a.To|none=> -1):=by intro xs;induction xs with
  |nil=>intro i q;refine PK ?_;rw[dA q];rfl
  |cons x xs w=>intro i q;refine PK ?_;rw[cN q,bN q,bN q,dF q af,w _ (cg q)];unfold fa;grind
 exact e468 (key l 0 rfl)
def Qa {R:Type} {l:List (List bD)} {i:Nat} (h:i<l.length) (k:List bD->Option R):WH (l.map some) i k=k (l.getD i []):=by simp_all[WH]
def Mf (l:List (List bD)):Nat->List Int->Nat->Prop
 |x,[],y=>x=y
 |x,f::q,y=>∃z:Nat,(⟨f,(z:Int)⟩:bD)∈l.getD x []/\Mf l z q y
def Mf.snoc {q:List (List bD)} {f:Int} {z:Nat}:∀{D:List Int} {x y:Nat},Mf q x D y->(⟨f,(z:Int)⟩:bD)∈q.getD y []->Mf q x (D++[f]) z
 |[],x,y,h,l=>by cases h;exact⟨z,l,rfl⟩
 |g::D,x,y,⟨w,G,h⟩,l=>⟨w,G,Mf.snoc h l⟩
def Mf.mono {z D:List (List bD)} (h:∀x,∀a∈z.getD x [],a∈D.getD x []):∀{q:List Int} {x y:Nat},Mf z x q y->Mf D x q y
 |[],_,_,l=>l
 |_::q,x,y,⟨w,G,l⟩=>⟨w,h x _ G,Mf.mono h l⟩
def yZ (A:List Int):List (List bD):=(List.range (A.length+1)).map λj=>match A[j]? with
 |some f=>[⟨f,(j+1:Nat)⟩]
 |none=>[]
def tL {A:List Int} {j:Nat} (h:j<A.length):(yZ A).getD j []=[⟨A[j],(j+1:Nat)⟩]:=by grind[yZ]
def AR {A:List Int} {j:Nat} (h:A.length<=j):(yZ A).getD j []=[]:=by unfold yZ;grind
def Es {A:List Int}:∀i,i<=A.length->Mf (yZ A) 0 (A.take i) i
 |0,_=>rfl
 |i+1,h=>by rw[cS,aW af];exact(Es i af).snoc (by rw[tL af];simp)
section
variable {F:Nat} {A B:List Int} (hA:∀f∈A,0<=f/\f<(F:Int)) (hB:∀f∈B,0<=f/\f<(F:Int)) (Vf:A.length<=1000) (Nv:B.length<=1000) (hF:F<=1000) (MJ:B≠[]) (hnp:¬B<+:A)
structure SI (F:Nat) (A B:List Int) (n i:Nat) (ys:List (List bD)):Prop where
 len:A.length+1<=ys.length
 le:ys.length<=A.length+1+i
 aw:∀x,x<ys.length->AW F ys.length (ys.getD x [])
 pa:Mf ys 0 A A.length
 pb:Mf ys 0 (B.take i) n
 UG:n<ys.length
 c4:∀(C:FSt) (T' k:Nat),Can T' F C->wT C A=some k->wT C B=some k->∃m:Nat->Nat,m 0=0/\m A.length=k/\m n=Gl (mC C) B i/\∀x,x<ys.length->∀a∈ys.getD x [],(a.aV,m a.To.toNat)∈j9 C (m x)
 ph:ys.getD n []=[]\/(n=i/\i<=A.length/\B.take i=A.take i/\ys=yZ A)
theorem add_get {l:List (List bD)} {n x:Nat} {a:bD} (q:n<l.length):(l.set n (l.getD n []++[a])).getD x []=if n=x then l.getD n []++[a] else l.getD x []:=by grind
theorem NR {l:List (List bD)} {n:Nat} {a:bD} (w:n<l.length) (x:Nat):∀b∈l.getD x [],b∈(l.set n (l.getD n []++[a])).getD x []:=λb q=>by grind
theorem AW.snoc {F n:Nat} {l:List bD} (h:AW F n l) {a:bD} (G:(0<=a.aV/\a.aV<(F:Int))/\0<=a.To/\a.To<(n:Int)) (w:fa l a.aV=none):AW F n (l++[a]):=by
 refine⟨?_,λb q=> ?_⟩
 .rw[bw,jU];refine⟨h.nd,by simp,λx D y z=> ?_⟩;simp at z;subst z;obtain⟨b,q,rfl⟩:=aA.1 D;exact RC w b q
 .rcases bn.1 q with q|q
  .exact h.ok b q
  simp_all
theorem AW.more {F n w:Nat} {l:List bD} (h:AW F n l) (z:n<=w):AW F w l:=⟨h.nd,λb q=>⟨(h.ok b q).1,(h.ok b q).2.1,by have:=(h.ok b q).2.2;omega⟩⟩
include hA in
theorem SI.init:SI F A B 0 0 (yZ A):=by
 have z:(yZ A).length=A.length+1:=by simp[yZ]
 refine⟨af,by omega,λx q=> ?_,?_,rfl,by omega,λC G k D w H=>⟨Gl (mC C) A,rfl,xH w,rfl,λx q a l=> ?_⟩, .inr ⟨rfl,by omega,rfl,rfl⟩⟩
 .rw[z] at q⊢;by_cases h:x<A.length
  .rw[tL h];exact⟨ah,λa l=>by simp at l;subst l;exact⟨hA _ (bH h),by show 0<=((x+1:Nat):Int);omega,by show((x+1:Nat):Int)<((A.length+1:Nat):Int);omega⟩⟩
  .rw[AR af];exact⟨ah,λa l=>by cases l⟩
 .have:=Es (A:=A) A.length (aJ _);rwa[fF] at this
 .rw[z] at q;by_cases h:x<A.length
  .rw[tL h] at l;simp at l;subst l;exact qv D.Gm w h
  .rw[AR af] at l;cases l
include hB in
theorem SI.go {n i:Nat} {K:List (List bD)} (I:SI F A B n i K) (L:i<B.length) {a:bD} (R:fa (K.getD n []) B[i]=some a):0<=a.To/\SI F A B a.To.toNat (i+1) K:=by
 obtain⟨q,z⟩:=Lp R;rcases I.ph with h|⟨rfl,S,H,rfl⟩
 .rw[h] at q;cases q
 .have w:n<A.length:=by
   by_cases h:n<A.length
   .exact h
   .rw[AR af] at q;cases q
  rw[tL w] at q;simp at q;subst q;have z:A[n]=B[n]:=z;have hl:(yZ A).length=A.length+1:=by simp[yZ]
  have l:B.take (n+1)=A.take (n+1):=by rw[cS,cS,H,aW L,aW w,z]
  refine⟨by show 0<=((n+1:Nat):Int);omega,?_⟩;show SI F A B ((n+1:Nat):Int).toNat (n+1) (yZ A);rw[bf];refine⟨I.len,by have:=I.le;omega,I.aw,I.pa,?_,by omega,λC P k G U N=> ?_, .inr ⟨rfl,by omega,l,rfl⟩⟩
  .rw[l];exact Es (n+1) af
  .obtain⟨m,V,W,m2,O⟩:=I.c4 C P k G U N;refine⟨m,V,W,?_,O⟩;have D:=O n I.UG ⟨A[n],(n+1:Nat)⟩ (by rw[tL w];simp);have Q:=qv G.Gm N L;simp only at D;rw[m2,z,bf] at D;exact(G.x5 _).Gm D Q
include hB in
theorem SI.new {n i:Nat} {l:List (List bD)} (I:SI F A B n i l) (N:i<B.length) (L:fa (l.getD n []) B[i]=none):SI F A B l.length (i+1) (l.set n (l.getD n []++[(⟨B[i],(l.length:Nat)⟩:bD)])++[[]]):=by
 have R:(l.set n (l.getD n []++[(⟨B[i],(l.length:Nat)⟩:bD)])++[[]]).length=l.length+1:=ah;have K:∀x,x<l.length->(l.set n (l.getD n []++[(⟨B[i],(l.length:Nat)⟩:bD)])++[[]]).getD x []=if n=x then l.getD n []++[(⟨B[i],(l.length:Nat)⟩:bD)] else l.getD x []:=λx H=>by rw[JR (by simpa using H),add_get I.UG]
 have G:(l.set n (l.getD n []++[(⟨B[i],(l.length:Nat)⟩:bD)])++[[]]).getD l.length []=[]:=by rw[JS ah];simp
 have z:∀x,∀b∈l.getD x [],b∈(l.set n (l.getD n []++[(⟨B[i],(l.length:Nat)⟩:bD)])++[[]]).getD x []:=λx b D=>by
  by_cases H:x<l.length
  .rw[K x H];by_cases e:n=x
   .subst e;rw[ak rfl];exact eS _ D
   .rw[az e];exact D
  .rw[bQ,fE af] at D;cases D
 have O:=I.UG;have V:=I.len;have Q:=I.le;refine⟨af,by omega,λx H=> ?_,I.pa.mono z,?_,by omega,λC U k P W S=> ?_, .inl G⟩
 .rw[R] at H⊢;by_cases w:x<l.length
  .rw[K x w];by_cases e:n=x
   .subst e;rw[ak rfl];exact((I.aw n w).more af).snoc ⟨hB _ (bH N),by show 0<=((l.length:Nat):Int);omega,by show((l.length:Nat):Int)<((l.length+1:Nat):Int);omega⟩ L
   .rw[az e];exact(I.aw x w).more af
  .have e:x=l.length:=af;subst e;rw[G];exact⟨ah,λa L=>by cases L⟩
 .rw[cS,aW N];exact(I.pb.mono z).snoc (by rw[K n O,ak rfl];simp)
 .obtain⟨m,m0,m1,m2,m3⟩:=I.c4 C U k P W S;refine⟨λx=>if x=l.length then Gl (mC C) B (i+1) else m x,?_,?_,by simp,λx H a q=> ?_⟩
  .show(if 0=l.length then _ else _)=0;rw[az af];exact m0
  .show(if A.length=l.length then _ else _)=k;rw[az af];exact m1
  .rw[R] at H;by_cases w:x<l.length
   .rw[K x w] at q;have old:∀b∈l.getD x [],(b.aV,if b.To.toNat=l.length then Gl (mC C) B (i+1) else m b.To.toNat)∈j9 C (if x=l.length then Gl (mC C) B (i+1) else m x):=λb D=>by
     have:=((I.aw x w).ok b D).2;rw[az af,az af];exact m3 x w b D
    by_cases e:n=x
    .subst e;rw[ak rfl] at q;rcases bn.1 q with q|q
     .exact old a q
     .simp at q;subst q;show(B[i],if((l.length:Nat):Int).toNat=l.length then _ else _)∈j9 C (if n=l.length then _ else _);rw[bf,ak rfl,az af,m2];exact qv P.Gm S N
    .rw[az e] at q;exact old a q
   .have e:x=l.length:=af;subst e;rw[G] at q;cases q
include hB MJ hnp in
theorem SI.last {n i:Nat} {D:List (List bD)} (I:SI F A B n i D) (K:i+1=B.length):fa (D.getD n []) (B[i]'(by omega))=none:=by
 rcases I.ph with h|⟨rfl,H,z,rfl⟩
 .rw[h];rfl
 .cases e:fa ((yZ A).getD n []) (B[n]'(by omega)) with
  |none=>rfl
  |some a=>
   exfalso;obtain⟨l,w⟩:=Lp e;have q:n<A.length:=by
    by_cases h:n<A.length
    .exact h
    .rw[AR af] at l;cases l
   rw[tL q] at l;simp at l;subst l;have w:A[n]=B[n]'(by omega):=w;apply hnp
   have:B=A.take (n+1):=by have G:B.take (n+1)=B:=jS af;rw[<-G,cS,cS,z,aW (by omega:n<B.length),aW q,w]
   rw[this];exact List.take_prefix _ _
include hA hB MJ hnp Vf Nv hF in
theorem SI.fin {n i:Nat} {q:List (List bD)} (I:SI F A B n i q) (hi:i+1=B.length) {g:FSt} (hg:g=⟨List.zipWith W8 (replicate q.length ⟨0,[]⟩) (q.set n (q.getD n []++[⟨B[i]'(by omega),(A.length:Nat)⟩]))⟩):
  ∃f,f421 g=some (f,0)/\Nt F A B f:=by
 have hno:=I.last hB MJ hnp hi;have hib:i<B.length:=af;generalize hzs:q.set n (q.getD n []++[⟨B[i]'(by omega),(A.length:Nat)⟩])=P at hg;have hzl:P.length=q.length:=by rw[<-hzs];simp
 have L:∀x,P.getD x []=if n=x then q.getD n []++[⟨B[i],(A.length:Nat)⟩] else q.getD x []:=λx=>by rw[<-hzs];exact add_get I.UG
 have N:∀x,∀b∈q.getD x [],b∈P.getD x []:=λx=>by rw[<-hzs];exact NR I.UG x
 have hIl:=I.len;have hIle:=I.le;have K:∀x,x<q.length->AW F q.length (P.getD x []):=λx l=>by
  rw[L];by_cases e:n=x
  .subst e;rw[ak rfl];exact(I.aw n l).snoc ⟨hB _ (bH hib),by show 0<=((A.length:Nat):Int);omega,by show((A.length:Nat):Int)<((q.length:Nat):Int);omega⟩ hno
  .rw[az e];exact I.aw x l
 have hgl:g.au.length=q.length:=by rw[hg];simp[hzl]
 have W:∀x,x<q.length->g.au[x]? =some ⟨0,P.getD x []⟩:=λx l=>by rw[hg];show(List.zipWith _ _ _)[x]? =_;rw[List.getElem?_zipWith,ja,ak l,aW (by omega:x<P.length),bQ,aW (by omega:x<P.length)];rfl
 have S:∀y∈g.au,∃x,x<q.length/\y=⟨0,P.getD x []⟩:=λy V=>by obtain⟨x,l⟩:=fG.1 V;have G:=(bp.1 l).1;rw[hgl] at G;rw[W x G] at l;exact⟨x,G,(eO l).symm⟩
 have hfg:uG g:=by refine⟨af,by omega,λy V=> ?_⟩;obtain⟨x,l,rfl⟩:=S y V;refine⟨gu 0,λa D=> ?_,(K x l).nd⟩;have:=(K x l).ok a D;rw[hgl];exact⟨this.1.1,this.2.1,this.2.2⟩
 have hs:∀y∈g.au,y.cG.length<=1000000:=λy V=>by obtain⟨x,l,rfl⟩:=S y V;have:=(K x l).len;show(P.getD x []).length<=_;omega
 rcases VI hs with⟨_,e⟩|⟨hno,_⟩
 .have O:∀x,x<q.length->Au g x=(Ct (P.getD x [])).map λa=>(a.aV,a.To.toNat):=λx l=>by unfold Au;rw[W x l]
  have hty:∀x,x<q.length->qT g x=0:=λx l=>by unfold qT;rw[W x l]
  have z:GO 1 F (y6 g) q.length:=by
   refine⟨λx l p H=> ?_,λx l=> ?_,λx l p H=> ?_,λx l=> ?_⟩
   .have H:p∈Au g x:=H;rw[O x l] at H;obtain⟨a,D,rfl⟩:=aA.1 H;have:=((K x l).Ct.ok a D).2;show a.To.toNat<_;omega
   .show vK (Au g x);rw[O x l];unfold vK;rw[fR];exact(K x l).Ct.x5
   .have H:p∈Au g x:=H;rw[O x l] at H;obtain⟨a,D,rfl⟩:=aA.1 H;exact((K x l).Ct.ok a D).1
   .show 0<=qT g x/\qT g x<_;rw[hty x l];omega
  have Q:0<q.length:=af;have U:∀{π:List Int} {x y:Nat},x<q.length->Mf P x π y->wq (y6 g) x π=some y:=by intro π;induction π with
   |nil=>intro x y _ h;cases h;rfl
   |cons f π ih=>
    intro x y l h;obtain⟨w,hw,h⟩:=h;have hm:(f,w)∈(y6 g).sc x:=by show _∈Au g x;rw[O x l];exact aA.2 ⟨_,(oI _).2.2 _|>.2 hw,ah⟩
    have hwl:w<q.length:=z.bd x l _ hm;show(match NC ((y6 g).sc x) f with|some k=>wq (y6 g) k π|none=>none)=_;rw[(qm (z.x5 x l)).2 hm];exact ih hwl h
  have hPA:=U Q (I.pa.mono N);have hPB:wq (y6 g) 0 B=some A.length:=by
   have hb:B.take i++[B[i]]=B:=by have:=jS (by omega:B.length<=i+1);rw[cS,aW hib] at this;exact this
   have:=U Q ((I.pb.mono N).snoc (f:=B[i]) (z:=A.length) (by rw[L,ak rfl];simp));rwa[hb] at this
  have hc:Can 1 F (jG (y6 g) q.length 0):=Jv z Q;have hh:=Lz (sb:=I6) z Q QZ.refl;have R:∀i,yY (y6 g).sc 0 i->vK ((y6 g).sc i):=λi hi=>z.x5 i (hi.lt z.bd Q)
  have qA:=(EL hh R hc.Gm A 0 _ .root hPA).2;have qB:=(EL hh R hc.Gm B 0 _ .root hPB).2;have q0:(ij (y6 g) q.length 0).idxOf 0=0:=hh.1;simp only[q0] at qA qB;refine⟨_,e,?_⟩;rw[hgl];refine⟨hc,⟨_,qA,qB⟩,λC T' sb hT hC hk=> ?_⟩;obtain⟨k,k1,k2⟩:=hk;obtain⟨m,m0,m1,m2,m3⟩:=I.c4 C T' k hC k1 k2;refine le_zero hT hc hC ?_;have hl:(replicate C.au.length (0:Int)).length=C.au.length:=ah;have esc:(mC (DZ C (replicate C.au.length 0))).sc=(mC C).sc:=Fw hl;have ety:∀y,(mC (DZ C (replicate C.au.length 0))).ty y=0:=λy=>by
   show qT _ y=0;by_cases V:y<C.au.length
   .rw[KN hl V,bQ,ja,ak V];rfl
   .unfold qT;rw[fE (by rw[A2 hl];omega)]
  have hm:CU I6 (y6 g) 0 (mC (DZ C (replicate C.au.length 0))) 0 m:=by
   refine⟨m0,λx l=>⟨⟨hty x (l.lt z.bd Q),ety _⟩,λp H=> ?_⟩⟩;have G:=l.lt z.bd Q;have H:p∈Au g x:=H;rw[O x G] at H;obtain⟨a,D,rfl⟩:=aA.1 H;have D:=(oI _).2.2 a|>.1 D
   rw[esc];rw[L] at D;by_cases e2:n=x
   .subst e2;rw[ak rfl] at D;rcases bn.1 D with D|D
    .exact m3 n G a D
    .simp at D;subst D;show(B[i],m ((A.length:Nat):Int).toNat)∈j9 C (m n);rw[bf,m1,m2];have:=qv hC.Gm k2 hib;have e3:Gl (mC C) B (i+1)=k:=by rw[hi];exact xH k2
     rw[e3] at this;exact this
   .rw[az e2] at D;exact m3 x G a D
  exact⟨_,CU.comp (s1:=I6) (s2:=I6) (s3:=I6) (λa b=>QZ.trans a b) (Ld z Q QZ.refl) hm⟩
 .exact absurd hfg hno
include hA hB MJ hnp Vf Nv hF in
theorem RI {o4:FSt}:∀(k i n:Nat) (l:List (List bD)),B.length=i+1+k->SI F A B n i l->∃f,nR A B (n:Int) (i:Int) o4 (replicate l.length ⟨0,[]⟩) (l.map some)=some f/\Nt F A B f:=by intro k;induction k with
 |zero=>
  intro i n l hi I;have q:=I.UG;have L:=I.le;have w:i<B.length:=af;have N:=(I.aw n q).len;obtain⟨f,H,K⟩:=I.fin hA hB Vf Nv hF MJ hnp af rfl;refine⟨f,HL ?_,K⟩;have R:wrap .i64 ((B.length:Int)-1)=(i:Int):=by rw[jM af af];omega
  rw[cQ af,cond_neg (by rw[bM];omega),yc (by simpa using q),bf,DT q,R,eY w,cu _ af ah af,bJ ⟨af,by simpa using q⟩,bJ (by simpa using q),List.set_set];rw[rA];have Q:(l.map some).set n (some (l.getD n []++[⟨B[i],(A.length:Nat)⟩]))=(l.set n (l.getD n []++[⟨B[i],(A.length:Nat)⟩])).map some:=by rw[gq]
  rw[Q];show Mg W8 _ _ _=_;rw[Mh ah,H,aI]
 |succ k V=>
  intro i n l hi I;have q:=I.UG;have L:=I.le;have w:i<B.length:=af;have N:=(I.aw n q).len
  have pre:∀r,(bif(decide (((match fa (l.getD n []) B[i] with|some a=>a.To|none=> -1):Int)<0)) then(
    check (0<=(n:Int)/\toNat (n:Int)<length (replicate l.length (⟨0,[]⟩:Node))) (
    KC (l.map some) (toNat (n:Int)) λz G=>
    bF B (i:Int) λD=>
    check ((length z+length [(bD.mk D ((length (replicate l.length (⟨0,[]⟩:Node)):Int)))]) *16<=140737488355328/\length z+length [(bD.mk D ((length (replicate l.length (⟨0,[]⟩:Node)):Int)))]<=4611686018427387904) (
    check (0<=(n:Int)/\toNat (n:Int)<length (replicate l.length (⟨0,[]⟩:Node))) (
    check ((toNat (n:Int))<length G) (uD (List.set G (toNat (n:Int)) (some (z++[(bD.mk D ((length (replicate l.length (⟨0,[]⟩:Node)):Int)))]))) λO=>
    check ((length (replicate l.length (⟨0,[]⟩:Node))+length [(Node.mk 0 ([]:List bD))]) *32<=140737488355328/\length (replicate l.length (⟨0,[]⟩:Node))+length [(Node.mk 0 ([]:List bD))]<=4611686018427387904) (
    uD (O++[some []]) λP=>
    nR A B ((length (replicate l.length (⟨0,[]⟩:Node)):Int)) ((i+1:Nat):Int) o4 ((replicate l.length (⟨0,[]⟩:Node))++[(Node.mk 0 ([]:List bD))]) P))))))
    else nR A B (match fa (l.getD n []) B[i] with|some a=>a.To|none=> -1) ((i+1:Nat):Int) o4 (replicate l.length ⟨0,[]⟩) (l.map some))=some r->nR A B (n:Int) (i:Int) o4 (replicate l.length ⟨0,[]⟩) (l.map some)=some r:=λr U=>by
   refine HL ?_;rw[cQ af,cond_pos (by rw[bG];omega),yc (by simpa using q),bJ (by simpa using q),eY w,bf,Qa q,c468 af,aI];rw[bf] at U;exact U
  cases e:fa (l.getD n []) B[i] with
  |some a=>
   obtain⟨h1,h2⟩:=I.go hB w e;obtain⟨f,H,K⟩:=V (i+1) a.To.toNat l af h2;refine⟨f,pre f ?_,K⟩;rw[e];simp only[];rw[cond_neg (by rw[bM];omega)]
   have:((a.To.toNat:Nat):Int)=a.To:=af
   rw[this] at H;exact H
  |none=>
   have W:=I.new hB w e;obtain⟨f,H,K⟩:=V (i+1) l.length _ af W;refine⟨f,pre f ?_,K⟩;rw[e];simp only[];rw[cond_pos (by rfl),yc (by simpa using q),bf,DT q,eY w,cu _ af ah af,bJ ⟨af,by simpa using q⟩,bJ (by simpa using q),List.set_set];rw[rA,cu _ aX ah af,rA,kZ];have Q:(l.map some).set n (some (l.getD n []++[(⟨B[i],(l.length:Nat)⟩:bD)]))++[some []]=(l.set n (l.getD n []++[(⟨B[i],(l.length:Nat)⟩:bD)])++[[]]).map some:=by rw[bw,gq];rfl
   rw[Q,<-nk];have S:(l.set n (l.getD n []++[(⟨B[i],(l.length:Nat)⟩:bD)])++[[]]).length=l.length+1:=ah;rw[S] at H;exact H
include hA hB MJ hnp Vf Nv hF in
theorem c439:∃f,f439 A B=some f/\Nt F A B f:=by
 have K:0<B.length:=List.length_pos_iff.2 MJ;obtain⟨f,D,H⟩:=RI hA hB Vf Nv hF MJ hnp (o4:=⟨[]⟩) (B.length-1) 0 0 (yZ A) af (SI.init hA);refine⟨f,e439 ?_,H⟩;rw[cu _ ah ah af];unfold uD;have q:(yZ A).length=A.length+1:=by simp[yZ]
 rw[q] at D;have key:∀(k i:Nat),A.length=i+k->vW A B (i:Int) ⟨[]⟩ (replicate (i+1) ⟨0,[]⟩) ((((yZ A).take i)++[[]]).map some)=some f:=by intro k;induction k with
  |zero=>
   intro i L;have e:i=A.length:=af;subst e;refine LK ?_;rw[cond_neg (by rw[bM];omega)]
   have:(yZ A).take A.length++[[]]=yZ A:=by
    have I:(yZ A).drop A.length=[[]]:=by apply je;intro j;rw[qV];cases j with
     |zero=>simp[yZ]
     |succ j=>rw[fE (by rw[q];omega)];simp
    rw[<-I,kX]
   rw[this];exact D
  |succ k N=>
   intro i L;have l:i<A.length:=af;refine LK ?_;rw[cond_pos (by rw[bG];omega),eY l,yc ah,bJ (by simp[q];omega),bf];rw[rA,cu _ aX ah af,cQ af,<-nk];have:=N (i+1) af;have G:((((yZ A).take i)++[[]]).map some).set i (some [⟨A[i],((i+1:Nat):Int)⟩])++[some []]=(((yZ A).take (i+1))++[[]]).map some:=by
    have z:((yZ A).take i).length=i:=by rw[gB,q];omega
    have w:(yZ A)[i]? =some [⟨A[i],((i+1:Nat):Int)⟩]:=by have:=tL l;rw[bQ,aW (by omega:i<(yZ A).length)] at this;rw[aW (by omega:i<(yZ A).length)];exact aC some this
    rw[bw,mU _ _ aX,cS,w]
    have:i-(((yZ A).take i).map some).length=0:=by rw[aR,z];omega
    rw[this];simp
   rw[G,rA];exact this
 have:=key A.length 0 af;simpa using this
end
end Go.Proofs.YthppjmoncapdfaaGreatDoor.cl.pf
namespace Go.Proofs.YthppjmoncapdfaaGreatDoor.cl.pf
open Go Go.AM
def QU (l:List bD):List Int:=l.flatMap λa=>[a.aV,a.To]
def QV (x:Node):List Int:=[x.ef,(x.cG.length:Int)]++QU x.cG
def Tc (f:FSt):List Int:=(f.au.length:Int)::f.au.flatMap QV
def LR (l:List bD):(QU l).length=2 *l.length:=by induction l with
 |nil=>rfl
 |cons a l q=>simp only[QU,nt,cC,aT,cL] at q⊢;omega
def LQ:∀{l m:List bD} {x y:List Int},l.length=m.length->QU l++x=QU m++y->l=m/\x=y
 |[],[],x,y,_,h=>⟨rfl,by simpa[QU] using h⟩
 |a::l,b::m,x,y,q,h=>by simp only[QU,nt,eM,er,cU] at h;obtain⟨G,H,D⟩:=h;obtain⟨w,z⟩:=LQ (l:=l) (m:=m) (by simpa using q) D;exact⟨by rw[w];congr 1;cases a;cases b;simp_all,z⟩
 |[],b::m,_,_,q,_=>by simp at q
 |a::l,[],_,_,q,_=>by simp at q
def R1 {a b:Node} {x y:List Int} (h:QV a++x=QV b++y):a=b/\x=y:=by simp only[QV,eM,er,cU] at h;obtain⟨z,D,q⟩:=h;obtain⟨w,l⟩:=LQ af q;exact⟨by cases a;cases b;simp_all,l⟩
def LS:∀{l m:List Node} {x y:List Int},l.length=m.length->l.flatMap QV++x=m.flatMap QV++y->l=m/\x=y
 |[],[],x,y,_,h=>⟨rfl,by simpa using h⟩
 |a::l,b::m,x,y,q,h=>by rw[nt,nt,eo,eo] at h;obtain⟨w,G⟩:=R1 h;obtain⟨z,D⟩:=LS (by simpa using q) G;exact⟨by rw[w,z],D⟩
 |[],b::m,_,_,q,_=>by simp at q
 |a::l,[],_,_,q,_=>by simp at q
def RY {a b:FSt} {x y:List Int} (h:Tc a++x=Tc b++y):a=b:=by simp only[Tc,eM,cU] at h;obtain⟨q,l⟩:=h;have:=(LS af l).1;cases a;cases b;simp_all
structure Sm (f:FSt):Prop where
 n:f.au.length<=5000
 a:∀x∈f.au,x.cG.length<=1000
def TZ {f:FSt} {i:Nat} {res:List Int} {l:List bD} (G:l.length<=1000):∀(xs:List bD) (k:Nat) (o:List Int),l.drop k=xs->o.length+2 *xs.length<=100000000->
  CF (wrap .i64 ((i:Int)+1)) f (o++QU xs)=some res->F7 (i:Int) l (k:Int) f o=some res:=by
 intro xs;induction xs with
 |nil=>intro k o q _ w;refine PC ?_;rw[dA q,aj];simpa[QU] using w
 |cons x xs D=>intro k o q z w;refine PC ?_;rw[cN q,ai,bN q,bN q,cu _ (by simp at z;omega) ah af,dF q af];refine D (k+1) _ (cg q) (by simp at z⊢;omega) ?_;simpa[QU] using w
def TY {f:FSt} (w:Sm f):∀(xs:List Node) (i:Nat) (o:List Int),f.au.drop i=xs->o.length+2002 *xs.length<=100000000->CF (i:Int) f o=some (o++xs.flatMap QV):=by intro xs;induction xs with
 |nil=>intro i o l _;refine PB ?_;rw[dA l,aj];simp
 |cons x xs D=>intro i o l q;have z:=w.a x (aS (dP l));have G:=w.n;refine PB ?_;rw[cN l,ai,bN l,bN l,cu _ (by simp at q;omega) ah af];refine TZ z x.cG 0 _ rfl (by simp at q⊢;omega) ?_;rw[dF l af,D (i+1) _ (cg l) (by simp[LR] at q⊢;omega)];simp[QV]
def VK {f:FSt} (l:Sm f):f432 f=some (Tc f):=by refine e432 ?_;exact TY l f.au 0 [(f.au.length:Int)] rfl (by have:=l.n;simp;omega)
def LU:∀{l:List Node},(∀x∈l,x.cG.length<=1000)->(l.flatMap QV).length<=2002 *l.length
 |[],_=>by simp
 |x::l,h=>by
  have w:=h x ah;have z:=LU (l:=l) λy q=>h y (by simp[q])
  rw[nt,cC,aT];simp only[QV,cC,aT,cL,LR];omega
def RZ {f:FSt} (l:Sm f):(Tc f).length<=1000000000:=by have:=LU l.a;have:=l.n;simp only[Tc,aT];omega
def h418 {l m:List Int} (L:l.length<=1000000000):∀(xs z:List Int) (i:Nat),l.drop i=xs->m.drop i=z->∃r,FX l m (i:Int)=some r/\(r=0↔∃x y,xs++x=z++y):=by intro xs;induction xs with
 |nil=>intro z i q w;refine⟨0,BV ?_,⟨λ_=>⟨z,[],ah⟩,λ_=>rfl⟩⟩;rw[dA q,aj]
 |cons a xs K=>intro z i q w;cases z with
  |nil=>refine⟨0,BV ?_,⟨λ_=>⟨[],a::xs,ah⟩,λ_=>rfl⟩⟩;rw[cN q,ai,dA w,aj]
  |cons b z=>
   by_cases D:a<b
   .refine⟨-1,BV ?_,⟨λe=>by omega,λ⟨x,y,e⟩=>by simp at e;omega⟩⟩;rw[cN q,ai,cN w,ai,bN q,bN w,cond_pos (by rw[bG];exact D)]
   by_cases G:a>b
   .refine⟨1,BV ?_,⟨λe=>by omega,λ⟨x,y,e⟩=>by simp at e;omega⟩⟩;rw[cN q,ai,cN w,ai,bN q,bN w,cond_neg (by rw[bM];exact D),bN q,bN w,cond_pos (by rw[bG];exact G)]
   have e:a=b:=af;obtain⟨r,H,I⟩:=K z (i+1) (cg q) (cg w);refine⟨r,BV ?_,I.trans ?_⟩
   .rw[cN q,ai,cN w,ai,bN q,bN w,cond_neg (by rw[bM];exact D),bN q,bN w,cond_neg (by rw[bM];exact G),dF q af];exact H
   .subst e;simp
def VH {a b:FSt} (l:Sm a) (z:Sm b):∃r,f407 a b=some r/\(r=true↔a=b):=by obtain⟨r,q,w⟩:=h418 (l:=Tc a) (m:=Tc b) (RZ l) _ _ 0 rfl rfl;have D:f418 a b=some r:=e418 (by rw[VK l,aI,VK z,aI];exact q);refine⟨r==0,e407 (by rw[D,aI]),?_⟩;rw[mV,w];exact⟨λ⟨x,y,e⟩=>RY e,λe=>⟨[],[],by rw[e]⟩⟩
def Rq {a:FSt} (l:Sm a):f407 a a=some true:=by obtain⟨r,q,w⟩:=VH l l;rw[q,w.2 rfl]
def Sd {f:FSt} (h:∀x∈f.au,y7 x.cG):y6 f=mC f:=by
 unfold y6 mC;congr 1;funext n;by_cases l:n<f.au.length
 .rw[vz l,zB l,UX (h _ (bH l))];rfl
 .rw[Fy af];unfold Au;rw[fE af]
def InB (T F:Nat) (x:Node):Prop:=x.ef<(T:Int)/\∀a∈x.cG,a.aV<(F:Int)
def UW {T F:Nat} {f:FSt} (w:uG f) (G:∀x∈f.au,x.cG.length<=1000) (D:∀x∈f.au,InB T F x):GO T F (y6 f) f.au.length:=by
 refine⟨FA (w.Ji λx H=>by have:=G x H;omega),λn l=> ?_,λn l p z=> ?_,λn l=> ?_⟩
 .show vK (Au f n);rw[vz l];have:=L5 (w.2.2 _ (bH l)).2.2;unfold vK;rw[fR];exact this
 .have z:p∈Au f n:=z;rw[vz l] at z;obtain⟨a,q,rfl⟩:=aA.1 z;have q:=(oI _).2.2 a|>.1 q
  exact⟨((w.2.2 _ (bH l)).2.1 a q).1,(D _ (bH l)).2 a q⟩
 .show 0<=qT f n/\_;have e:(y6 f).ty n=f.au[n].ef:=vD l;rw[e,vD l];exact⟨(w.2.2 _ (bH l)).1,(D _ (bH l)).1⟩
def Can.sr {T F:Nat} {f:FSt} (h:Can T F f):jG (y6 f) f.au.length 0=f:=by rw[Sd λx l=>(h.ao l).x5];exact h.eq.symm
def Can.sm {T F:Nat} {f:FSt} (h:Can T F f) (l:f.au.length<=5000) (hF:F<=1000):Sm f:=⟨l,λx q=>by have:=(h.ao q).len;omega⟩
def TC {T F:Nat} {f:FSt} (l:uG f) (w:∀x∈f.au,x.cG.length<=1000) (q:∀x∈f.au,InB T F x):f=jG (y6 f) f.au.length 0↔Can T F f:=
 ⟨λe=>by
  have:=Jv (UW l w q) l.1
  rw[<-e] at this;exact this,λh=>h.sr.symm⟩
def UT {f:FSt} (q:uG f) (D:∀x∈f.au,x.cG.length<=1000):Sm (jG (y6 f) f.au.length 0):=by have hB:=FA (q.Ji λx z=>by have:=D x z;omega);have w:=rF (G:=y6 f) hB q.1;have H:=uw w.nd w.lt;refine⟨by rw[BA];have:=q.2.1;omega,λx z=> ?_⟩;obtain⟨n,G,rfl⟩:=aA.1 z;have l:=w.lt n G;have e:(y6 f).sc n=_:=vz l;simp only[aR,e,(oI _).2.1];exact D _ (bH l)
structure Jb (f:FSt):Prop where
 n:f.au.length<=12
 a:∀x∈f.au,x.cG.length<=12
def c413 (f:FSt):∃r,f413 f=some r/\(r=true->Jb f):=by
 by_cases H:f.au.length>12
 .refine⟨false,e413 ?_,λe=>by cases e⟩;rw[cond_pos (by rw[bG];omega)]
 have key:∀(xs:List Node) (i:Nat),f.au.drop i=xs->∃r,FW (i:Int) f=some r/\(r=true->∀x∈xs,x.cG.length<=12):=by intro xs;induction xs with
  |nil=>intro i l;refine⟨true,J5 ?_,λ_ x D=>by cases D⟩;rw[dA l,aj]
  |cons x xs G=>
   intro i l;by_cases I:x.cG.length>12
   .refine⟨false,J5 ?_,λe=>by cases e⟩;rw[cN l,ai,bN l,cond_pos (by rw[bG];omega)]
   .obtain⟨r,q,w⟩:=G (i+1) (cg l);refine⟨r,J5 ?_,λe y z=> ?_⟩
    .rw[cN l,ai,bN l,cond_neg (by rw[bM];omega),dF l af];exact q
    .rcases aD.1 z with rfl|z
     .omega
     .exact w e y z
 obtain⟨r,q,w⟩:=key f.au 0 rfl;refine⟨r,e413 ?_,λe=>⟨af,w e⟩⟩;rw[cond_neg (by rw[bM];omega)];exact q
def Jb.sm {f:FSt} (h:Jb f):Sm f:=⟨by have:=h.n;omega,λx l=>by have:=h.a x l;omega⟩
structure Val (T F:Nat) (f:FSt):Prop where
 lt:Jb f
 can:Can T F f
def c398 (f:FSt):∃r,f398 f=some r/\(r=true->Val 256 64 f):=by obtain⟨r,P,R⟩:=c413 f;cases r with
 |false=>exact⟨false,e398 (by rw[P,aI];rfl),λe=>by cases e⟩
 |true=>
  have G:=R rfl;have H:∀x∈f.au,x.cG.length<=1000:=λx q=>by have:=G.a x q;omega
  have hn:=G.n;have inner:∀{i:Nat} {x:Node} (q:f.au[i]? =some x) {Q:Prop},(∃r,Cy (wrap .i64 ((i:Int)+1)) f=some r/\(r=true->Q))->∀(xs:List bD) (k:Nat),x.cG.drop k=xs->
    ∃r,FO (i:Int) (k:Int) f=some r/\(r=true->(∀a∈xs,a.aV<64)/\Q):=by
   intro i x q Q W xs;have hxl:=H x (aS q);induction xs with
   |nil=>intro k l;obtain⟨r,z,w⟩:=W;refine⟨r,J1 ?_,λe=>⟨λa I=>by(cases I),w e⟩⟩;rw[ff q,dA l,aj];exact z
   |cons a xs O=>
    intro k l;by_cases D:a.aV>=64
    .refine⟨false,J1 ?_,λe=>by cases e⟩;rw[ff q,cN l,ai,ff q,bN l,cond_pos (by rw[bG];exact D)]
    .obtain⟨r,z,w⟩:=O (k+1) (cg l);refine⟨r,J1 ?_,λe=>⟨λb K=> ?_,(w e).2⟩⟩
     .rw[ff q,cN l,ai,ff q,bN l,cond_neg (by rw[bM];exact D),dF l af];exact z
     .rcases aD.1 K with rfl|K
      .omega
      .exact(w e).1 b K
  have key:∀(xs:List Node) (i:Nat),f.au.drop i=xs->∃r,Cy (i:Int) f=some r/\(r=true->(∀x∈xs,InB 256 64 x)/\uG f/\f=jG (y6 f) f.au.length 0):=by intro xs;induction xs with
   |nil=>
    intro i l;rcases VI (f:=f) (λx q=>by have:=H x q;omega) with⟨L,z⟩|⟨L,e,V,z⟩
    .obtain⟨r,w,q3⟩:=VH (UT L H) G.sm;refine⟨r,ER ?_,λe=>⟨λx q=>by(cases q),L,(q3.1 e).symm⟩⟩;rw[dA l,aj,z,aI,cond_pos (by rfl),w,aI]
    .refine⟨false,ER ?_,λe=>by cases e⟩;rw[dA l,aj,z,aI,cond_neg (by rw[kY];exact V)]
   |cons x xs O=>
    intro i l;have q:=dP l;by_cases D:x.ef>=256
    .refine⟨false,ER ?_,λe=>by cases e⟩;rw[cN l,ai,bN l,cond_pos (by rw[bG];exact D)]
    .obtain⟨r,z,w⟩:=inner q (by rw[dF l af];exact O (i+1) (cg l)) x.cG 0 rfl;refine⟨r,ER ?_,λe=>⟨λy N=> ?_,(w e).2.2⟩⟩
     .rw[cN l,ai,bN l,cond_neg (by rw[bM];exact D)];exact z
     .rcases aD.1 N with rfl|N
      .exact⟨by show y.ef<((256:Nat):Int);omega,λa I=>(w e).1 a I⟩
      .exact(w e).2.1 y N
  obtain⟨r,z,w⟩:=key f.au 0 rfl;refine⟨r,e398 (by rw[P,aI,cond_neg (by rfl)];exact z),λe=>⟨G,?_⟩⟩;obtain⟨D,S,U⟩:=w e;exact(TC S H D).1 U
end Go.Proofs.YthppjmoncapdfaaGreatDoor.cl.pf
namespace Go.Proofs.YthppjmoncapdfaaGreatDoor.cl.pf
open Go Go.AM
def Bm:∀l:List bD,rL (l.map bD.enc)=some (l.map λa=>(a.aV,a.To))
 |[]=>rfl
 |x::l=>by show(rL _).map _=_;rw[Bm l];rfl
