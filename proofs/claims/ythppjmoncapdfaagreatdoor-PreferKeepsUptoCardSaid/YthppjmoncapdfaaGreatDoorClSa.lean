/- The Closure laws. -/
import Derived.Test.YthppjmoncapdfaaGreatDoorClNd
import Derived.Test.YthppjmoncapdfaaGreatDoorClT
set_option linter.all false
open Go.IntKind (wrap)
open BitVec (ofInt)
open Int (toNat)
namespace Go.Proofs.YthppjmoncapdfaaGreatDoor.cl
open Go Go.AM
noncomputable def bn (d:List aA) (w:Nat):List cK:=(bitsOf w).map λi=>(ij d).getD i []
noncomputable def nmW (d:List aA) (w:Nat):cK:=Bt d (ij d) (nW d) w
def Rf {d:List aA} {w:Nat}:∀(ss:List cK) (q:List Nat) (i:Nat) (l:List cK) (k:Nat),ss.length=q.length->gJ (λc=>c==w) q i=(k:Int)->i<=k/\ss[k-i]? =some (mj d w ss q i l):=by intro ss;induction ss with
 |nil=>intro q i l k z h;have :=oI.1 z.symm;subst this;have D:(-1:Int)=(k):=h;omega
 |cons s ss B=>intro q i l k z h;cases q with
  |nil=>simp at z
  |cons c q=>
   rw[gJ] at h;simp[mj];by_cases e:c=w
   .grind
   .rw[show(c==w)=false by simp_all] at h;rw[aq e];obtain⟨F,G⟩:=B _ _ _ k (by simp_all) h;refine⟨af,?_⟩;rw[show k-i=(k-(i+1))+1 by omega,qS];omega
def Ng {d:List aA} {w:Nat}:∀(ss:List cK) (q:List Nat) (i:Nat) (l:List cK),ss.length=q.length->(∀c∈q,c≠w)->mj d w ss q i l=rT [38] (uX d (l++((List.range ss.length).filter λj=>w.testBit (i+j)).map λj=>ss.getD j [])):=by intro ss;induction ss with
 |nil=>grind[mj]
 |cons s ss D=>intro q i l B h;cases q with
  |nil=>simp at B
  |cons c q=>
   simp only[mj];rw[bg,List.range_succ_eq_map];have e:((List.range ss.length).filter ((λj=>w.testBit (i+j))∘Nat.succ)).map ((λj=>(s::ss).getD j [])∘Nat.succ)=((List.range ss.length).filter λj=>w.testBit (i+1+j)).map λj=>ss.getD j []:=by
    have e1:((λj=>w.testBit (i+j))∘Nat.succ)=λj=>w.testBit (i+1+j):=by funext j;simp;congr 1;omega
    have z:((λj=>(s::ss).getD j [])∘Nat.succ)=λj=>ss.getD j _:=rfl
    rw[e1,z]
   grind
def L7 {w n:Nat} (B:n<=64) (h:∀i,w.testBit i=true->i<n):bitsOf w=(List.range n).filter w.testBit:=by
 unfold bitsOf;have z:=List.range_add (n:=n) (m:=64-n)
 have:List.filter w.testBit (List.map (n+ ·) (List.range (64-n)))=[]:=by rw[xy];intro j q l;obtain⟨i,_,rfl⟩:=aC.1 q;have:=h _ l;omega
 simp_all
structure Dn (d:List aA) (w:Nat):Prop where
 lt:∀i,w.testBit i=true->i<(ij d).length
 dn:∀i j,i<(ij d).length->j<(ij d).length->w.testBit i=true->Le d ((ij d).getD i []) ((ij d).getD j [])->w.testBit j=true
def ZF {d:List aA} (x:cK):Dn d (cw d (ij d) x):=
 ⟨λi h=>(ye.1 h).1,λi j w l h q=>ye.2 ⟨l,rR.trans (ye.1 h).2 q⟩⟩
def dn_and {d:List aA} {a b:Nat} (l:Dn d a) (B:Dn d b):Dn d (a&&&b):=by
 refine⟨λi h=> ?_,λi j q w h z=> ?_⟩
 .rw[iL,aI] at h;exact l.lt i h.1
 .rw[iL,aI] at h⊢;exact⟨l.dn i j q w h.1 z,B.dn i j q w h.2 z⟩
def ym {w i:Nat} (l:w<18446744073709551616):i∈bitsOf w↔w.testBit i=true:=by unfold bitsOf;rw[cG,eH];refine⟨λh=>h.2,λh=>⟨?_,h⟩⟩;apply dm;intro q;rw[xL (eM l (xM (n:=2) (i:=64) af af))] at h;cases h
theorem bn_SS {d:List aA} {w:Nat} (h:∀i,w.testBit i=true->i<(ij d).length):SS (bn d w):=by have G:=mW.1 (lI (jF d));unfold bn SS;rw[gT];have F:(bitsOf w).Pairwise _:=(CS).sublist xR;refine F.imp_of_mem ?_;intro a b l B z;have q:=h a (cG.1 l).2;have D:=h b (cG.1 B).2;simp_all
def Zk {d:List aA} {w:Nat} (h:∀i,w.testBit i=true->i<(ij d).length):∀x∈bn d w,x∈jF d:=by intro x q;obtain⟨i,l,rfl⟩:=aC.1 q;exact Qo (h i (cG.1 l).2)
def GM {d:List aA} {w:Nat} (h:∀i,w.testBit i=true->i<(ij d).length):uX d (bn d w)=(bn d w).filter (rf d (bn d w)):=by
 have q:(bn d w).filter (λs=>decide _)=bn d w:=CL.2 λx l=>by simpa using Zk h x l
 grind[SS.ext,lI,bn_SS,gu,uX]
def AP {d:List aA} {l:List cK} {x:cK}:rf d l x=true↔∀y∈l,Le d y x->y=x:=by unfold rf;grind
def EI {d:List aA} (A:Acc d) {l:List cK}:∀x∈l,∃m∈l.filter (rf d l),Le d m x:=by
 obtain⟨r,B⟩:=A.rk;have key:∀(n) (x),r x=n->x∈l->∃m∈l.filter (rf d l),Le d m x:=by intro n;induction n using Nat.strongRecOn with
  |_ n I=>
   intro x e D;by_cases q:rf d l x=true
   .exact⟨x,cG.2 ⟨D,q⟩, .refl⟩
   .rw[AP] at q;obtain⟨y,F⟩:=Classical.not_forall.1 q;obtain⟨G,w⟩:=Classical.not_imp.1 F;obtain⟨z,H⟩:=Classical.not_imp.1 w
    have:r y<r x:=by
     rcases M6 B z with h|h
     .simp_all
     .exact h
    grind[rR.trans]
 simp_all
def SN {d:List aA} {w:Nat} (z:w<18446744073709551616) (D:Dn d w) {i:Nat} (B:i<(ij d).length):w.testBit i=true↔(ij d).getD i []∈bn d w:=by
 unfold bn;rw[aC];constructor
 .intro h;exact⟨i,(ym z).2 h,rfl⟩
 .rintro⟨j,F,e⟩;have l:=(ym z).1 F;have q:=D.lt j l;rw[aX,aX,aK B,aK q] at e;have:=(qU (lI _).nodup).1 e;simp_all
theorem ab8 {d:List aA} (A:Acc d) {w v:Nat} (I:w<18446744073709551616) (H:v<18446744073709551616) (B:Dn d w) (z:Dn d v) (h:uX d (bn d w)=uX d (bn d v)):w=v:=by
 have key:∀{w v:Nat},w<18446744073709551616->v<18446744073709551616->Dn d w->Dn d v->uX d (bn d w)=uX d (bn d v)->∀i,w.testBit i=true->v.testBit i=true:=by intro w v I H B z h i F;have l:=B.lt i F;obtain⟨m,G,L⟩:=EI A _ ((SN I B l).1 F);rw[<-GM B.lt,h,GM z.lt] at G;have D:=(cG.1 G).1;obtain⟨j,K,rfl⟩:=aC.1 D;have q:=(ym H).1 K;exact z.dn j i (z.lt j q) l q L
 apply qT;grind
def Wq {d:List aA} (A:Acc d) (B:d.length<=64) {x:cK} (I:x∈jF d):uX d (bn d (cw d (ij d) x))=[x]:=by
 have F:=nY (d:=d);have w:cw d (ij d) x<18446744073709551616:=ZD af;have D:=ZF (d:=d) x;rw[GM D.lt];have l:∀y,y∈(bn d (cw d (ij d) x)).filter (rf d (bn d (cw d (ij d) x)))↔y∈[x]:=by
  intro y;have K:x∈bn d (cw d (ij d) x):=by obtain⟨i,q,e⟩:=MN I;have h:=(SN w D q).1 (ye.2 ⟨q,by rw[e];exact .refl⟩);rw[e] at h;exact h
  have H:∀z∈bn d (cw d (ij d) x),Le d x z:=by intro z L;obtain⟨j,G,rfl⟩:=aC.1 L;exact(ye.1 ((ym w).1 G)).2
  rw[cG,AP];constructor
  .simp_all
  .grind[le_antisymm]
 refine SS.ext ?_ (by simp[SS]) l;exact(bn_SS D.lt).sublist xR
def QH {s:cK} (h:isName s=true):(38:UInt8)∉s:=by unfold isName at h;grind[nK,lowerB]
def cut38:∀{x l t q:cK},(38:UInt8)∉x->(38:UInt8)∉l->(t=[]\/∃u,t=38::u)->(q=[]\/∃u,q=38::u)->x++t=l++q->x=l/\t=q:=by intro x;induction x with
 |nil=>intro l t q w z B D h;cases l with
  |nil=>simp_all
  |cons c l=>simp_all
 |cons c x F=>intro l t q w z B D h;cases l with
  |nil=>grind
  |cons c' l=>grind
def Ei (l:List cK):vj l=[]\/∃u,vj l=38::u:=by cases l with
 |nil=>exact .inl rfl
 |cons x l=>simp_all[vj]
theorem Yx:∀{l q:List cK},(∀x∈l,(38:UInt8)∉x)->(∀x∈q,(38:UInt8)∉x)->vj l=vj q->l=q:=by intro l;induction l with
 |nil=>intro q _ _ h;cases q with
  |nil=>rfl
  |cons x q=>simp[vj] at h
 |cons x l B=>intro q w z h;cases q with
  |nil=>simp[vj] at h
  |cons D q=>
   have e:∀(y) (m),vj (y::m)=38::(y++vj m):=λy m=>by rfl
   rw[e,e,dM] at h;obtain⟨a,b⟩:=cut38 (w x ah) (z _ ah) (Ei l) (Ei _) h.2;grind
theorem X4 {l q:List cK} (D:l≠[]) (B:q≠[]) (w:∀x∈l,(38:UInt8)∉x) (z:∀x∈q,(38:UInt8)∉x) (h:rT [38] l=rT [38] q):l=q:=by cases l with
 |nil=>simp_all
 |cons x l=>cases q with
  |nil=>simp_all
  |cons F q=>rw[B3,B3] at h;obtain⟨a,b⟩:=cut38 (w x ah) (z _ ah) (Ei l) (Ei _) h;grind[Yx]
def aaa {d:List aA} {i:Nat} (l:i<(ij d).length):(nW d)[i]? =some (cw d (ij d) ((ij d).getD i [])):=by simp_all[nW]
def aax {l:Type} (p:l->Bool):∀(xs:List l) (i k:Nat),gJ p xs i=(k:Int)->i<=k/\∃x,xs[k-i]? =some x/\p x=true:=by intro xs;induction xs with
 |nil=>intro i k h;have q:(-1:Int)=(k):=h;omega
 |cons x xs w=>intro i k h;rw[gJ] at h;grind
def nmW_out {d:List aA} (l:d.length<=64) {w:Nat} (D:Dn d w) (h:∀c∈nW d,c≠w):nmW d w=rT [38] (uX d (bn d w)):=by have q:=nY (d:=d);unfold nmW Bt;rw[Ng _ _ _ _ (by simp[nW]) h,bn,L7 af D.lt];simp
def Us {d:List aA} (A:Acc d) (l:d.length<=64) {w:Nat} (D:Dn d w):nmW d w=rT [38] (uX d (bn d w)):=by
 by_cases h:∀c∈nW d,c≠w
 .exact nmW_out l D h
 .have K:¬gJ (λc=>c==w) (nW d) 0<0:=by
   rw[aay];intro N;exact h λc I=>by simp_all
  obtain⟨k,G⟩:∃k:Nat,gJ (λc=>c==w) (nW d) 0=(k):=⟨(gJ (λc=>c==w) (nW d) 0).toNat,af⟩
  obtain⟨_,e⟩:=Rf (ij d) _ 0 _ k (by simp[nW]) G;obtain⟨_,c,z,H⟩:=aax _ _ _ _ G;rw[tT] at e z;have q:=(bD.1 e).1;rw[aaa q] at z;have B:cw d (ij d) ((ij d).getD k [])=w:=by rw[<-(ga.1 H)];exact c9 z
  have F:(ij d).getD k []=nmW d w:=by rw[aX,e];rfl
  rw[F] at B;have L:nmW d w∈jF d:=by rw[<-F];exact Qo q
  have:=Wq A l L;rw[B] at this;rw[this];rfl
def nmW_inj {d:List aA} (A:Acc d) (l:d.length<=64) {w v:Nat} (B:w<18446744073709551616) (P:v<18446744073709551616) (N:w≠0) (L:v≠0) (G:Dn d w) (F:Dn d v) (h:nmW d w=nmW d v):w=v:=by
 rw[Us A l G,Us A l F] at h;have ne:∀{w:Nat},w<18446744073709551616->w≠0->Dn d w->uX d (bn d w)≠[]:=by intro w B H D I;obtain⟨i,q⟩:=Nat.exists_testBit_of_ne_zero H;obtain⟨m,z,_⟩:=EI A _ ((SN B D (D.lt i q)).1 q);rw[<-GM D.lt,I] at z;cases z
 have fr:∀{w:Nat},Dn d w->∀x∈uX d (bn d w),(38)∉x:=by intro w D x O;obtain⟨t,K,rfl⟩:=aC.1 (Zk D.lt x (Ra O));exact QH (A.name t K)
 grind[ab8,X4]
end Go.Proofs.YthppjmoncapdfaaGreatDoor.cl
namespace Go.Proofs.YthppjmoncapdfaaGreatDoor.cl
open Go Go.AM
namespace pop
def rQ:List Nat->Nat
 |[]=>0
 |b::l=>b+256 *rQ l
def wF (a b c d:Nat) (B:b<256) (D:d<256):(b+256 *a)&&&(d+256 *c)=(b&&&d)+256 *(a&&&c):=by
 have q:b+256 *a=2^ 8 *a+b:=af;have w:d+256 *c=2^ 8 *c+d:=af;have z:(b&&&d)+256 *(a&&&c)=2^ 8 *(a&&&c)+(b&&&d):=af;have l:b&&&d<2^ 8:=jg jZ af;rw[q,w,z];apply qT;intro j;rw[iL,xS a af,xS c af,xS (a&&&c) l];by_cases h:j<8
 .simp[h,iL]
 .simp[h,iL]
def f1:∀(e:Fin 2) (b:Fin 256),(128 *e.val+b.val / 2)&&&85=(b.val / 2)&&&85:=by decide+kernel
def f2:∀(e:Fin 4) (b:Fin 256),(64 *e.val+b.val / 4)&&&51=(b.val / 4)&&&51:=by decide+kernel
def f3:∀(e:Fin 5) (b:Fin 256),b.val / 16<=4->b.val % 16<=4->(16 *e.val+b.val / 16+b.val)&&&15=b.val / 16+b.val % 16:=by decide+kernel
def s1 (b:Nat):Nat:=((b / 2)&&&85)+(b&&&85)
def s2 (b:Nat):Nat:=((b / 4)&&&51)+(b&&&51)
def F8:∀b:Fin 256,s1 b.val<256:=by decide+kernel
def F9:∀b:Fin 256,s2 (s1 b.val) / 16<=4/\s2 (s1 b.val) % 16<=4/\s2 (s1 b.val) / 16+s2 (s1 b.val) % 16=gL 8 b.val:=by decide+kernel
def PW:∀b:Fin 256,gL 8 b.val<=8:=by decide+kernel
def S1:∀(l:List Nat),(∀b∈l,b<256)->((rQ l / 2)&&&rQ (l.map λ_=>85))+(rQ l&&&rQ (l.map λ_=>85))=rQ (l.map s1):=by intro l;induction l with
 |nil=>intro _;rfl
 |cons b l B=>
  intro h;have w:=h b ah;have q:=B λx z=>h x (by simp[z])
  simp only[aR,rQ];have e:(b+256 *rQ l) / 2=(128 *(rQ l % 2)+b / 2)+256 *(rQ l / 2):=af;rw[e,wF _ _ _ _ af af,wF _ _ _ _ w af,f1 ⟨rQ l % 2,af⟩ ⟨b,w⟩];dsimp only;rw[show s1 b=((b / 2)&&&85)+(b&&&85) from rfl,<-q];omega
def S2:∀(l:List Nat),(∀b∈l,b<256)->((rQ l / 4)&&&rQ (l.map λ_=>51))+(rQ l&&&rQ (l.map λ_=>51))=rQ (l.map s2):=by intro l;induction l with
 |nil=>intro _;rfl
 |cons b l B=>
  intro h;have w:=h b ah;have q:=B λx z=>h x (by simp[z])
  simp only[aR,rQ];have e:(b+256 *rQ l) / 4=(64 *(rQ l % 4)+b / 4)+256 *(rQ l / 4):=af;rw[e,wF _ _ _ _ af af,wF _ _ _ _ w af,f2 ⟨rQ l % 4,af⟩ ⟨b,w⟩];dsimp only;rw[show s2 b=((b / 4)&&&51)+(b&&&51) from rfl,<-q];omega
def Yg {l:List Nat} (h:∀b∈l,b / 16<=4/\b % 16<=4):rQ l % 16<=4:=by cases l with
 |nil=>decide
 |cons b l=>have:=(h b ah).2;simp only[rQ];omega
def S3:∀(l:List Nat),(∀b∈l,b / 16<=4/\b % 16<=4)->(rQ l / 16+rQ l)&&&rQ (l.map λ_=>15)=rQ (l.map λb=>b / 16+b % 16):=by intro l;induction l with
 |nil=>intro _;rfl
 |cons b l B=>
  intro h;have z:=h b ah;have w:=B λx q=>h x (by simp[q])
  have D:=Yg λx q=>h x (er b q)
  simp only[aR,rQ];have e:(b+256 *rQ l) / 16+(b+256 *rQ l)=(16 *(rQ l % 16)+b / 16+b)+256 *(rQ l / 16+rQ l):=af;rw[e,wF _ _ _ _ af af,f3 ⟨rQ l % 16,af⟩ ⟨b,af⟩ z.1 z.2,w]
def Xv:∀(k b m:Nat),b<2^ k->∀n,gL (k+n) (b+2^ k *m)=gL k b+gL n m:=by intro k;induction k with
 |zero=>intro b m l n;simp at l;subst l;simp[gL]
 |succ k w=>
  intro b m l n;rw[show k+1+n=(k+n)+1 by omega];simp only[gL];rw[xT] at l⊢;have e1:(b+2^ k *2 *m) % 2=b % 2:=by rw[show 2^ k *2 *m=2 *(2^ k *m) by rw[Nat.mul_comm (2^ k) 2,Nat.mul_assoc]];omega
  have q:(b+2^ k *2 *m) / 2=b / 2+2^ k *m:=by rw[show 2^ k *2 *m=2 *(2^ k *m) by rw[Nat.mul_comm (2^ k) 2,Nat.mul_assoc]];omega
  rw[e1,q,w (b / 2) m af n];omega
def uL (b m n:Nat) (l:b<256):gL (8+n) (b+256 *m)=gL 8 b+gL n m:=Xv 8 b m af n
def fold (x:Nat):Nat:=
 let a:=x+x / 256;let b:=a+a / 65536
 b+b / 4294967296
def ZE {r k y:Nat} (h:r<k):(r+k *y) / k=y:=by rw[Nat.add_mul_div_left _ _ af,Nat.div_eq_of_lt h,gv]
def Z6 {G F D B z w q l:Nat} (L:G<=8) (N:F<=8) (O:D<=8) (P:B<=8) (Q:z<=8) (R:w<=8) (S:q<=8) (U:l<=8):
  fold (rQ [G,F,D,B,z,w,q,l]) % 128=G+F+D+B+z+w+q+l/\fold (rQ [G,F,D,B,z,w,q,l])<9223372036854775808:=by
 have H:rQ [G,F,D,B,z,w,q,l]=G+256 *(F+256 *D+65536 *B+16777216 *z+4294967296 *w+1099511627776 *q+281474976710656 *l):=by simp only[rQ];omega
 have e1:G+256 *(F+256 *D+65536 *B+16777216 *z+4294967296 *w+1099511627776 *q+281474976710656 *l)+(F+256 *D+65536 *B+16777216 *z+4294967296 *w+1099511627776 *q+281474976710656 *l)
   =((G+F)+256 *(F+D))+65536 *((D+B)+256 *(B+z)+65536 *(z+w)+16777216 *(w+q)+4294967296 *(q+l)+1099511627776 *l):=by omega
 have I:((G+F)+256 *(F+D))+65536 *((D+B)+256 *(B+z)+65536 *(z+w)+16777216 *(w+q)+4294967296 *(q+l)+1099511627776 *l)+((D+B)+256 *(B+z)+65536 *(z+w)+16777216 *(w+q)+4294967296 *(q+l)+1099511627776 *l)
   =((G+F+D+B)+256 *(F+D+B+z)+65536 *(D+B+z+w)+16777216 *(B+z+w+q))+4294967296 *((z+w+q+l)+256 *(w+q+l)+65536 *(q+l)+16777216 *l):=by omega
 have K:((G+F+D+B)+256 *(F+D+B+z)+65536 *(D+B+z+w)+16777216 *(B+z+w+q))+4294967296 *((z+w+q+l)+256 *(w+q+l)+65536 *(q+l)+16777216 *l)+((z+w+q+l)+256 *(w+q+l)+65536 *(q+l)+16777216 *l)
   =(G+F+D+B+z+w+q+l)+128 *(2 *(F+D+B+z)+512 *(D+B+z+w)+131072 *(B+z+w+q)+33554432 *((z+w+q+l)+256 *(w+q+l)+65536 *(q+l)+16777216 *l)+2 *(w+q+l)+512 *(q+l)+131072 *l):=by omega
 simp only[fold];rw[H,ZE af,e1,ZE af,I,ZE af,K,Nat.add_mul_mod_self_left];exact⟨sP af,af⟩
def bytes8 {x:Nat} (w:x<18446744073709551616):∃l:List Nat,l.length=8/\(∀b∈l,b<256)/\x=rQ l:=by
 refine⟨[x % 256,x / 256 % 256,x / 65536 % 256,x / 16777216 % 256,x / 4294967296 % 256,x / 1099511627776 % 256,x / 281474976710656 % 256,x / 72057594037927936],rfl,?_,?_⟩
 .intro b q;simp only[aF,eN,eV] at q;omega
 .simp only[rQ];omega
def x1 (x:Nat):Nat:=((x / 2)&&&6148914691236517205)+(x&&&6148914691236517205)
def x2 (x:Nat):Nat:=((x / 4)&&&3689348814741910323)+(x&&&3689348814741910323)
def x3 (x:Nat):Nat:=(x / 16+x)&&&1085102592571150095
def len8 {l:List Nat} (h:l.length=8):∃a b c d e f g i,l=[a,b,c,d,e,f,g,i]:=by match l,h with
 |[a,b,c,d,e,f,g,i],_=>exact⟨a,b,c,d,e,f,g,i,rfl⟩
def ofB_lt:∀{l:List Nat},(∀b∈l,b<256)->rQ l<256^ l.length:=by intro l;induction l with
 |nil=>intro _;decide
 |cons b l w=>
  intro h;have z:=h b ah;have B:=w λx q=>h x (by simp[q])
  simp only[rQ,bg,xT];omega
def ofB_lt2:∀{l:List Nat},(∀b∈l,b<128)->rQ l+rQ l<256^ l.length:=by intro l;induction l with
 |nil=>intro _;decide
 |cons b l w=>
  intro h;have z:=h b ah;have B:=w λx q=>h x (by simp[q])
  simp only[rQ,bg,xT];omega
def pop_eq {x:Nat} (hx:x<18446744073709551616):fold (x3 (x2 (x1 x))) % 128=gL 64 x/\x1 x<18446744073709551616/\x2 (x1 x)<18446744073709551616/\x2 (x1 x) / 16+x2 (x1 x)<18446744073709551616/\fold (x3 (x2 (x1 x)))<9223372036854775808:=by
 obtain⟨l,hl,q,rfl⟩:=bytes8 hx;obtain⟨a,b,c,d,e,f,g,i,rfl⟩:=len8 hl;simp only[aF,eN,eV,forall_eq_or_imp,forall_eq] at q;obtain⟨H,q,w,K,L,N,O,P⟩:=q;have q1:x1 (rQ [a,b,c,d,e,f,g,i])=rQ [s1 a,s1 b,s1 c,s1 d,s1 e,s1 f,s1 g,s1 i]:=by have:=S1 [a,b,c,d,e,f,g,i] aD;simp only[aR,dQ] at this;rw[show rQ [85,85,85,85,85,85,85,85]=6148914691236517205 by decide+kernel] at this;exact this
 have A:=F8 ⟨a,H⟩;have B:=F8 ⟨b,q⟩;have C:=F8 ⟨c,w⟩;have D:=F8 ⟨d,K⟩;have E:=F8 ⟨e,L⟩;have F:=F8 ⟨f,N⟩;have G:=F8 ⟨g,O⟩;have I:=F8 ⟨i,P⟩;dsimp only at A B C D E F G I;have q2:x2 (rQ [s1 a,s1 b,s1 c,s1 d,s1 e,s1 f,s1 g,s1 i])=rQ [s2 (s1 a),s2 (s1 b),s2 (s1 c),s2 (s1 d),s2 (s1 e),s2 (s1 f),s2 (s1 g),s2 (s1 i)]:=by have:=S2 [s1 a,s1 b,s1 c,s1 d,s1 e,s1 f,s1 g,s1 i] aD;simp only[aR,dQ] at this;rw[show rQ [51,51,51,51,51,51,51,51]=3689348814741910323 by decide+kernel] at this;exact this
 have Q:=F9 ⟨a,H⟩;have S:=F9 ⟨b,q⟩;have C2:=F9 ⟨c,w⟩;have D2:=F9 ⟨d,K⟩;have E2:=F9 ⟨e,L⟩;have F2:=F9 ⟨f,N⟩;have G2:=F9 ⟨g,O⟩;have I2:=F9 ⟨i,P⟩;dsimp only at Q S C2 D2 E2 F2 G2 I2;have q3:x3 (rQ [s2 (s1 a),s2 (s1 b),s2 (s1 c),s2 (s1 d),s2 (s1 e),s2 (s1 f),s2 (s1 g),s2 (s1 i)])=rQ [gL 8 a,gL 8 b,gL 8 c,gL 8 d,gL 8 e,gL 8 f,gL 8 g,gL 8 i]:=by have:=S3 [s2 (s1 a),s2 (s1 b),s2 (s1 c),s2 (s1 d),s2 (s1 e),s2 (s1 f),s2 (s1 g),s2 (s1 i)] aD;simp only[aR,dQ,Q.2.2,S.2.2,C2.2.2,D2.2.2,E2.2.2,F2.2.2,G2.2.2,I2.2.2] at this;rw[show rQ [15,15,15,15,15,15,15,15]=1085102592571150095 by decide+kernel] at this;exact this
 have R:=PW ⟨a,H⟩;have U:=PW ⟨b,q⟩;have V:=PW ⟨c,w⟩;have D3:=PW ⟨d,K⟩;have E3:=PW ⟨e,L⟩;have F3:=PW ⟨f,N⟩;have G3:=PW ⟨g,O⟩;have I3:=PW ⟨i,P⟩;dsimp only at R U V D3 E3 F3 G3 I3;have w:gL 64 (rQ [a,b,c,d,e,f,g,i])=gL 8 a+gL 8 b+gL 8 c+gL 8 d+gL 8 e+gL 8 f+gL 8 g+gL 8 i:=by simp only[rQ];rw[uL _ _ 56 H,uL _ _ 48 q,uL _ _ 40 (by assumption),uL _ _ 32 K,uL _ _ 24 L,uL _ _ 16 N,uL _ _ 8 O,Nat.mul_zero,qv];omega
 have z:=Z6 R U V D3 E3 F3 G3 I3;rw[q1,q2,q3,z.1,w];have k1:=ofB_lt (l:=[s1 a,s1 b,s1 c,s1 d,s1 e,s1 f,s1 g,s1 i]) aD;have k2:=ofB_lt2 (l:=[s2 (s1 a),s2 (s1 b),s2 (s1 c),s2 (s1 d),s2 (s1 e),s2 (s1 f),s2 (s1 g),s2 (s1 i)]) aD;have e8:256^ 8=18446744073709551616:=by decide+kernel
 rw[show[s1 a,s1 b,s1 c,s1 d,s1 e,s1 f,s1 g,s1 i].length=8 from rfl,e8] at k1;rw[show[s2 (s1 a),s2 (s1 b),s2 (s1 c),s2 (s1 d),s2 (s1 e),s2 (s1 f),s2 (s1 g),s2 (s1 i)].length=8 from rfl,e8] at k2;generalize rQ [s2 (s1 a),s2 (s1 b),s2 (s1 c),s2 (s1 d),s2 (s1 e),s2 (s1 f),s2 (s1 g),s2 (s1 i)]=y at k2;exact⟨rfl,k1,by omega,by omega,z.2⟩
def Y9 {w v:Nat} (q:w<18446744073709551616) (l:v<18446744073709551616):wrap .u64 ((ofInt (IntKind.bits .u64) (w:Int)&&&ofInt (IntKind.bits .u64) (v:Int)).toNat:Int)=((w&&&v:Nat):Int):=by
 have o:∀w:Nat,ofInt (IntKind.bits .u64) (w:Int)=BitVec.ofNat 64 w:=λw=>CT 64 w
 rw[o,o];have h:w&&&v<=w:=jZ;have e:(BitVec.ofNat 64 w&&&BitVec.ofNat 64 v).toNat=w&&&v:=by rw[BitVec.toNat_and,tW,tW,sP (by simpa using q),sP (by simpa using l)]
 show wrap .u64 (((BitVec.ofNat 64 w&&&BitVec.ofNat 64 v).toNat:Nat):Int)=_;rw[e,su af af]
def divN (w:Nat) {k:Nat} {j:Int} (l:toNat j=k) (q:k<=64):Int.fdiv (w:Int) (2^ min (toNat j) (IntKind.bits .u64))=((w / 2^ k:Nat):Int):=by
 have e:min k (IntKind.bits .u64)=k:=by show min k 64=k;omega
 rw[l,e,show(2^ k:Int)=((2^ k:Nat):Int) by simp,CQ _ (xI _)];simp
def addN {w v:Nat} (h:w+v<18446744073709551616):wrap .u64 ((w:Int)+(v:Int))=((w+v:Nat):Int):=by rw[su af af];omega
def t1 {x:Nat} (l:x<18446744073709551616) (h:x1 x<18446744073709551616):wrap .u64 ((wrap .u64 ((ofInt (IntKind.bits .u64) (Int.fdiv (x:Int) (2^ min (toNat 1) (IntKind.bits .u64)))&&&ofInt (IntKind.bits .u64) 6148914691236517205).toNat:Int))+(wrap .u64 ((ofInt (IntKind.bits .u64) (x:Int)&&&ofInt (IntKind.bits .u64) 6148914691236517205).toNat:Int)))=((x1 x:Nat):Int):=by have c:(6148914691236517205:Int)=((6148914691236517205:Nat):Int):=rfl;rw[divN x (k:=1) rfl af,c,Y9 af af,Y9 l af,addN h];rfl
def t2 {x:Nat} (l:x<18446744073709551616) (h:x2 x<18446744073709551616):wrap .u64 ((wrap .u64 ((ofInt (IntKind.bits .u64) (Int.fdiv (x:Int) (2^ min (toNat 2) (IntKind.bits .u64)))&&&ofInt (IntKind.bits .u64) 3689348814741910323).toNat:Int))+(wrap .u64 ((ofInt (IntKind.bits .u64) (x:Int)&&&ofInt (IntKind.bits .u64) 3689348814741910323).toNat:Int)))=((x2 x:Nat):Int):=by have c:(3689348814741910323:Int)=((3689348814741910323:Nat):Int):=rfl;rw[divN x (k:=2) rfl af,c,Y9 af af,Y9 l af,addN h];rfl
def t3 {x:Nat} (h:x / 16+x<18446744073709551616):wrap .u64 ((ofInt (IntKind.bits .u64) (wrap .u64 ((Int.fdiv (x:Int) (2^ min (toNat 4) (IntKind.bits .u64)))+(x:Int)))&&&ofInt (IntKind.bits .u64) 1085102592571150095).toNat:Int)=((x3 x:Nat):Int):=by have c:(1085102592571150095:Int)=((1085102592571150095:Nat):Int):=rfl;rw[divN x (k:=4) rfl af,addN h,c,Y9 h af];rfl
def t4 {x k:Nat} {j:Int} (l:toNat j=k) (q:k<=64) (h:x+x / 2^ k<18446744073709551616):wrap .u64 ((x:Int)+(Int.fdiv (x:Int) (2^ min (toNat j) (IntKind.bits .u64))))=((x+x / 2^ k:Nat):Int):=by rw[divN x l q,addN h]
def t5 {x:Nat} (h:x<9223372036854775808):wrap .i64 ((ofInt (IntKind.bits .i64) (wrap .i64 (x:Int))&&&ofInt (IntKind.bits .i64) 127).toNat:Int)=((x % 128:Nat):Int):=by
 have l:wrap .i64 (x:Int)=(x:Int):=ko af af;rw[l];have o:ofInt (IntKind.bits .i64) (x:Int)=BitVec.ofNat 64 x:=CT 64 x;have q:ofInt (IntKind.bits .i64) 127=BitVec.ofNat 64 127:=rfl;rw[o,q];have e:(BitVec.ofNat 64 x&&&BitVec.ofNat 64 127).toNat=x % 128:=by rw[BitVec.toNat_and,tW,tW,sP (show x<2^ 64 by omega)];exact Nat.and_two_pow_sub_one_eq_mod x 7
 show wrap .i64 (((BitVec.ofNat 64 x&&&BitVec.ofNat 64 127).toNat:Nat):Int)=_;rw[e,ko af af]
end pop
end Go.Proofs.YthppjmoncapdfaaGreatDoor.cl
namespace Go.Proofs.YthppjmoncapdfaaGreatDoor.cl
open Go Go.AM
namespace pop
def cntN_le:∀(n w:Nat),gL n w<=n:=by intro n;induction n with
 |zero=>intro w;exact aT _
 |succ n l=>intro w;have:=l (w / 2);simp only[gL];omega
def t48 {x:Nat} (h:x+x / 256<18446744073709551616):wrap .u64 ((x:Int)+(Int.fdiv (x:Int) (2^ min (toNat 8) (IntKind.bits .u64))))=((x+x / 256:Nat):Int):=t4 (k:=8) rfl af h
def t416 {x:Nat} (h:x+x / 65536<18446744073709551616):wrap .u64 ((x:Int)+(Int.fdiv (x:Int) (2^ min (toNat 16) (IntKind.bits .u64))))=((x+x / 65536:Nat):Int):=t4 (k:=16) rfl af h
def t432 {x:Nat} (h:x+x / 4294967296<18446744073709551616):wrap .u64 ((x:Int)+(Int.fdiv (x:Int) (2^ min (toNat 32) (IntKind.bits .u64))))=((x+x / 4294967296:Nat):Int):=t4 (k:=32) rfl af h
def Tu {x:Nat} (h:fold x<9223372036854775808):x+x / 256<18446744073709551616/\x+x / 256+(x+x / 256) / 65536<18446744073709551616/\fold x=x+x / 256+(x+x / 256) / 65536+(x+x / 256+(x+x / 256) / 65536) / 4294967296:=by
 have e:fold x=x+x / 256+(x+x / 256) / 65536+(x+x / 256+(x+x / 256) / 65536) / 4294967296:=rfl;rw[e] at h;refine⟨?_,?_,e⟩
 .generalize x+x / 256=a at h⊢;generalize a / 65536=b at h;generalize (a+b) / 4294967296=c at h;omega
 .generalize x+x / 256+(x+x / 256) / 65536=a at h⊢;generalize a / 4294967296=c at h;omega
end pop
end Go.Proofs.YthppjmoncapdfaaGreatDoor.cl
namespace Go.Proofs.YthppjmoncapdfaaGreatDoor.cl
open Go Go.AM
def o31 {w v:Nat} (q:w<18446744073709551616) (l:v<18446744073709551616):f31 (e1 w) (e1 v)=some (decide (w=v)):=by
 refine e31 ?_;rw[o63 q l,ak,o63 l q,ak];by_cases h:w=v
 .subst h;rw[xm];simp
 .cases z:sub w v with
  |false=>simp[h]
  |true=>cases B:sub v w with
   |false=>simp[h]
   |true=>exact absurd (rI z B) h
def ZX {d:List aA} (A:Acc d) (q:d.length<=64):Fm (nW d) (y8 (nW d))/\∀w∈y8 (nW d),Dn d w:=by
 have l:(nW d).length<=256:=by have:=GG (d:=d);omega
 obtain⟨F,_,_⟩:=Dp (AI A) Mk l
 exact⟨F,F.gen (Dn d) (λc z=>by
  obtain⟨x,_,rfl⟩:=aC.1 z
  exact ZF x) (λa b=>dn_and)⟩
def Rg {d:List aA} (A:Acc d) (l:d.length<=64):((cM d).map (·.1)).Nodup:=by obtain⟨F,D⟩:=ZX A l;have z:=(AK (d:=d)).2.map (·.1);rw[eS] at z;refine z.nodup_iff.2 (Ls F.nd λx q y w h=> ?_);exact nmW_inj A l (Pr F (BP l) x q) (Pr F (BP l) y w) (F.nz x q) (F.nz y w) (D x q) (D y w) h
def acu {D:Type} {l:List D} (h:l.Nodup) {i k:Nat} (z:i<l.length) (B:k<l.length) (e:l[i]=l[k]):i=k:=by
 have w:=mW.1 h;rcases Nat.lt_trichotomy i k with q|q|q
 .exact absurd e (w i k z B q)
 .exact q
 .exact absurd e.symm (w k i B z q)
structure Ok (d:List aA):Prop where
 z:Sz d
 acc:Acc d
 len:d.length<=64
 le:(y8 (nW d)).length<=256
noncomputable def tys (d:List aA):List Nat:=(cM d).map (·.2)
noncomputable def zH (d:List aA):List dX:=(cM d).map Kh
def nj {d:List aA}:(zH d).length=(tys d).length:=by simp[tys,zH]
def Ok.TB {d:List aA} (h:Ok d):YU (tys d):=cl.TB h.acc h.len h.le
def Ok.cd {d:List aA} (h:Ok d):Cd (zH d) (tys d):=cd_ents h.acc h.len h.le
def Ok.cE {d:List aA} (h:Ok d):(tys d).length<=256:=by have:=(AJ (d:=d)).length_eq;rw[tys,this];exact h.le
def Ok.lt {d:List aA} (h:Ok d) {i:Nat} (l:i<(tys d).length):(tys d).getD i 0<18446744073709551616:=h.cd.get l
noncomputable abbrev cwd (d:List aA) (x:cK):Nat:=cw d (ij d) x
def Ok.cwlt {d:List aA} (h:Ok d) (x:cK):cwd d x<18446744073709551616:=ZD (by have:=nY (d:=d);have:=h.len;omega)
def ZC {d:List aA} (A:Acc d) (l:d.length<=64) {x:cK} (w:x∈jF d):cwd d x∈y8 (nW d):=by obtain⟨F,D⟩:=ZX A l;obtain⟨e,q⟩:=F.pre;rw[q];refine dU _ (aC.2 ⟨x,?_,rfl⟩);exact gu.2 w
def Ok.cwmem {d:List aA} (h:Ok d) {x:cK} (l:x∈jF d):cwd d x∈tys d:=(AJ (d:=d)).mem_iff.2 (ZC h.acc h.len l)
def Ok.entmem {d:List aA} (h:Ok d) {x:cK} (l:x∈jF d):((x,cwd d x):Gy)∈cM d:=by
 refine(AK (d:=d)).2.mem_iff.2 (aC.2 ⟨cwd d x,ZC h.acc h.len l,?_⟩)
 have:nmW d (cwd d x)=x:=by rw[Us h.acc h.len (ZF x),Wq h.acc h.len l];rfl
 show(nmW d (cwd d x),cwd d x)=_;rw[this]
noncomputable def nu (d:List aA) (x:cK):Nat:=(gJ (λc:dX=>c.Name==x) (zH d) 0).toNat
def Ok.yq {d:List aA} (h:Ok d) {x:cK} (Q:x∈jF d):gJ (λc:dX=>c.Name==x) (zH d) 0=(nu d x:Int)/\nu d x<(tys d).length/\(tys d).getD (nu d x) 0=cwd d x/\∃R:nu d x<(zH d).length,(zH d)[nu d x].Name=x:=by
 have l:=h.entmem Q;obtain⟨j,F,e⟩:=VS (λc:dX=>c.Name==x) (zH d) 0 ⟨Kh (x,cwd d x),aC.2 ⟨_,l,rfl⟩,by simp[Kh]⟩;have B:gJ (λc:dX=>c.Name==x) (zH d) 0=(j:Int):=by have:=e.1;simpa using this
 have K:nu d x=j:=by unfold nu;rw[B];simp
 obtain⟨_,c,N,w⟩:=aax _ _ _ _ B;obtain⟨p,P,z⟩:=iw.1 l;have q:j<(cM d).length:=by simpa[zH] using F
 rw[tT,zH,dB,aK q] at N;have D:(cM d)[j].1=x:=by have O:c=Kh (cM d)[j]:=(c9 N).symm;rw[O] at w;exact ga.1 w
 have I:=Rg h.acc h.len;have H:j=p:=by
  have G:j<((cM d).map (·.1)).length:=by simpa using q
  have L:p<((cM d).map (·.1)).length:=by simpa using P
  refine acu I G L ?_;rw[oH,oH,D,z]
 rw[K];refine⟨B,by rw[<-nj];exact F,?_,F,by simpa using e.2.1⟩;subst H;show((cM d).map (·.2)).getD j 0=_;rw[aX,dB,aK q,z];rfl
def IP {d:List aA} {t:aA} (h:t∈d):t.Name∈jF d:=aC.2 ⟨t,h,rfl⟩
end Go.Proofs.YthppjmoncapdfaaGreatDoor.cl
namespace Go.Proofs.YthppjmoncapdfaaGreatDoor.cl
open Go Go.AM
def upperB (c:UInt8):Bool:=decide (65<=c.toNat)&&decide (c.toNat<=90)
def wj (s:cK):Bool:=decide (1<=s.length)&&decide (s.length<=32)&& !nK (s.getD 0 0)&& !(s.getD 0 0).toNat==45&&s.all λc=>nK c||c.toNat==45||upperB c
def c166 (c:UInt8):f166 (c.toNat:Int)=some (upperB c):=by
 refine e166 ?_;by_cases h:65<=c.toNat
 .rw[cond_pos aD];simp only[upperB,h,tU,gd];congr 1;rw[mU];omega
 .rw[cond_neg aD];simp[upperB,h]
def c160t (c:UInt8):f160 (c.toNat:Int) true=some (nK c||c.toNat==45||upperB c):=by refine e160 ?_;rw[c159,ak,c166,ak];cases nK c with
 |true=>rfl
 |false=>
  by_cases h:c.toNat=45
  .rw[az,cond_pos aD];simp[h]
  .rw[az,cond_neg aD];cases upperB c<;>simp[h]
def h140t (s:cK) (l:s.length<=1073741824):∀(xs:cK) (i:Nat),s.drop i=xs->JG s true i=some (xs.all λc=>nK c||c.toNat==45||upperB c):=by intro xs;induction xs with
 |nil=>intro i h;refine MP ?_;rw[bp h];rfl
 |cons x xs q=>intro i h;refine MP ?_;rw[aZ h,ai,aQ h,c160t,ak,aY h l,q (i+1) (aG h),gO];cases(nK x||x.toNat==45||upperB x)<;>rfl
def c372 (s:cK):f372 s=some (wj s):=by
 refine e372 ?_
 have:f140 s true=some (wj s):=by
  refine e140 ?_;by_cases l:1<=s.length
  .rw[cond_neg aD];by_cases q:s.length<=32
   .rw[cond_neg aD,show(0:Int)=((0:Nat):Int) from rfl,bR af,c159,ak,bR af,h140t s af s 0 rfl];have z:s.getD 0 0=s[0]:=by rw[aX,aK af];rfl
    unfold wj;rw[z];cases nK s[0] with
    |true=>simp[l,q]
    |false=>
     by_cases w:s[0].toNat=45
     .rw[az,cond_pos aD];simp[w]
     .rw[az,cond_neg aD];simp[l,q,w]
   .rw[cond_pos aD];simp[wj,q]
  .rw[cond_pos aD];simp[wj,l]
 rw[this];rfl
def Fz (d:List aA):Prop:=∀t∈d,t.cD.length<=1048576
def val (t:aA) (F:cK):Option cK:=(t.cD.find? λx=>x.aS==F).map (·.Value)
def h373 (t:aA) (F:cK) (q:t.cD.length<=1048576):∀(xs:List bS) (i:Nat),t.cD.drop i=xs->
  On F i t=some (match xs.find? λx=>x.aS==F with|some x=>(x.Value,true)|none=>([],false)):=by
 intro xs;induction xs with
 |nil=>intro i h;refine aa8 ?_;rw[bp h];rfl
 |cons x xs l=>intro i h;refine aa8 ?_;rw[aZ h,ai,aQ h,aQ h,aY h af,l (i+1) (aG h),qV];cases x.aS==F<;>rfl
def c373 (t:aA) (F:cK) (l:t.cD.length<=1048576):f373 t F=some (match val t F with|some v=>(v,true)|none=>([],false)):=by refine e373 ((h373 t F l t.cD 0 rfl).trans ?_);rw[val];cases t.cD.find? λx=>x.aS==F<;>rfl
def ac7 {t:aA} {F v:cK} (h:val t F=some v):∃x∈t.cD,x.aS=F/\x.Value=v:=by unfold val at h;obtain⟨x,l,rfl⟩:=bY.1 h;exact⟨x,oF l,by simpa using oG l,rfl⟩
abbrev fns (t:aA):List cK:=t.cD.map (·.aS)
def fal (d:List aA):List cK:=d.flatMap fns
def pK (d:List aA):List cK:=mz (fal d)
def h345b {d:List aA} {i:Nat} {t:aA} (q:d[i]? =some t) (F:t.cD.length<=1048576) {r:List cK}:∀(xs:List bS) (k:Nat) (o:List cK),t.cD.drop k=xs->o.length<=1072000000+k->
  JK d ((xs.map (·.aS)).foldl (λo s=>qm s o) o) (i+1:Nat)=some r->i<1000000->Oc d o i k=some r:=by
 intro xs;induction xs with
 |nil=>intro k o h z w l;refine aaT ?_;rw[ew q,bp h,az,bl af];exact w
 |cons x xs B=>intro k o h z w l;refine aaT ?_;have D:=c7 h;have G:=mJ x.aS o;rw[ew q,aZ h,ai,ew q,aQ h,c98 _ _ af,ak,aY h af];exact B (k+1) _ (aG h) af w l
def h345 {d:List aA} (I:d.length<=1000) (z:Fz d):∀(xs:List aA) (i:Nat) (o:List cK),d.drop i=xs->o.length<=1048576 *i->JK d o i=some ((fal xs).foldl (λo s=>qm s o) o):=by intro xs;induction xs with
 |nil=>intro i o h B;refine aaS ?_;rw[bp h];rfl
 |cons t xs w=>
  intro i o h B;refine aaS ?_;have H:=c7 h;have D:=z t (aH (bB h));rw[aZ h,ai];refine h345b (bB h) D t.cD 0 o rfl af ?_ af;have q:(((fns t)).foldl (λo s=>qm s o) o).length<=o.length+(fns t).length:=by
   have:∀(l o:List cK),(l.foldl (λo s=>qm s o) o).length<=o.length+l.length:=by intro l;induction l with
    |nil=>intro o;simp
    |cons a l w=>intro o;have F:=mJ a o;have G:=w (qm a o);rw[fB,bg];omega
   exact this _ _
  rw[aU] at q;rw[w (i+1) ((fns t).foldl (λo s=>qm s o) o) (aG h) af];unfold fal;rw[oJ,List.foldl_append]
def c345 {d:List aA} (q:d.length<=1000) (l:Fz d):f345 d=some (pK d):=e345 (h345 q l d 0 [] rfl ah)
def Ts (w:List cK):List cK->List bS->Int
 |_,[]=>0
 |q,x::l=>if wj x.aS=false then 1 else if x.aS∈q then 4 else if x.Value∈w then Ts w (q++[x.aS]) l else 5
def qE (l:List cK):List aA->Int
 |[]=>0
 |t::d=>if Ts l [] t.cD=0 then qE l d else Ts l [] t.cD
def ZY (F:List cK):∀(l:List bS) (q:List cK),Ts F q l=0↔(∀x∈l,wj x.aS=true/\x.Value∈F)/\(l.map (·.aS)).Nodup/\∀x∈l,x.aS∉q:=by intro l;induction l with
 |nil=>intro q;simp[Ts]
 |cons x l I=>intro q;unfold Ts;cases G:wj x.aS with
  |false=>simp[G]
  |true=>
   rw[aq ah];by_cases B:x.aS∈q
   .rw[au B];simp[B]
   .rw[aq B];by_cases D:x.Value∈F
    .rw[au D,I];constructor
     .rintro⟨a,b,c⟩;refine⟨λy w=> ?_,?_,λy w=> ?_⟩
      .rcases aF.1 w with rfl|w
       .exact⟨G,D⟩
       .exact a y w
      .rw[aR,fu];refine⟨λH=> ?_,b⟩;obtain⟨y,w,e⟩:=aC.1 H;exact c y w (by rw[e];simp)
      .rcases aF.1 w with rfl|w
       .exact B
       .exact λz=>c y w (by simp[z])
     .rintro⟨a,b,c⟩;rw[aR,fu] at b;refine⟨λy w=>a y (by simp[w]),b.2,λy w z=> ?_⟩;rcases bu.1 z with z|z
      .exact c y (by simp[w]) z
      .exact b.1 (aC.2 ⟨y,w,by simpa using z⟩)
    .rw[aq D];constructor
     .intro h;cases h
     .rintro⟨a,_⟩;exact absurd (a x ah).2 D
def Tr (w:List cK):∀(d:List aA),qE w d=0↔∀t∈d,(∀x∈t.cD,wj x.aS=true/\x.Value∈w)/\(fns t).Nodup:=by intro d;induction d with
 |nil=>simp[qE]
 |cons t d B=>
  unfold qE;have z:=ZY w t.cD [];by_cases h:Ts w [] t.cD=0
  .rw[au h,B];obtain⟨a,b,_⟩:=z.1 h;constructor
   .intro l u q;rcases aF.1 q with rfl|q
    .exact⟨a,b⟩
    .exact l u q
   .exact λl u q=>l u (by simp[q])
  .rw[aq h];constructor
   .intro l;exact absurd l h
   .intro l;obtain⟨a,b⟩:=l t ah;exact absurd (z.2 ⟨a,b,λx _=>by simp⟩) h
def h346c {d:List aA} {all:List cK} (q:all.length<=1073741824) {i k:Nat} {l:List bS} (H:l.length<=1048576) (z:k<l.length) {r:Int}
  (F:(if l[k].Value∈all then JM d all i l (k+1:Nat) else some 5)=some r):∀(n m:Nat),k-m=n->m<=k->
  G0 d all i l k m=some (if l[k].aS∈((l.take k).drop m).map (·.aS) then 4 else r):=by
 intro n;induction n with
 |zero=>
  intro m B w
  have:m=k:=af
  subst this;refine V0 ?_;rw[cond_neg ah,bR z,Zp _ _ q,ak];have e:(l.take m).drop m=[]:=by rw[List.drop_eq_nil_iff,fF];omega
  rw[e,aq ah,<-F,bl af];by_cases h:l[m].Value∈all
  .rw[au h,cond_neg (by simpa using h)]
  .rw[aq h,cond_pos (by simpa using h)]
 |succ n G=>
  intro m B w;have D:m<k:=af;refine V0 ?_;rw[cond_pos aD,bR af,bR z,bl af,G (m+1) af af];have e:(l.take k).drop m=l[m]::(l.take k).drop (m+1):=by rw[kV (by rw[fF];omega),List.getElem_take]
  rw[e,aR];by_cases h:l[m].aS=l[k].aS
  .rw[cond_pos (by simpa using h),au (by rw[h];simp)]
  .rw[cond_neg (by simpa using h)];simp only[aF,cN h,false_or]
def h346b {d:List aA} {all:List cK} (w:all.length<=1073741824) {i:Nat} (N:i<1000000) {l:List bS} (G:l.length<=1048576) {r:Int} (H:JL d all (i+1:Nat)=some r):∀(xs:List bS) (k:Nat),l.drop k=xs->
  JM d all i l k=some (if Ts all ((l.take k).map (·.aS)) xs=0 then r else Ts all ((l.take k).map (·.aS)) xs):=by
 intro xs;induction xs with
 |nil=>intro k h;refine aaV ?_;rw[bp h,az,bl af,H];rfl
 |cons x xs K=>
  intro k h;refine aaV ?_;have F:=c7 h;have D:l[k]=x:=(bD.1 (bB h)).2;have B:(l.take k).map (·.aS)++[x.aS]=(l.take (k+1)).map (·.aS):=by rw[cg,bB h];simp
  rw[aZ h,ai,aQ h,c372,ak];unfold Ts;cases L:wj x.aS with
  |false=>rfl
  |true=>
   rw[gA,az];rw[aq (by simp:¬(true=false)),B];have I:=K (k+1) (aG h)
   rw[show(0:Int)=((0:Nat):Int) from rfl,h346c w G F (r:=if x.Value∈all then(if Ts all ((l.take (k+1)).map (·.aS)) xs=0 then r else Ts all ((l.take (k+1)).map (·.aS)) xs) else 5) (by
    rw[D];by_cases q:x.Value∈all
    .rw[au q,au q];exact I
    .rw[aq q,aq q]) _ 0 rfl af,tX,D]
   by_cases z:x.aS∈(l.take k).map (·.aS)
   .rw[au z,au z];rfl
   .rw[aq z,aq z];by_cases q:x.Value∈all
    .rw[au q,au q];rfl
    .rw[aq q,aq q];rfl
def h346 {d:List aA} (B:d.length<=1000) (q:Fz d) {all:List cK} (l:all.length<=1073741824):∀(xs:List aA) (i:Nat),d.drop i=xs->JL d all i=some (qE all xs):=by intro xs;induction xs with
 |nil=>intro i h;refine aaU ?_;rw[bp h];rfl
 |cons t xs z=>intro i h;refine aaU ?_;have D:=c7 h;have w:=q t (aH (bB h));rw[aZ h,ai,aQ h,show(0:Int)=((0:Nat):Int) from rfl,h346b l af w (z (i+1) (aG h)) t.cD 0 rfl];rfl
def XH {w ms:List cK} (h:∀x,x∈w↔x∈ms):∀(l:List bS) (q:List cK),Ts w q l=Ts ms q l:=by intro l;induction l with
 |nil=>intro _;rfl
 |cons x l z=>intro q;unfold Ts;rw[z];simp only[h x.Value]
def Qc {l ms:List cK} (h:∀x,x∈l↔x∈ms):∀(d:List aA),qE l d=qE ms d:=by intro d;induction d with
 |nil=>rfl
 |cons t d q=>unfold qE;rw[q,XH h]
def c346 {d:List aA} (q:d.length<=1000) (w:Fz d):f346 d=some (qE (jF d) d):=by refine e346 ?_;have l:=pq (jF d);rw[aU] at l;rw[c52 d af,ak,show(0:Int)=((0:Nat):Int) from rfl,h346 q w af d 0 rfl,Qc (λx=>gu)]
