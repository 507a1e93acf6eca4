/- The Closure laws. -/
import Derived.Test.YthppjmoncapdfaaGreatDoorClNd
import Derived.Test.YthppjmoncapdfaaGreatDoorClT
set_option linter.all false
open Go.IntKind (wrap)
open BitVec (ofInt)
open Int (toNat)
namespace Go.Proofs.YthppjmoncapdfaaGreatDoor.cl
open Go Go.AM
noncomputable def bn (d:List aB) (w:Nat):List cL:=(bitsOf w).map λi=>(iw d).getD i []
noncomputable def nmW (d:List aB) (w:Nat):cL:=BF d (iw d) (nY d) w
def Rp {d:List aB} {w:Nat}:∀(ss:List cL) (q:List Nat) (i:Nat) (l:List cL) (k:Nat),ss.length=q.length->gK (λc=>c==w) q i=(k:Int)->i<=k/\ss[k-i]? =some (mq d w ss q i l):=by intro ss;induction ss with
 |nil=>intro q i l k z h;have :=oK.1 z.symm;subst this;have D:(-1:Int)=(k):=h;omega
 |cons s ss B=>intro q i l k z h;cases q with
  |nil=>simp at z
  |cons c q=>
   rw[gK] at h;simp[mq];by_cases e:c=w
   .grind
   .rw[show(c==w)=false by simp_all] at h;rw[au e];obtain⟨F,G⟩:=B _ _ _ k (by simp_all) h;refine⟨af,?_⟩;rw[show k-i=(k-(i+1))+1 by omega,qU];omega
def Nr {d:List aB} {w:Nat}:∀(ss:List cL) (q:List Nat) (i:Nat) (l:List cL),ss.length=q.length->(∀c∈q,c≠w)->mq d w ss q i l=rZ [38] (u7 d (l++((List.range ss.length).filter λj=>w.testBit (i+j)).map λj=>ss.getD j [])):=by intro ss;induction ss with
 |nil=>grind[mq]
 |cons s ss D=>intro q i l B h;cases q with
  |nil=>simp at B
  |cons c q=>
   simp only[mq];rw[bg,List.range_succ_eq_map];have e:((List.range ss.length).filter ((λj=>w.testBit (i+j))∘Nat.succ)).map ((λj=>(s::ss).getD j [])∘Nat.succ)=((List.range ss.length).filter λj=>w.testBit (i+1+j)).map λj=>ss.getD j []:=by
    have e1:((λj=>w.testBit (i+j))∘Nat.succ)=λj=>w.testBit (i+1+j):=by funext j;simp;congr 1;omega
    have z:((λj=>(s::ss).getD j [])∘Nat.succ)=λj=>ss.getD j _:=rfl
    rw[e1,z]
   grind
def Mg {w n:Nat} (B:n<=64) (h:∀i,w.testBit i=true->i<n):bitsOf w=(List.range n).filter w.testBit:=by
 unfold bitsOf;have z:=List.range_add (n:=n) (m:=64-n)
 have:List.filter w.testBit (List.map (n+ ·) (List.range (64-n)))=[]:=by rw[xG];intro j q l;obtain⟨i,_,rfl⟩:=aD.1 q;have:=h _ l;omega
 simp_all
structure Dn (d:List aB) (w:Nat):Prop where
 lt:∀i,w.testBit i=true->i<(iw d).length
 dn:∀i j,i<(iw d).length->j<(iw d).length->w.testBit i=true->Le d ((iw d).getD i []) ((iw d).getD j [])->w.testBit j=true
def ZX {d:List aB} (x:cL):Dn d (cw d (iw d) x):=
 ⟨λi h=>(yp.1 h).1,λi j w l h q=>yp.2 ⟨l,rX.trans (yp.1 h).2 q⟩⟩
def dn_and {d:List aB} {a b:Nat} (l:Dn d a) (B:Dn d b):Dn d (a&&&b):=by
 refine⟨λi h=> ?_,λi j q w h z=> ?_⟩
 .rw[iO,aJ] at h;exact l.lt i h.1
 .rw[iO,aJ] at h⊢;exact⟨l.dn i j q w h.1 z,B.dn i j q w h.2 z⟩
def yD {w i:Nat} (l:w<18446744073709551616):i∈bitsOf w↔w.testBit i=true:=by unfold bitsOf;rw[cH,eM];refine⟨λh=>h.2,λh=>⟨?_,h⟩⟩;apply dz;intro q;rw[xT (eO l (xU (n:=2) (i:=64) af af))] at h;cases h
theorem bn_SS {d:List aB} {w:Nat} (h:∀i,w.testBit i=true->i<(iw d).length):SS (bn d w):=by have G:=mX.1 (lJ (jI d));unfold bn SS;rw[gU];have F:(bitsOf w).Pairwise _:=(CX).sublist xZ;refine F.imp_of_mem ?_;intro a b l B z;have q:=h a (cH.1 l).2;have D:=h b (cH.1 B).2;simp_all
def ZA {d:List aB} {w:Nat} (h:∀i,w.testBit i=true->i<(iw d).length):∀x∈bn d w,x∈jI d:=by intro x q;obtain⟨i,l,rfl⟩:=aD.1 q;exact Qy (h i (cH.1 l).2)
def G0 {d:List aB} {w:Nat} (h:∀i,w.testBit i=true->i<(iw d).length):u7 d (bn d w)=(bn d w).filter (ry d (bn d w)):=by
 have q:(bn d w).filter (λs=>decide _)=bn d w:=CQ.2 λx l=>by simpa using ZA h x l
 grind[SS.ext,lJ,bn_SS,gx,u7]
def A5 {d:List aB} {l:List cL} {x:cL}:ry d l x=true↔∀y∈l,Le d y x->y=x:=by unfold ry;grind
def EX {d:List aB} (A:Acc d) {l:List cL}:∀x∈l,∃m∈l.filter (ry d l),Le d m x:=by
 obtain⟨r,B⟩:=A.rk;have key:∀(n) (x),r x=n->x∈l->∃m∈l.filter (ry d l),Le d m x:=by intro n;induction n using Nat.strongRecOn with
  |_ n I=>
   intro x e D;by_cases q:ry d l x=true
   .exact⟨x,cH.2 ⟨D,q⟩, .refl⟩
   .rw[A5] at q;obtain⟨y,F⟩:=Classical.not_forall.1 q;obtain⟨G,w⟩:=Classical.not_imp.1 F;obtain⟨z,H⟩:=Classical.not_imp.1 w
    have:r y<r x:=by
     rcases Ng B z with h|h
     .simp_all
     .exact h
    grind[rX.trans]
 simp_all
def S0 {d:List aB} {w:Nat} (z:w<18446744073709551616) (D:Dn d w) {i:Nat} (B:i<(iw d).length):w.testBit i=true↔(iw d).getD i []∈bn d w:=by
 unfold bn;rw[aD];constructor
 .intro h;exact⟨i,(yD z).2 h,rfl⟩
 .rintro⟨j,F,e⟩;have l:=(yD z).1 F;have q:=D.lt j l;rw[aZ,aZ,aM B,aM q] at e;have:=(qW (lJ _).nodup).1 e;simp_all
theorem acz {d:List aB} (A:Acc d) {w v:Nat} (I:w<18446744073709551616) (H:v<18446744073709551616) (B:Dn d w) (z:Dn d v) (h:u7 d (bn d w)=u7 d (bn d v)):w=v:=by
 have key:∀{w v:Nat},w<18446744073709551616->v<18446744073709551616->Dn d w->Dn d v->u7 d (bn d w)=u7 d (bn d v)->∀i,w.testBit i=true->v.testBit i=true:=by intro w v I H B z h i F;have l:=B.lt i F;obtain⟨m,G,L⟩:=EX A _ ((S0 I B l).1 F);rw[<-G0 B.lt,h,G0 z.lt] at G;have D:=(cH.1 G).1;obtain⟨j,K,rfl⟩:=aD.1 D;have q:=(yD H).1 K;exact z.dn j i (z.lt j q) l q L
 apply qV;grind
def WC {d:List aB} (A:Acc d) (B:d.length<=64) {x:cL} (I:x∈jI d):u7 d (bn d (cw d (iw d) x))=[x]:=by
 have F:=oc (d:=d);have w:cw d (iw d) x<18446744073709551616:=ZV af;have D:=ZX (d:=d) x;rw[G0 D.lt];have l:∀y,y∈(bn d (cw d (iw d) x)).filter (ry d (bn d (cw d (iw d) x)))↔y∈[x]:=by
  intro y;have K:x∈bn d (cw d (iw d) x):=by obtain⟨i,q,e⟩:=MW I;have h:=(S0 w D q).1 (yp.2 ⟨q,by rw[e];exact .refl⟩);rw[e] at h;exact h
  have H:∀z∈bn d (cw d (iw d) x),Le d x z:=by intro z L;obtain⟨j,G,rfl⟩:=aD.1 L;exact(yp.1 ((yD w).1 G)).2
  rw[cH,A5];constructor
  .simp_all
  .grind[le_antisymm]
 refine SS.ext ?_ (by simp[SS]) l;exact(bn_SS D.lt).sublist xZ
def QV {s:cL} (h:isName s=true):(38:UInt8)∉s:=by unfold isName at h;grind[nN,lowerB]
def cut38:∀{x l t q:cL},(38:UInt8)∉x->(38:UInt8)∉l->(t=[]\/∃u,t=38::u)->(q=[]\/∃u,q=38::u)->x++t=l++q->x=l/\t=q:=by intro x;induction x with
 |nil=>intro l t q w z B D h;cases l with
  |nil=>simp_all
  |cons c l=>simp_all
 |cons c x F=>intro l t q w z B D h;cases l with
  |nil=>grind
  |cons c' l=>grind
def Ew (l:List cL):vo l=[]\/∃u,vo l=38::u:=by cases l with
 |nil=>exact .inl rfl
 |cons x l=>simp_all[vo]
theorem YM:∀{l q:List cL},(∀x∈l,(38:UInt8)∉x)->(∀x∈q,(38:UInt8)∉x)->vo l=vo q->l=q:=by intro l;induction l with
 |nil=>intro q _ _ h;cases q with
  |nil=>rfl
  |cons x q=>simp[vo] at h
 |cons x l B=>intro q w z h;cases q with
  |nil=>simp[vo] at h
  |cons D q=>
   have e:∀(y) (m),vo (y::m)=38::(y++vo m):=λy m=>by rfl
   rw[e,e,dN] at h;obtain⟨a,b⟩:=cut38 (w x ah) (z _ ah) (Ew l) (Ew _) h.2;grind
theorem Yh {l q:List cL} (D:l≠[]) (B:q≠[]) (w:∀x∈l,(38:UInt8)∉x) (z:∀x∈q,(38:UInt8)∉x) (h:rZ [38] l=rZ [38] q):l=q:=by cases l with
 |nil=>simp_all
 |cons x l=>cases q with
  |nil=>simp_all
  |cons F q=>rw[B9,B9] at h;obtain⟨a,b⟩:=cut38 (w x ah) (z _ ah) (Ew l) (Ew _) h;grind[YM]
def aas {d:List aB} {i:Nat} (l:i<(iw d).length):(nY d)[i]? =some (cw d (iw d) ((iw d).getD i [])):=by simp_all[nY]
def aaQ {l:Type} (p:l->Bool):∀(xs:List l) (i k:Nat),gK p xs i=(k:Int)->i<=k/\∃x,xs[k-i]? =some x/\p x=true:=by intro xs;induction xs with
 |nil=>intro i k h;have q:(-1:Int)=(k):=h;omega
 |cons x xs w=>intro i k h;rw[gK] at h;grind
def nmW_out {d:List aB} (l:d.length<=64) {w:Nat} (D:Dn d w) (h:∀c∈nY d,c≠w):nmW d w=rZ [38] (u7 d (bn d w)):=by have q:=oc (d:=d);unfold nmW BF;rw[Nr _ _ _ _ (by simp[nY]) h,bn,Mg af D.lt];simp
def UB {d:List aB} (A:Acc d) (l:d.length<=64) {w:Nat} (D:Dn d w):nmW d w=rZ [38] (u7 d (bn d w)):=by
 by_cases h:∀c∈nY d,c≠w
 .exact nmW_out l D h
 .have K:¬gK (λc=>c==w) (nY d) 0<0:=by
   rw[aaR];intro N;exact h λc I=>by simp_all
  obtain⟨k,G⟩:∃k:Nat,gK (λc=>c==w) (nY d) 0=(k):=⟨(gK (λc=>c==w) (nY d) 0).toNat,af⟩
  obtain⟨_,e⟩:=Rp (iw d) _ 0 _ k (by simp[nY]) G;obtain⟨_,c,z,H⟩:=aaQ _ _ _ _ G;rw[ua] at e z;have q:=(bF.1 e).1;rw[aas q] at z;have B:cw d (iw d) ((iw d).getD k [])=w:=by rw[<-(gj.1 H)];exact cU z
  have F:(iw d).getD k []=nmW d w:=by rw[aZ,e];rfl
  rw[F] at B;have L:nmW d w∈jI d:=by rw[<-F];exact Qy q
  have:=WC A l L;rw[B] at this;rw[this];rfl
def nmW_inj {d:List aB} (A:Acc d) (l:d.length<=64) {w v:Nat} (B:w<18446744073709551616) (P:v<18446744073709551616) (N:w≠0) (L:v≠0) (G:Dn d w) (F:Dn d v) (h:nmW d w=nmW d v):w=v:=by
 rw[UB A l G,UB A l F] at h;have ne:∀{w:Nat},w<18446744073709551616->w≠0->Dn d w->u7 d (bn d w)≠[]:=by intro w B H D I;obtain⟨i,q⟩:=Nat.exists_testBit_of_ne_zero H;obtain⟨m,z,_⟩:=EX A _ ((S0 B D (D.lt i q)).1 q);rw[<-G0 D.lt,I] at z;cases z
 have fr:∀{w:Nat},Dn d w->∀x∈u7 d (bn d w),(38)∉x:=by intro w D x O;obtain⟨t,K,rfl⟩:=aD.1 (ZA D.lt x (Rk O));exact QV (A.name t K)
 grind[acz,Yh]
end Go.Proofs.YthppjmoncapdfaaGreatDoor.cl
namespace Go.Proofs.YthppjmoncapdfaaGreatDoor.cl
open Go Go.AM
namespace pop
def rW:List Nat->Nat
 |[]=>0
 |b::l=>b+256 *rW l
def wJ (a b c d:Nat) (B:b<256) (D:d<256):(b+256 *a)&&&(d+256 *c)=(b&&&d)+256 *(a&&&c):=by
 have q:b+256 *a=2^ 8 *a+b:=af;have w:d+256 *c=2^ 8 *c+d:=af;have z:(b&&&d)+256 *(a&&&c)=2^ 8 *(a&&&c)+(b&&&d):=af;have l:b&&&d<2^ 8:=jk j6 af;rw[q,w,z];apply qV;intro j;rw[iO,x4 a af,x4 c af,x4 (a&&&c) l];by_cases h:j<8
 .simp[h,iO]
 .simp[h,iO]
def f1:∀(e:Fin 2) (b:Fin 256),(128 *e.val+b.val / 2)&&&85=(b.val / 2)&&&85:=by decide+kernel
def f2:∀(e:Fin 4) (b:Fin 256),(64 *e.val+b.val / 4)&&&51=(b.val / 4)&&&51:=by decide+kernel
def f3:∀(e:Fin 5) (b:Fin 256),b.val / 16<=4->b.val % 16<=4->(16 *e.val+b.val / 16+b.val)&&&15=b.val / 16+b.val % 16:=by decide+kernel
def s1 (b:Nat):Nat:=((b / 2)&&&85)+(b&&&85)
def s2 (b:Nat):Nat:=((b / 4)&&&51)+(b&&&51)
def Gj:∀b:Fin 256,s1 b.val<256:=by decide+kernel
def Gk:∀b:Fin 256,s2 (s1 b.val) / 16<=4/\s2 (s1 b.val) % 16<=4/\s2 (s1 b.val) / 16+s2 (s1 b.val) % 16=gM 8 b.val:=by decide+kernel
def P6:∀b:Fin 256,gM 8 b.val<=8:=by decide+kernel
def S1:∀(l:List Nat),(∀b∈l,b<256)->((rW l / 2)&&&rW (l.map λ_=>85))+(rW l&&&rW (l.map λ_=>85))=rW (l.map s1):=by intro l;induction l with
 |nil=>intro _;rfl
 |cons b l B=>
  intro h;have w:=h b ah;have q:=B λx z=>h x (by simp[z])
  simp only[aS,rW];have e:(b+256 *rW l) / 2=(128 *(rW l % 2)+b / 2)+256 *(rW l / 2):=af;rw[e,wJ _ _ _ _ af af,wJ _ _ _ _ w af,f1 ⟨rW l % 2,af⟩ ⟨b,w⟩];dsimp only;rw[show s1 b=((b / 2)&&&85)+(b&&&85) from rfl,<-q];omega
def S2:∀(l:List Nat),(∀b∈l,b<256)->((rW l / 4)&&&rW (l.map λ_=>51))+(rW l&&&rW (l.map λ_=>51))=rW (l.map s2):=by intro l;induction l with
 |nil=>intro _;rfl
 |cons b l B=>
  intro h;have w:=h b ah;have q:=B λx z=>h x (by simp[z])
  simp only[aS,rW];have e:(b+256 *rW l) / 4=(64 *(rW l % 4)+b / 4)+256 *(rW l / 4):=af;rw[e,wJ _ _ _ _ af af,wJ _ _ _ _ w af,f2 ⟨rW l % 4,af⟩ ⟨b,w⟩];dsimp only;rw[show s2 b=((b / 4)&&&51)+(b&&&51) from rfl,<-q];omega
def Yt {l:List Nat} (h:∀b∈l,b / 16<=4/\b % 16<=4):rW l % 16<=4:=by cases l with
 |nil=>decide
 |cons b l=>have:=(h b ah).2;simp only[rW];omega
def S3:∀(l:List Nat),(∀b∈l,b / 16<=4/\b % 16<=4)->(rW l / 16+rW l)&&&rW (l.map λ_=>15)=rW (l.map λb=>b / 16+b % 16):=by intro l;induction l with
 |nil=>intro _;rfl
 |cons b l B=>
  intro h;have z:=h b ah;have w:=B λx q=>h x (by simp[q])
  have D:=Yt λx q=>h x (eo b q)
  simp only[aS,rW];have e:(b+256 *rW l) / 16+(b+256 *rW l)=(16 *(rW l % 16)+b / 16+b)+256 *(rW l / 16+rW l):=af;rw[e,wJ _ _ _ _ af af,f3 ⟨rW l % 16,af⟩ ⟨b,af⟩ z.1 z.2,w]
def XH:∀(k b m:Nat),b<2^ k->∀n,gM (k+n) (b+2^ k *m)=gM k b+gM n m:=by intro k;induction k with
 |zero=>intro b m l n;simp at l;subst l;simp[gM]
 |succ k w=>
  intro b m l n;rw[show k+1+n=(k+n)+1 by omega];simp only[gM];rw[x5] at l⊢;have e1:(b+2^ k *2 *m) % 2=b % 2:=by rw[show 2^ k *2 *m=2 *(2^ k *m) by rw[Nat.mul_comm (2^ k) 2,Nat.mul_assoc]];omega
  have q:(b+2^ k *2 *m) / 2=b / 2+2^ k *m:=by rw[show 2^ k *2 *m=2 *(2^ k *m) by rw[Nat.mul_comm (2^ k) 2,Nat.mul_assoc]];omega
  rw[e1,q,w (b / 2) m af n];omega
def uQ (b m n:Nat) (l:b<256):gM (8+n) (b+256 *m)=gM 8 b+gM n m:=XH 8 b m af n
def fold (x:Nat):Nat:=
 let a:=x+x / 256;let b:=a+a / 65536
 b+b / 4294967296
def ZW {r k y:Nat} (h:r<k):(r+k *y) / k=y:=by rw[Nat.add_mul_div_left _ _ af,Nat.div_eq_of_lt h,gy]
def aao {G F D B z w q l:Nat} (L:G<=8) (N:F<=8) (O:D<=8) (P:B<=8) (Q:z<=8) (R:w<=8) (S:q<=8) (U:l<=8):
  fold (rW [G,F,D,B,z,w,q,l]) % 128=G+F+D+B+z+w+q+l/\fold (rW [G,F,D,B,z,w,q,l])<9223372036854775808:=by
 have H:rW [G,F,D,B,z,w,q,l]=G+256 *(F+256 *D+65536 *B+16777216 *z+4294967296 *w+1099511627776 *q+281474976710656 *l):=by simp only[rW];omega
 have e1:G+256 *(F+256 *D+65536 *B+16777216 *z+4294967296 *w+1099511627776 *q+281474976710656 *l)+(F+256 *D+65536 *B+16777216 *z+4294967296 *w+1099511627776 *q+281474976710656 *l)
   =((G+F)+256 *(F+D))+65536 *((D+B)+256 *(B+z)+65536 *(z+w)+16777216 *(w+q)+4294967296 *(q+l)+1099511627776 *l):=by omega
 have I:((G+F)+256 *(F+D))+65536 *((D+B)+256 *(B+z)+65536 *(z+w)+16777216 *(w+q)+4294967296 *(q+l)+1099511627776 *l)+((D+B)+256 *(B+z)+65536 *(z+w)+16777216 *(w+q)+4294967296 *(q+l)+1099511627776 *l)
   =((G+F+D+B)+256 *(F+D+B+z)+65536 *(D+B+z+w)+16777216 *(B+z+w+q))+4294967296 *((z+w+q+l)+256 *(w+q+l)+65536 *(q+l)+16777216 *l):=by omega
 have K:((G+F+D+B)+256 *(F+D+B+z)+65536 *(D+B+z+w)+16777216 *(B+z+w+q))+4294967296 *((z+w+q+l)+256 *(w+q+l)+65536 *(q+l)+16777216 *l)+((z+w+q+l)+256 *(w+q+l)+65536 *(q+l)+16777216 *l)
   =(G+F+D+B+z+w+q+l)+128 *(2 *(F+D+B+z)+512 *(D+B+z+w)+131072 *(B+z+w+q)+33554432 *((z+w+q+l)+256 *(w+q+l)+65536 *(q+l)+16777216 *l)+2 *(w+q+l)+512 *(q+l)+131072 *l):=by omega
 simp only[fold];rw[H,ZW af,e1,ZW af,I,ZW af,K,Nat.add_mul_mod_self_left];exact⟨sW af,af⟩
def bytes8 {x:Nat} (w:x<18446744073709551616):∃l:List Nat,l.length=8/\(∀b∈l,b<256)/\x=rW l:=by
 refine⟨[x % 256,x / 256 % 256,x / 65536 % 256,x / 16777216 % 256,x / 4294967296 % 256,x / 1099511627776 % 256,x / 281474976710656 % 256,x / 72057594037927936],rfl,?_,?_⟩
 .intro b q;simp only[aG,eL,eS] at q;omega
 .simp only[rW];omega
def x1 (x:Nat):Nat:=((x / 2)&&&6148914691236517205)+(x&&&6148914691236517205)
def x2 (x:Nat):Nat:=((x / 4)&&&3689348814741910323)+(x&&&3689348814741910323)
def x3 (x:Nat):Nat:=(x / 16+x)&&&1085102592571150095
def len8 {l:List Nat} (h:l.length=8):∃a b c d e f g i,l=[a,b,c,d,e,f,g,i]:=by match l,h with
 |[a,b,c,d,e,f,g,i],_=>exact⟨a,b,c,d,e,f,g,i,rfl⟩
def ofB_lt:∀{l:List Nat},(∀b∈l,b<256)->rW l<256^ l.length:=by intro l;induction l with
 |nil=>intro _;decide
 |cons b l w=>
  intro h;have z:=h b ah;have B:=w λx q=>h x (by simp[q])
  simp only[rW,bg,x5];omega
def ofB_lt2:∀{l:List Nat},(∀b∈l,b<128)->rW l+rW l<256^ l.length:=by intro l;induction l with
 |nil=>intro _;decide
 |cons b l w=>
  intro h;have z:=h b ah;have B:=w λx q=>h x (by simp[q])
  simp only[rW,bg,x5];omega
def pop_eq {x:Nat} (hx:x<18446744073709551616):fold (x3 (x2 (x1 x))) % 128=gM 64 x/\x1 x<18446744073709551616/\x2 (x1 x)<18446744073709551616/\x2 (x1 x) / 16+x2 (x1 x)<18446744073709551616/\fold (x3 (x2 (x1 x)))<9223372036854775808:=by
 obtain⟨l,hl,q,rfl⟩:=bytes8 hx;obtain⟨a,b,c,d,e,f,g,i,rfl⟩:=len8 hl;simp only[aG,eL,eS,forall_eq_or_imp,forall_eq] at q;obtain⟨H,q,w,K,L,N,O,P⟩:=q;have q1:x1 (rW [a,b,c,d,e,f,g,i])=rW [s1 a,s1 b,s1 c,s1 d,s1 e,s1 f,s1 g,s1 i]:=by have:=S1 [a,b,c,d,e,f,g,i] aF;simp only[aS,dR] at this;rw[show rW [85,85,85,85,85,85,85,85]=6148914691236517205 by decide+kernel] at this;exact this
 have A:=Gj ⟨a,H⟩;have B:=Gj ⟨b,q⟩;have C:=Gj ⟨c,w⟩;have D:=Gj ⟨d,K⟩;have E:=Gj ⟨e,L⟩;have F:=Gj ⟨f,N⟩;have G:=Gj ⟨g,O⟩;have I:=Gj ⟨i,P⟩;dsimp only at A B C D E F G I;have q2:x2 (rW [s1 a,s1 b,s1 c,s1 d,s1 e,s1 f,s1 g,s1 i])=rW [s2 (s1 a),s2 (s1 b),s2 (s1 c),s2 (s1 d),s2 (s1 e),s2 (s1 f),s2 (s1 g),s2 (s1 i)]:=by have:=S2 [s1 a,s1 b,s1 c,s1 d,s1 e,s1 f,s1 g,s1 i] aF;simp only[aS,dR] at this;rw[show rW [51,51,51,51,51,51,51,51]=3689348814741910323 by decide+kernel] at this;exact this
 have Q:=Gk ⟨a,H⟩;have S:=Gk ⟨b,q⟩;have C2:=Gk ⟨c,w⟩;have D2:=Gk ⟨d,K⟩;have E2:=Gk ⟨e,L⟩;have F2:=Gk ⟨f,N⟩;have G2:=Gk ⟨g,O⟩;have I2:=Gk ⟨i,P⟩;dsimp only at Q S C2 D2 E2 F2 G2 I2;have q3:x3 (rW [s2 (s1 a),s2 (s1 b),s2 (s1 c),s2 (s1 d),s2 (s1 e),s2 (s1 f),s2 (s1 g),s2 (s1 i)])=rW [gM 8 a,gM 8 b,gM 8 c,gM 8 d,gM 8 e,gM 8 f,gM 8 g,gM 8 i]:=by have:=S3 [s2 (s1 a),s2 (s1 b),s2 (s1 c),s2 (s1 d),s2 (s1 e),s2 (s1 f),s2 (s1 g),s2 (s1 i)] aF;simp only[aS,dR,Q.2.2,S.2.2,C2.2.2,D2.2.2,E2.2.2,F2.2.2,G2.2.2,I2.2.2] at this;rw[show rW [15,15,15,15,15,15,15,15]=1085102592571150095 by decide+kernel] at this;exact this
 have R:=P6 ⟨a,H⟩;have U:=P6 ⟨b,q⟩;have V:=P6 ⟨c,w⟩;have D3:=P6 ⟨d,K⟩;have E3:=P6 ⟨e,L⟩;have F3:=P6 ⟨f,N⟩;have G3:=P6 ⟨g,O⟩;have I3:=P6 ⟨i,P⟩;dsimp only at R U V D3 E3 F3 G3 I3;have w:gM 64 (rW [a,b,c,d,e,f,g,i])=gM 8 a+gM 8 b+gM 8 c+gM 8 d+gM 8 e+gM 8 f+gM 8 g+gM 8 i:=by simp only[rW];rw[uQ _ _ 56 H,uQ _ _ 48 q,uQ _ _ 40 (by assumption),uQ _ _ 32 K,uQ _ _ 24 L,uQ _ _ 16 N,uQ _ _ 8 O,Nat.mul_zero,qx];omega
 have z:=aao R U V D3 E3 F3 G3 I3;rw[q1,q2,q3,z.1,w];have k1:=ofB_lt (l:=[s1 a,s1 b,s1 c,s1 d,s1 e,s1 f,s1 g,s1 i]) aF;have k2:=ofB_lt2 (l:=[s2 (s1 a),s2 (s1 b),s2 (s1 c),s2 (s1 d),s2 (s1 e),s2 (s1 f),s2 (s1 g),s2 (s1 i)]) aF;have e8:256^ 8=18446744073709551616:=by decide+kernel
 rw[show[s1 a,s1 b,s1 c,s1 d,s1 e,s1 f,s1 g,s1 i].length=8 from rfl,e8] at k1;rw[show[s2 (s1 a),s2 (s1 b),s2 (s1 c),s2 (s1 d),s2 (s1 e),s2 (s1 f),s2 (s1 g),s2 (s1 i)].length=8 from rfl,e8] at k2;generalize rW [s2 (s1 a),s2 (s1 b),s2 (s1 c),s2 (s1 d),s2 (s1 e),s2 (s1 f),s2 (s1 g),s2 (s1 i)]=y at k2;exact⟨rfl,k1,by omega,by omega,z.2⟩
def Zp {w v:Nat} (q:w<18446744073709551616) (l:v<18446744073709551616):wrap .u64 ((ofInt (IntKind.bits .u64) (w:Int)&&&ofInt (IntKind.bits .u64) (v:Int)).toNat:Int)=((w&&&v:Nat):Int):=by
 have o:∀w:Nat,ofInt (IntKind.bits .u64) (w:Int)=BitVec.ofNat 64 w:=λw=>CY 64 w
 rw[o,o];have h:w&&&v<=w:=j6;have e:(BitVec.ofNat 64 w&&&BitVec.ofNat 64 v).toNat=w&&&v:=by rw[BitVec.toNat_and,ue,ue,sW (by simpa using q),sW (by simpa using l)]
 show wrap .u64 (((BitVec.ofNat 64 w&&&BitVec.ofNat 64 v).toNat:Nat):Int)=_;rw[e,sD af af]
def divN (w:Nat) {k:Nat} {j:Int} (l:toNat j=k) (q:k<=64):Int.fdiv (w:Int) (2^ min (toNat j) (IntKind.bits .u64))=((w / 2^ k:Nat):Int):=by
 have e:min k (IntKind.bits .u64)=k:=by show min k 64=k;omega
 rw[l,e,show(2^ k:Int)=((2^ k:Nat):Int) by simp,CV _ (xQ _)];simp
def addN {w v:Nat} (h:w+v<18446744073709551616):wrap .u64 ((w:Int)+(v:Int))=((w+v:Nat):Int):=by rw[sD af af];omega
def t1 {x:Nat} (l:x<18446744073709551616) (h:x1 x<18446744073709551616):wrap .u64 ((wrap .u64 ((ofInt (IntKind.bits .u64) (Int.fdiv (x:Int) (2^ min (toNat 1) (IntKind.bits .u64)))&&&ofInt (IntKind.bits .u64) 6148914691236517205).toNat:Int))+(wrap .u64 ((ofInt (IntKind.bits .u64) (x:Int)&&&ofInt (IntKind.bits .u64) 6148914691236517205).toNat:Int)))=((x1 x:Nat):Int):=by have c:(6148914691236517205:Int)=((6148914691236517205:Nat):Int):=rfl;rw[divN x (k:=1) rfl af,c,Zp af af,Zp l af,addN h];rfl
def t2 {x:Nat} (l:x<18446744073709551616) (h:x2 x<18446744073709551616):wrap .u64 ((wrap .u64 ((ofInt (IntKind.bits .u64) (Int.fdiv (x:Int) (2^ min (toNat 2) (IntKind.bits .u64)))&&&ofInt (IntKind.bits .u64) 3689348814741910323).toNat:Int))+(wrap .u64 ((ofInt (IntKind.bits .u64) (x:Int)&&&ofInt (IntKind.bits .u64) 3689348814741910323).toNat:Int)))=((x2 x:Nat):Int):=by have c:(3689348814741910323:Int)=((3689348814741910323:Nat):Int):=rfl;rw[divN x (k:=2) rfl af,c,Zp af af,Zp l af,addN h];rfl
def t3 {x:Nat} (h:x / 16+x<18446744073709551616):wrap .u64 ((ofInt (IntKind.bits .u64) (wrap .u64 ((Int.fdiv (x:Int) (2^ min (toNat 4) (IntKind.bits .u64)))+(x:Int)))&&&ofInt (IntKind.bits .u64) 1085102592571150095).toNat:Int)=((x3 x:Nat):Int):=by have c:(1085102592571150095:Int)=((1085102592571150095:Nat):Int):=rfl;rw[divN x (k:=4) rfl af,addN h,c,Zp h af];rfl
def t4 {x k:Nat} {j:Int} (l:toNat j=k) (q:k<=64) (h:x+x / 2^ k<18446744073709551616):wrap .u64 ((x:Int)+(Int.fdiv (x:Int) (2^ min (toNat j) (IntKind.bits .u64))))=((x+x / 2^ k:Nat):Int):=by rw[divN x l q,addN h]
def t5 {x:Nat} (h:x<9223372036854775808):wrap .i64 ((ofInt (IntKind.bits .i64) (wrap .i64 (x:Int))&&&ofInt (IntKind.bits .i64) 127).toNat:Int)=((x % 128:Nat):Int):=by
 have l:wrap .i64 (x:Int)=(x:Int):=jN af af;rw[l];have o:ofInt (IntKind.bits .i64) (x:Int)=BitVec.ofNat 64 x:=CY 64 x;have q:ofInt (IntKind.bits .i64) 127=BitVec.ofNat 64 127:=rfl;rw[o,q];have e:(BitVec.ofNat 64 x&&&BitVec.ofNat 64 127).toNat=x % 128:=by rw[BitVec.toNat_and,ue,ue,sW (show x<2^ 64 by omega)];exact Nat.and_two_pow_sub_one_eq_mod x 7
 show wrap .i64 (((BitVec.ofNat 64 x&&&BitVec.ofNat 64 127).toNat:Nat):Int)=_;rw[e,jN af af]
end pop
end Go.Proofs.YthppjmoncapdfaaGreatDoor.cl
namespace Go.Proofs.YthppjmoncapdfaaGreatDoor.cl
open Go Go.AM
namespace pop
def cntN_le:∀(n w:Nat),gM n w<=n:=by intro n;induction n with
 |zero=>intro w;exact aU _
 |succ n l=>intro w;have:=l (w / 2);simp only[gM];omega
def t48 {x:Nat} (h:x+x / 256<18446744073709551616):wrap .u64 ((x:Int)+(Int.fdiv (x:Int) (2^ min (toNat 8) (IntKind.bits .u64))))=((x+x / 256:Nat):Int):=t4 (k:=8) rfl af h
def t416 {x:Nat} (h:x+x / 65536<18446744073709551616):wrap .u64 ((x:Int)+(Int.fdiv (x:Int) (2^ min (toNat 16) (IntKind.bits .u64))))=((x+x / 65536:Nat):Int):=t4 (k:=16) rfl af h
def t432 {x:Nat} (h:x+x / 4294967296<18446744073709551616):wrap .u64 ((x:Int)+(Int.fdiv (x:Int) (2^ min (toNat 32) (IntKind.bits .u64))))=((x+x / 4294967296:Nat):Int):=t4 (k:=32) rfl af h
def TD {x:Nat} (h:fold x<9223372036854775808):x+x / 256<18446744073709551616/\x+x / 256+(x+x / 256) / 65536<18446744073709551616/\fold x=x+x / 256+(x+x / 256) / 65536+(x+x / 256+(x+x / 256) / 65536) / 4294967296:=by
 have e:fold x=x+x / 256+(x+x / 256) / 65536+(x+x / 256+(x+x / 256) / 65536) / 4294967296:=rfl;rw[e] at h;refine⟨?_,?_,e⟩
 .generalize x+x / 256=a at h⊢;generalize a / 65536=b at h;generalize (a+b) / 4294967296=c at h;omega
 .generalize x+x / 256+(x+x / 256) / 65536=a at h⊢;generalize a / 4294967296=c at h;omega
end pop
end Go.Proofs.YthppjmoncapdfaaGreatDoor.cl
namespace Go.Proofs.YthppjmoncapdfaaGreatDoor.cl
open Go Go.AM
def o31 {w v:Nat} (q:w<18446744073709551616) (l:v<18446744073709551616):f31 (e1 w) (e1 v)=some (decide (w=v)):=by
 refine e31 ?_;rw[o63 q l,ak,o63 l q,ak];by_cases h:w=v
 .subst h;rw[xz];simp
 .cases z:sub w v with
  |false=>simp[h]
  |true=>cases B:sub v w with
   |false=>simp[h]
   |true=>exact absurd (rN z B) h
def aaf {d:List aB} (A:Acc d) (q:d.length<=64):Fm (nY d) (zm (nY d))/\∀w∈zm (nY d),Dn d w:=by
 have l:(nY d).length<=256:=by have:=GR (d:=d);omega
 obtain⟨F,_,_⟩:=Dz (AY A) Mt l
 exact⟨F,F.gen (Dn d) (λc z=>by
  obtain⟨x,_,rfl⟩:=aD.1 z
  exact ZX x) (λa b=>dn_and)⟩
def Rq {d:List aB} (A:Acc d) (l:d.length<=64):((cN d).map (·.1)).Nodup:=by obtain⟨F,D⟩:=aaf A l;have z:=(A2 (d:=d)).2.map (·.1);rw[eV] at z;refine z.nodup_iff.2 (LD F.nd λx q y w h=> ?_);exact nmW_inj A l (PA F (B0 l) x q) (PA F (B0 l) y w) (F.nz x q) (F.nz y w) (D x q) (D y w) h
def acQ {D:Type} {l:List D} (h:l.Nodup) {i k:Nat} (z:i<l.length) (B:k<l.length) (e:l[i]=l[k]):i=k:=by
 have w:=mX.1 h;rcases Nat.lt_trichotomy i k with q|q|q
 .exact absurd e (w i k z B q)
 .exact q
 .exact absurd e.symm (w k i B z q)
structure Ok (d:List aB):Prop where
 z:Sz d
 acc:Acc d
 len:d.length<=64
 le:(zm (nY d)).length<=256
noncomputable def tys (d:List aB):List Nat:=(cN d).map (·.2)
noncomputable def zU (d:List aB):List dY:=(cN d).map Kq
def nk {d:List aB}:(zU d).length=(tys d).length:=by simp[tys,zU]
def Ok.TN {d:List aB} (h:Ok d):Za (tys d):=cl.TN h.acc h.len h.le
def Ok.cd {d:List aB} (h:Ok d):Cd (zU d) (tys d):=cd_ents h.acc h.len h.le
def Ok.cF {d:List aB} (h:Ok d):(tys d).length<=256:=by have:=(AZ (d:=d)).length_eq;rw[tys,this];exact h.le
def Ok.lt {d:List aB} (h:Ok d) {i:Nat} (l:i<(tys d).length):(tys d).getD i 0<18446744073709551616:=h.cd.get l
noncomputable abbrev cwd (d:List aB) (x:cL):Nat:=cw d (iw d) x
def Ok.cwlt {d:List aB} (h:Ok d) (x:cL):cwd d x<18446744073709551616:=ZV (by have:=oc (d:=d);have:=h.len;omega)
def ZU {d:List aB} (A:Acc d) (l:d.length<=64) {x:cL} (w:x∈jI d):cwd d x∈zm (nY d):=by obtain⟨F,D⟩:=aaf A l;obtain⟨e,q⟩:=F.pre;rw[q];refine dV _ (aD.2 ⟨x,?_,rfl⟩);exact gx.2 w
def Ok.cwmem {d:List aB} (h:Ok d) {x:cL} (l:x∈jI d):cwd d x∈tys d:=(AZ (d:=d)).mem_iff.2 (ZU h.acc h.len l)
def Ok.entmem {d:List aB} (h:Ok d) {x:cL} (l:x∈jI d):((x,cwd d x):GL)∈cN d:=by
 refine(A2 (d:=d)).2.mem_iff.2 (aD.2 ⟨cwd d x,ZU h.acc h.len l,?_⟩)
 have:nmW d (cwd d x)=x:=by rw[UB h.acc h.len (ZX x),WC h.acc h.len l];rfl
 show(nmW d (cwd d x),cwd d x)=_;rw[this]
noncomputable def nu (d:List aB) (x:cL):Nat:=(gK (λc:dY=>c.Name==x) (zU d) 0).toNat
def Ok.yG {d:List aB} (h:Ok d) {x:cL} (Q:x∈jI d):gK (λc:dY=>c.Name==x) (zU d) 0=(nu d x:Int)/\nu d x<(tys d).length/\(tys d).getD (nu d x) 0=cwd d x/\∃R:nu d x<(zU d).length,(zU d)[nu d x].Name=x:=by
 have l:=h.entmem Q;obtain⟨j,F,e⟩:=V5 (λc:dY=>c.Name==x) (zU d) 0 ⟨Kq (x,cwd d x),aD.2 ⟨_,l,rfl⟩,by simp[Kq]⟩;have B:gK (λc:dY=>c.Name==x) (zU d) 0=(j:Int):=by have:=e.1;simpa using this
 have K:nu d x=j:=by unfold nu;rw[B];simp
 obtain⟨_,c,N,w⟩:=aaQ _ _ _ _ B;obtain⟨p,P,z⟩:=iz.1 l;have q:j<(cN d).length:=by simpa[zU] using F
 rw[ua,zU,dF,aM q] at N;have D:(cN d)[j].1=x:=by have O:c=Kq (cN d)[j]:=(cU N).symm;rw[O] at w;exact gj.1 w
 have I:=Rq h.acc h.len;have H:j=p:=by
  have G:j<((cN d).map (·.1)).length:=by simpa using q
  have L:p<((cN d).map (·.1)).length:=by simpa using P
  refine acQ I G L ?_;rw[oJ,oJ,D,z]
 rw[K];refine⟨B,by rw[<-nk];exact F,?_,F,by simpa using e.2.1⟩;subst H;show((cN d).map (·.2)).getD j 0=_;rw[aZ,dF,aM q,z];rfl
def IY {d:List aB} {t:aB} (h:t∈d):t.Name∈jI d:=aD.2 ⟨t,h,rfl⟩
end Go.Proofs.YthppjmoncapdfaaGreatDoor.cl
namespace Go.Proofs.YthppjmoncapdfaaGreatDoor.cl
open Go Go.AM
def upperB (c:UInt8):Bool:=decide (65<=c.toNat)&&decide (c.toNat<=90)
def wu (s:cL):Bool:=decide (1<=s.length)&&decide (s.length<=32)&& !nN (s.getD 0 0)&& !(s.getD 0 0).toNat==45&&s.all λc=>nN c||c.toNat==45||upperB c
def c166 (c:UInt8):f166 (c.toNat:Int)=some (upperB c):=by
 refine e166 ?_;by_cases h:65<=c.toNat
 .rw[cond_pos aF];simp only[upperB,h,uc,gl];congr 1;rw[mV];omega
 .rw[cond_neg aF];simp[upperB,h]
def c160t (c:UInt8):f160 (c.toNat:Int) true=some (nN c||c.toNat==45||upperB c):=by refine e160 ?_;rw[c159,ak,c166,ak];cases nN c with
 |true=>rfl
 |false=>
  by_cases h:c.toNat=45
  .rw[aA,cond_pos aF];simp[h]
  .rw[aA,cond_neg aF];cases upperB c<;>simp[h]
def h140t (s:cL) (l:s.length<=1073741824):∀(xs:cL) (i:Nat),s.drop i=xs->JP s true i=some (xs.all λc=>nN c||c.toNat==45||upperB c):=by intro xs;induction xs with
 |nil=>intro i h;refine MY ?_;rw[bq h];rfl
 |cons x xs q=>intro i h;refine MY ?_;rw[bf h,ai,aQ h,c160t,ak,aX h l,q (i+1) (aH h),gP];cases(nN x||x.toNat==45||upperB x)<;>rfl
def c372 (s:cL):f372 s=some (wu s):=by
 refine e372 ?_
 have:f140 s true=some (wu s):=by
  refine e140 ?_;by_cases l:1<=s.length
  .rw[cond_neg aF];by_cases q:s.length<=32
   .rw[cond_neg aF,show(0:Int)=((0:Nat):Int) from rfl,bS af,c159,ak,bS af,h140t s af s 0 rfl];have z:s.getD 0 0=s[0]:=by rw[aZ,aM af];rfl
    unfold wu;rw[z];cases nN s[0] with
    |true=>simp[l,q]
    |false=>
     by_cases w:s[0].toNat=45
     .rw[aA,cond_pos aF];simp[w]
     .rw[aA,cond_neg aF];simp[l,q,w]
   .rw[cond_pos aF];simp[wu,q]
  .rw[cond_pos aF];simp[wu,l]
 rw[this];rfl
def Fz (d:List aB):Prop:=∀t∈d,t.cE.length<=1048576
def val (t:aB) (F:cL):Option cL:=(t.cE.find? λx=>x.aT==F).map (·.Value)
def h373 (t:aB) (F:cL) (q:t.cE.length<=1048576):∀(xs:List bT) (i:Nat),t.cE.drop i=xs->
  Oz F i t=some (match xs.find? λx=>x.aT==F with|some x=>(x.Value,true)|none=>([],false)):=by
 intro xs;induction xs with
 |nil=>intro i h;refine abr ?_;rw[bq h];rfl
 |cons x xs l=>intro i h;refine abr ?_;rw[bf h,ai,aQ h,aQ h,aX h af,l (i+1) (aH h),qX];cases x.aT==F<;>rfl
def c373 (t:aB) (F:cL) (l:t.cE.length<=1048576):f373 t F=some (match val t F with|some v=>(v,true)|none=>([],false)):=by refine e373 ((h373 t F l t.cE 0 rfl).trans ?_);rw[val];cases t.cE.find? λx=>x.aT==F<;>rfl
def ads {t:aB} {F v:cL} (h:val t F=some v):∃x∈t.cE,x.aT=F/\x.Value=v:=by unfold val at h;obtain⟨x,l,rfl⟩:=bZ.1 h;exact⟨x,oH l,by simpa using oI l,rfl⟩
abbrev fns (t:aB):List cL:=t.cE.map (·.aT)
def fal (d:List aB):List cL:=d.flatMap fns
def pO (d:List aB):List cL:=mA (fal d)
def h345b {d:List aB} {i:Nat} {t:aB} (q:d[i]? =some t) (F:t.cE.length<=1048576) {r:List cL}:∀(xs:List bT) (k:Nat) (o:List cL),t.cE.drop k=xs->o.length<=1072000000+k->
  JS d ((xs.map (·.aT)).foldl (λo s=>qp s o) o) (i+1:Nat)=some r->i<1000000->Om d o i k=some r:=by
 intro xs;induction xs with
 |nil=>intro k o h z w l;refine abc ?_;rw[ey q,bq h,aA,bp af];exact w
 |cons x xs B=>intro k o h z w l;refine abc ?_;have D:=c9 h;have G:=mK x.aT o;rw[ey q,bf h,ai,ey q,aQ h,c98 _ _ af,ak,aX h af];exact B (k+1) _ (aH h) af w l
def h345 {d:List aB} (I:d.length<=1000) (z:Fz d):∀(xs:List aB) (i:Nat) (o:List cL),d.drop i=xs->o.length<=1048576 *i->JS d o i=some ((fal xs).foldl (λo s=>qp s o) o):=by intro xs;induction xs with
 |nil=>intro i o h B;refine abb ?_;rw[bq h];rfl
 |cons t xs w=>
  intro i o h B;refine abb ?_;have H:=c9 h;have D:=z t (aI (bA h));rw[bf h,ai];refine h345b (bA h) D t.cE 0 o rfl af ?_ af;have q:(((fns t)).foldl (λo s=>qp s o) o).length<=o.length+(fns t).length:=by
   have:∀(l o:List cL),(l.foldl (λo s=>qp s o) o).length<=o.length+l.length:=by intro l;induction l with
    |nil=>intro o;simp
    |cons a l w=>intro o;have F:=mK a o;have G:=w (qp a o);rw[fD,bg];omega
   exact this _ _
  rw[aV] at q;rw[w (i+1) ((fns t).foldl (λo s=>qp s o) o) (aH h) af];unfold fal;rw[oL,List.foldl_append]
def c345 {d:List aB} (q:d.length<=1000) (l:Fz d):f345 d=some (pO d):=e345 (h345 q l d 0 [] rfl ah)
def TB (w:List cL):List cL->List bT->Int
 |_,[]=>0
 |q,x::l=>if wu x.aT=false then 1 else if x.aT∈q then 4 else if x.Value∈w then TB w (q++[x.aT]) l else 5
def qG (l:List cL):List aB->Int
 |[]=>0
 |t::d=>if TB l [] t.cE=0 then qG l d else TB l [] t.cE
def aag (F:List cL):∀(l:List bT) (q:List cL),TB F q l=0↔(∀x∈l,wu x.aT=true/\x.Value∈F)/\(l.map (·.aT)).Nodup/\∀x∈l,x.aT∉q:=by intro l;induction l with
 |nil=>intro q;simp[TB]
 |cons x l I=>intro q;unfold TB;cases G:wu x.aT with
  |false=>simp[G]
  |true=>
   rw[au ah];by_cases B:x.aT∈q
   .rw[az B];simp[B]
   .rw[au B];by_cases D:x.Value∈F
    .rw[az D,I];constructor
     .rintro⟨a,b,c⟩;refine⟨λy w=> ?_,?_,λy w=> ?_⟩
      .rcases aG.1 w with rfl|w
       .exact⟨G,D⟩
       .exact a y w
      .rw[aS,fA];refine⟨λH=> ?_,b⟩;obtain⟨y,w,e⟩:=aD.1 H;exact c y w (by rw[e];simp)
      .rcases aG.1 w with rfl|w
       .exact B
       .exact λz=>c y w (by simp[z])
     .rintro⟨a,b,c⟩;rw[aS,fA] at b;refine⟨λy w=>a y (by simp[w]),b.2,λy w z=> ?_⟩;rcases bw.1 z with z|z
      .exact c y (by simp[w]) z
      .exact b.1 (aD.2 ⟨y,w,by simpa using z⟩)
    .rw[au D];constructor
     .intro h;cases h
     .rintro⟨a,_⟩;exact absurd (a x ah).2 D
def TA (w:List cL):∀(d:List aB),qG w d=0↔∀t∈d,(∀x∈t.cE,wu x.aT=true/\x.Value∈w)/\(fns t).Nodup:=by intro d;induction d with
 |nil=>simp[qG]
 |cons t d B=>
  unfold qG;have z:=aag w t.cE [];by_cases h:TB w [] t.cE=0
  .rw[az h,B];obtain⟨a,b,_⟩:=z.1 h;constructor
   .intro l u q;rcases aG.1 q with rfl|q
    .exact⟨a,b⟩
    .exact l u q
   .exact λl u q=>l u (by simp[q])
  .rw[au h];constructor
   .intro l;exact absurd l h
   .intro l;obtain⟨a,b⟩:=l t ah;exact absurd (z.2 ⟨a,b,λx _=>by simp⟩) h
def h346c {d:List aB} {all:List cL} (q:all.length<=1073741824) {i k:Nat} {l:List bT} (H:l.length<=1048576) (z:k<l.length) {r:Int}
  (F:(if l[k].Value∈all then JU d all i l (k+1:Nat) else some 5)=some r):∀(n m:Nat),k-m=n->m<=k->
  Hf d all i l k m=some (if l[k].aT∈((l.take k).drop m).map (·.aT) then 4 else r):=by
 intro n;induction n with
 |zero=>
  intro m B w
  have:m=k:=af
  subst this;refine Wf ?_;rw[cond_neg ah,bS z,ZF _ _ q,ak];have e:(l.take m).drop m=[]:=by rw[List.drop_eq_nil_iff,fI];omega
  rw[e,au ah,<-F,bp af];by_cases h:l[m].Value∈all
  .rw[az h,cond_neg (by simpa using h)]
  .rw[au h,cond_pos (by simpa using h)]
 |succ n G=>
  intro m B w;have D:m<k:=af;refine Wf ?_;rw[cond_pos aF,bS af,bS z,bp af,G (m+1) af af];have e:(l.take k).drop m=l[m]::(l.take k).drop (m+1):=by rw[kW (by rw[fI];omega),List.getElem_take]
  rw[e,aS];by_cases h:l[m].aT=l[k].aT
  .rw[cond_pos (by simpa using h),az (by rw[h];simp)]
  .rw[cond_neg (by simpa using h)];simp only[aG,cO h,false_or]
def h346b {d:List aB} {all:List cL} (w:all.length<=1073741824) {i:Nat} (N:i<1000000) {l:List bT} (G:l.length<=1048576) {r:Int} (H:JT d all (i+1:Nat)=some r):∀(xs:List bT) (k:Nat),l.drop k=xs->
  JU d all i l k=some (if TB all ((l.take k).map (·.aT)) xs=0 then r else TB all ((l.take k).map (·.aT)) xs):=by
 intro xs;induction xs with
 |nil=>intro k h;refine abe ?_;rw[bq h,aA,bp af,H];rfl
 |cons x xs K=>
  intro k h;refine abe ?_;have F:=c9 h;have D:l[k]=x:=(bF.1 (bA h)).2;have B:(l.take k).map (·.aT)++[x.aT]=(l.take (k+1)).map (·.aT):=by rw[cr,bA h];simp
  rw[bf h,ai,aQ h,c372,ak];unfold TB;cases L:wu x.aT with
  |false=>rfl
  |true=>
   rw[gC,aA];rw[au (by simp:¬(true=false)),B];have I:=K (k+1) (aH h)
   rw[show(0:Int)=((0:Nat):Int) from rfl,h346c w G F (r:=if x.Value∈all then(if TB all ((l.take (k+1)).map (·.aT)) xs=0 then r else TB all ((l.take (k+1)).map (·.aT)) xs) else 5) (by
    rw[D];by_cases q:x.Value∈all
    .rw[az q,az q];exact I
    .rw[au q,au q]) _ 0 rfl af,uf,D]
   by_cases z:x.aT∈(l.take k).map (·.aT)
   .rw[az z,az z];rfl
   .rw[au z,au z];by_cases q:x.Value∈all
    .rw[az q,az q];rfl
    .rw[au q,au q];rfl
def h346 {d:List aB} (B:d.length<=1000) (q:Fz d) {all:List cL} (l:all.length<=1073741824):∀(xs:List aB) (i:Nat),d.drop i=xs->JT d all i=some (qG all xs):=by intro xs;induction xs with
 |nil=>intro i h;refine abd ?_;rw[bq h];rfl
 |cons t xs z=>intro i h;refine abd ?_;have D:=c9 h;have w:=q t (aI (bA h));rw[bf h,ai,aQ h,show(0:Int)=((0:Nat):Int) from rfl,h346b l af w (z (i+1) (aH h)) t.cE 0 rfl];rfl
def XT {w ms:List cL} (h:∀x,x∈w↔x∈ms):∀(l:List bT) (q:List cL),TB w q l=TB ms q l:=by intro l;induction l with
 |nil=>intro _;rfl
 |cons x l z=>intro q;unfold TB;rw[z];simp only[h x.Value]
def Qk {l ms:List cL} (h:∀x,x∈l↔x∈ms):∀(d:List aB),qG l d=qG ms d:=by intro d;induction d with
 |nil=>rfl
 |cons t d q=>unfold qG;rw[q,XT h]
def c346 {d:List aB} (q:d.length<=1000) (w:Fz d):f346 d=some (qG (jI d) d):=by refine e346 ?_;have l:=pE (jI d);rw[aV] at l;rw[c52 d af,ak,show(0:Int)=((0:Nat):Int) from rfl,h346 q w af d 0 rfl,Qk (λx=>gx)]
