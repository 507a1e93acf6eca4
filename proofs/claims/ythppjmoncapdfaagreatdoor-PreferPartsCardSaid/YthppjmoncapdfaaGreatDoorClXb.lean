/- The Closure laws, plain. -/
import Derived.Test.YthppjmoncapdfaaGreatDoorAmI
import Derived.Test.YthppjmoncapdfaaGreatDoorClF
import Derived.Test.YthppjmoncapdfaaGreatDoorClO
import Derived.Lib.DecodeN
import Derived.Test.YthppjmoncapdfaaGreatDoorClT
set_option linter.all false
open Go.IntKind (wrap)
open BitVec (ofInt)
open Int (toNat)
namespace Go.Proofs.YthppjmoncapdfaaGreatDoor.cl
open Go Go.AM
end Go.Proofs.YthppjmoncapdfaaGreatDoor.cl
namespace Go.AM
abbrev Str:Type:=List UInt8
def AK {I:Type}:∀{l m:List I},l.Nodup->(∀x∈l,x∈m)->l.length<=m.length:=by intro l;induction l with
 |nil=>intro m _ _;simp
 |cons x l H=>
  intro m D z;have q:=gl.1 D;obtain⟨a,b,rfl⟩:=xM (z x ah)
  have:=H (m:=a++b) q.2 (λy B=>by
   have w:=z y (by simp[B]);simp only[bn,aD] at w⊢;rcases w with h|h|h
   .exact .inl h
   .subst h;exact absurd B q.1
   .exact .inr h)
  simp only[aT,cC] at this⊢;omega
end Go.AM
namespace Go.AM
section
variable {K V:Type}
def Ii (k:K):vh ([]:List (K×V)) k=none:=by simp[vh]
def DU (x:K×V) (l:List (K×V)) (k:K):vh (x::l) k=open Classical in if k=x.1 then some 0 else(vh l k).map (· +1):=by unfold vh;rw[xO];by_cases h:k=x.1<;>simp[h]
def Hw (k:K):getM ([]:List (K×V)) k=none:=by simp[getM,Ii]
def vN (x:K×V) (l:List (K×V)) (k:K):getM (x::l) k=open Classical in if k=x.1 then some x.2 else getM l k:=by
 unfold getM;rw[DU];by_cases h:k=x.1
 .simp[h]
 .simp only[h,jg];cases vh l k<;>simp
def Iq (k:K) (v:V):yJ [] k v=[(k,v)]:=by simp[yJ,Ii]
def Nd (x:K×V) (l:List (K×V)) (k:K) (v:V):yJ (x::l) k v=open Classical in if k=x.1 then(k,v)::l else x::yJ l k v:=by
 unfold yJ;rw[DU];by_cases h:k=x.1
 .simp[h]
 .simp only[h,jg];cases vh l k<;>simp
variable {R:Type}
def xb {l:List (K×V)} {k:K} {v:V} (h:getM l k=some v) (f:V->Option R) (z:Option R):u6 l k f z=f v:=by unfold u6;rw[h]
def Kq {l:List (K×V)} {k:K} (h:getM l k=none) (f:V->Option R) (z:Option R):u6 l k f z=z:=by unfold u6;rw[h]
def rA {l:Type} (x:l) (k:l->Option R):uD x k=k x:=rfl
end
end Go.AM
namespace Go.Proofs.YthppjmoncapdfaaGreatDoor.cl
open Go Go.AM
end Go.Proofs.YthppjmoncapdfaaGreatDoor.cl
namespace Go.Proofs.YthppjmoncapdfaaGreatDoor.cl
open Go Go.AM
end Go.Proofs.YthppjmoncapdfaaGreatDoor.cl
namespace Go.Proofs.YthppjmoncapdfaaGreatDoor.cl
open Go Go.AM
end Go.Proofs.YthppjmoncapdfaaGreatDoor.cl
namespace Go.Proofs.YthppjmoncapdfaaGreatDoor.cl
open Go Go.AM
namespace pop
def nW:List Nat->Nat
 |[]=>0
 |b::l=>b+256 *nW l
def r5 (a b c d:Nat) (B:b<256) (D:d<256):(b+256 *a)&&&(d+256 *c)=(b&&&d)+256 *(a&&&c):=by
 have q:b+256 *a=2^ 8 *a+b:=af;have w:d+256 *c=2^ 8 *c+d:=af;have z:(b&&&d)+256 *(a&&&c)=2^ 8 *(a&&&c)+(b&&&d):=af;have l:b&&&d<2^ 8:=sO Nat.and_le_left af;rw[q,w,z];apply Nat.eq_of_testBit_eq;intro j;rw[sY,sZ a af,sZ c af,sZ (a&&&c) l];by_cases h:j<8
 .simp[h,sY]
 .simp[h,sY]
def f1:∀(e:Fin 2) (b:Fin 256),(128 *e.val+b.val / 2)&&&85=(b.val / 2)&&&85:=by decide+kernel
def f2:∀(e:Fin 4) (b:Fin 256),(64 *e.val+b.val / 4)&&&51=(b.val / 4)&&&51:=by decide+kernel
def f3:∀(e:Fin 5) (b:Fin 256),b.val / 16<=4->b.val % 16<=4->(16 *e.val+b.val / 16+b.val)&&&15=b.val / 16+b.val % 16:=by decide+kernel
def s1 (b:Nat):Nat:=((b / 2)&&&85)+(b&&&85)
def s2 (b:Nat):Nat:=((b / 4)&&&51)+(b&&&51)
def Ar:∀b:Fin 256,s1 b.val<256:=by decide+kernel
def As:∀b:Fin 256,s2 (s1 b.val) / 16<=4/\s2 (s1 b.val) % 16<=4/\s2 (s1 b.val) / 16+s2 (s1 b.val) % 16=eX 8 b.val:=by decide+kernel
def GY:∀b:Fin 256,eX 8 b.val<=8:=by decide+kernel
def S1:∀(l:List Nat),(∀b∈l,b<256)->((nW l / 2)&&&nW (l.map λ_=>85))+(nW l&&&nW (l.map λ_=>85))=nW (l.map s1):=by intro l;induction l with
 |nil=>intro _;rfl
 |cons b l B=>
  intro h;have w:=h b ah;have q:=B λx z=>h x (by simp[z])
  simp only[aK,nW];have e:(b+256 *nW l) / 2=(128 *(nW l % 2)+b / 2)+256 *(nW l / 2):=af;rw[e,r5 _ _ _ _ af af,r5 _ _ _ _ w af,f1 ⟨nW l % 2,af⟩ ⟨b,w⟩];dsimp only;rw[show s1 b=((b / 2)&&&85)+(b&&&85) from rfl,<-q];omega
def S2:∀(l:List Nat),(∀b∈l,b<256)->((nW l / 4)&&&nW (l.map λ_=>51))+(nW l&&&nW (l.map λ_=>51))=nW (l.map s2):=by intro l;induction l with
 |nil=>intro _;rfl
 |cons b l B=>
  intro h;have w:=h b ah;have q:=B λx z=>h x (by simp[z])
  simp only[aK,nW];have e:(b+256 *nW l) / 4=(64 *(nW l % 4)+b / 4)+256 *(nW l / 4):=af;rw[e,r5 _ _ _ _ af af,r5 _ _ _ _ w af,f2 ⟨nW l % 4,af⟩ ⟨b,w⟩];dsimp only;rw[show s2 b=((b / 4)&&&51)+(b&&&51) from rfl,<-q];omega
def M5 {l:List Nat} (h:∀b∈l,b / 16<=4/\b % 16<=4):nW l % 16<=4:=by cases l with
 |nil=>decide
 |cons b l=>have:=(h b ah).2;simp only[nW];omega
def S3:∀(l:List Nat),(∀b∈l,b / 16<=4/\b % 16<=4)->(nW l / 16+nW l)&&&nW (l.map λ_=>15)=nW (l.map λb=>b / 16+b % 16):=by intro l;induction l with
 |nil=>intro _;rfl
 |cons b l B=>
  intro h;have z:=h b ah;have w:=B λx q=>h x (by simp[q])
  have D:=M5 λx q=>h x (cK b q)
  simp only[aK,nW];have e:(b+256 *nW l) / 16+(b+256 *nW l)=(16 *(nW l % 16)+b / 16+b)+256 *(nW l / 16+nW l):=af;rw[e,r5 _ _ _ _ af af,f3 ⟨nW l % 16,af⟩ ⟨b,af⟩ z.1 z.2,w]
def Mt:∀(k b m:Nat),b<2^ k->∀n,eX (k+n) (b+2^ k *m)=eX k b+eX n m:=by intro k;induction k with
 |zero=>intro b m l n;simp at l;subst l;simp[eX]
 |succ k z=>
  intro b m l n;rw[show k+1+n=(k+n)+1 by omega];simp only[eX];rw[s5] at l⊢;have q:(b+2^ k *2 *m) % 2=b % 2:=by rw[show 2^ k *2 *m=2 *(2^ k *m) by rw[Nat.mul_comm (2^ k) 2,Nat.mul_assoc]];omega
  have w:(b+2^ k *2 *m) / 2=b / 2+2^ k *m:=by rw[show 2^ k *2 *m=2 *(2^ k *m) by rw[Nat.mul_comm (2^ k) 2,Nat.mul_assoc]];omega
  rw[q,w,z (b / 2) m af n];omega
def qz (b m n:Nat) (l:b<256):eX (8+n) (b+256 *m)=eX 8 b+eX n m:=Mt 8 b m af n
def fold (x:Nat):Nat:=
 let a:=x+x / 256;let b:=a+a / 65536
 b+b / 4294967296
def Ol {r k y:Nat} (h:r<k):(r+k *y) / k=y:=by rw[Nat.add_mul_div_left _ _ af,Nat.div_eq_of_lt h,fW]
def OI {I H D B z w q l:Nat} (S:I<=8) (U:H<=8) (W:D<=8) (h3:B<=8) (h4:z<=8) (h5:w<=8) (h6:q<=8) (h7:l<=8):
  fold (nW [I,H,D,B,z,w,q,l]) % 128=I+H+D+B+z+w+q+l/\fold (nW [I,H,D,B,z,w,q,l])<9223372036854775808:=by
 have L:nW [I,H,D,B,z,w,q,l]=I+256 *(H+256 *D+65536 *B+16777216 *z+4294967296 *w+1099511627776 *q+281474976710656 *l):=by simp only[nW];omega
 have O:I+256 *(H+256 *D+65536 *B+16777216 *z+4294967296 *w+1099511627776 *q+281474976710656 *l)+(H+256 *D+65536 *B+16777216 *z+4294967296 *w+1099511627776 *q+281474976710656 *l)
   =((I+H)+256 *(H+D))+65536 *((D+B)+256 *(B+z)+65536 *(z+w)+16777216 *(w+q)+4294967296 *(q+l)+1099511627776 *l):=by omega
 have P:((I+H)+256 *(H+D))+65536 *((D+B)+256 *(B+z)+65536 *(z+w)+16777216 *(w+q)+4294967296 *(q+l)+1099511627776 *l)+((D+B)+256 *(B+z)+65536 *(z+w)+16777216 *(w+q)+4294967296 *(q+l)+1099511627776 *l)
   =((I+H+D+B)+256 *(H+D+B+z)+65536 *(D+B+z+w)+16777216 *(B+z+w+q))+4294967296 *((z+w+q+l)+256 *(w+q+l)+65536 *(q+l)+16777216 *l):=by omega
 have Q:((I+H+D+B)+256 *(H+D+B+z)+65536 *(D+B+z+w)+16777216 *(B+z+w+q))+4294967296 *((z+w+q+l)+256 *(w+q+l)+65536 *(q+l)+16777216 *l)+((z+w+q+l)+256 *(w+q+l)+65536 *(q+l)+16777216 *l)
   =(I+H+D+B+z+w+q+l)+128 *(2 *(H+D+B+z)+512 *(D+B+z+w)+131072 *(B+z+w+q)+33554432 *((z+w+q+l)+256 *(w+q+l)+65536 *(q+l)+16777216 *l)+2 *(w+q+l)+512 *(q+l)+131072 *l):=by omega
 simp only[fold];rw[L,Ol af,O,Ol af,P,Ol af,Q,Nat.add_mul_mod_self_left];exact⟨oL af,af⟩
def Tw {x:Nat} (w:x<18446744073709551616):∃l:List Nat,l.length=8/\(∀b∈l,b<256)/\x=nW l:=by
 refine⟨[x % 256,x / 256 % 256,x / 65536 % 256,x / 16777216 % 256,x / 4294967296 % 256,x / 1099511627776 % 256,x / 281474976710656 % 256,x / 72057594037927936],rfl,?_,?_⟩
 .intro b q;simp only[aD,dG,dV] at q;omega
 .simp only[nW];omega
def x1 (x:Nat):Nat:=((x / 2)&&&6148914691236517205)+(x&&&6148914691236517205)
def x2 (x:Nat):Nat:=((x / 4)&&&3689348814741910323)+(x&&&3689348814741910323)
def x3 (x:Nat):Nat:=(x / 16+x)&&&1085102592571150095
def len8 {l:List Nat} (h:l.length=8):∃a b c d e f g i,l=[a,b,c,d,e,f,g,i]:=by match l,h with
 |[a,b,c,d,e,f,g,i],_=>exact⟨a,b,c,d,e,f,g,i,rfl⟩
def UK:∀{l:List Nat},(∀b∈l,b<256)->nW l<256^ l.length:=by intro l;induction l with
 |nil=>intro _;decide
 |cons b l w=>
  intro h;have z:=h b ah;have B:=w λx q=>h x (by simp[q])
  simp only[nW,aT,s5];omega
def R4:∀{l:List Nat},(∀b∈l,b<128)->nW l+nW l<256^ l.length:=by intro l;induction l with
 |nil=>intro _;decide
 |cons b l w=>
  intro h;have z:=h b ah;have B:=w λx q=>h x (by simp[q])
  simp only[nW,aT,s5];omega
def UM {x:Nat} (hx:x<18446744073709551616):fold (x3 (x2 (x1 x))) % 128=eX 64 x/\x1 x<18446744073709551616/\x2 (x1 x)<18446744073709551616/\x2 (x1 x) / 16+x2 (x1 x)<18446744073709551616/\fold (x3 (x2 (x1 x)))<9223372036854775808:=by
 obtain⟨l,hl,q,rfl⟩:=Tw hx;obtain⟨a,b,c,d,e,f,g,i,rfl⟩:=len8 hl;simp only[aD,dG,dV,forall_eq_or_imp,forall_eq] at q;obtain⟨H,q,w,L,O,P,Q,S⟩:=q;have q1:x1 (nW [a,b,c,d,e,f,g,i])=nW [s1 a,s1 b,s1 c,s1 d,s1 e,s1 f,s1 g,s1 i]:=by have:=S1 [a,b,c,d,e,f,g,i] aX;simp only[aK,cW] at this;rw[show nW [85,85,85,85,85,85,85,85]=6148914691236517205 by decide+kernel] at this;exact this
 have A:=Ar ⟨a,H⟩;have B:=Ar ⟨b,q⟩;have C:=Ar ⟨c,w⟩;have D:=Ar ⟨d,L⟩;have E:=Ar ⟨e,O⟩;have F:=Ar ⟨f,P⟩;have G:=Ar ⟨g,Q⟩;have I:=Ar ⟨i,S⟩;dsimp only at A B C D E F G I;have q2:x2 (nW [s1 a,s1 b,s1 c,s1 d,s1 e,s1 f,s1 g,s1 i])=nW [s2 (s1 a),s2 (s1 b),s2 (s1 c),s2 (s1 d),s2 (s1 e),s2 (s1 f),s2 (s1 g),s2 (s1 i)]:=by have:=S2 [s1 a,s1 b,s1 c,s1 d,s1 e,s1 f,s1 g,s1 i] aX;simp only[aK,cW] at this;rw[show nW [51,51,51,51,51,51,51,51]=3689348814741910323 by decide+kernel] at this;exact this
 have U:=As ⟨a,H⟩;have B2:=As ⟨b,q⟩;have C2:=As ⟨c,w⟩;have D2:=As ⟨d,L⟩;have E2:=As ⟨e,O⟩;have F2:=As ⟨f,P⟩;have G2:=As ⟨g,Q⟩;have I2:=As ⟨i,S⟩;dsimp only at U B2 C2 D2 E2 F2 G2 I2;have q3:x3 (nW [s2 (s1 a),s2 (s1 b),s2 (s1 c),s2 (s1 d),s2 (s1 e),s2 (s1 f),s2 (s1 g),s2 (s1 i)])=nW [eX 8 a,eX 8 b,eX 8 c,eX 8 d,eX 8 e,eX 8 f,eX 8 g,eX 8 i]:=by have:=S3 [s2 (s1 a),s2 (s1 b),s2 (s1 c),s2 (s1 d),s2 (s1 e),s2 (s1 f),s2 (s1 g),s2 (s1 i)] aX;simp only[aK,cW,U.2.2,B2.2.2,C2.2.2,D2.2.2,E2.2.2,F2.2.2,G2.2.2,I2.2.2] at this;rw[show nW [15,15,15,15,15,15,15,15]=1085102592571150095 by decide+kernel] at this;exact this
 have W:=GY ⟨a,H⟩;have B3:=GY ⟨b,q⟩;have C3:=GY ⟨c,w⟩;have D3:=GY ⟨d,L⟩;have E3:=GY ⟨e,O⟩;have F3:=GY ⟨f,P⟩;have G3:=GY ⟨g,Q⟩;have I3:=GY ⟨i,S⟩;dsimp only at W B3 C3 D3 E3 F3 G3 I3;have w:eX 64 (nW [a,b,c,d,e,f,g,i])=eX 8 a+eX 8 b+eX 8 c+eX 8 d+eX 8 e+eX 8 f+eX 8 g+eX 8 i:=by simp only[nW];rw[qz _ _ 56 H,qz _ _ 48 q,qz _ _ 40 (by assumption),qz _ _ 32 L,qz _ _ 24 O,qz _ _ 16 P,qz _ _ 8 Q,Nat.mul_zero,oK];omega
 have z:=OI W B3 C3 D3 E3 F3 G3 I3;rw[q1,q2,q3,z.1,w];have k1:=UK (l:=[s1 a,s1 b,s1 c,s1 d,s1 e,s1 f,s1 g,s1 i]) aX;have k2:=R4 (l:=[s2 (s1 a),s2 (s1 b),s2 (s1 c),s2 (s1 d),s2 (s1 e),s2 (s1 f),s2 (s1 g),s2 (s1 i)]) aX;have e8:256^ 8=18446744073709551616:=by decide+kernel
 rw[show[s1 a,s1 b,s1 c,s1 d,s1 e,s1 f,s1 g,s1 i].length=8 from rfl,e8] at k1;rw[show[s2 (s1 a),s2 (s1 b),s2 (s1 c),s2 (s1 d),s2 (s1 e),s2 (s1 f),s2 (s1 g),s2 (s1 i)].length=8 from rfl,e8] at k2;generalize nW [s2 (s1 a),s2 (s1 b),s2 (s1 c),s2 (s1 d),s2 (s1 e),s2 (s1 f),s2 (s1 g),s2 (s1 i)]=y at k2;exact⟨rfl,k1,by omega,by omega,z.2⟩
def NV {w v:Nat} (q:w<18446744073709551616) (l:v<18446744073709551616):wrap .u64 ((ofInt (IntKind.bits .u64) (w:Int)&&&ofInt (IntKind.bits .u64) (v:Int)).toNat:Int)=((w&&&v:Nat):Int):=by
 have o:∀w:Nat,ofInt (IntKind.bits .u64) (w:Int)=BitVec.ofNat 64 w:=λw=>xP 64 w
 rw[o,o];have h:w&&&v<=w:=Nat.and_le_left;have e:(BitVec.ofNat 64 w&&&BitVec.ofNat 64 v).toNat=w&&&v:=by rw[BitVec.toNat_and,p6,p6,oL (by simpa using q),oL (by simpa using l)]
 show wrap .u64 (((BitVec.ofNat 64 w&&&BitVec.ofNat 64 v).toNat:Nat):Int)=_;rw[e,CS af af]
def Rx (w:Nat) {k:Nat} {j:Int} (l:toNat j=k) (q:k<=64):Int.fdiv (w:Int) (2^ min (toNat j) (IntKind.bits .u64))=((w / 2^ k:Nat):Int):=by
 have e:min k (IntKind.bits .u64)=k:=by show min k 64=k;omega
 rw[l,e,show(2^ k:Int)=((2^ k:Nat):Int) by simp,Int.fdiv_eq_ediv_of_nonneg _ (xQ _)];simp
def Rf {w v:Nat} (h:w+v<18446744073709551616):wrap .u64 ((w:Int)+(v:Int))=((w+v:Nat):Int):=by rw[CS af af];omega
def t1 {x:Nat} (l:x<18446744073709551616) (h:x1 x<18446744073709551616):wrap .u64 ((wrap .u64 ((ofInt (IntKind.bits .u64) (Int.fdiv (x:Int) (2^ min (toNat 1) (IntKind.bits .u64)))&&&ofInt (IntKind.bits .u64) 6148914691236517205).toNat:Int))+(wrap .u64 ((ofInt (IntKind.bits .u64) (x:Int)&&&ofInt (IntKind.bits .u64) 6148914691236517205).toNat:Int)))=((x1 x:Nat):Int):=by have c:(6148914691236517205:Int)=((6148914691236517205:Nat):Int):=rfl;rw[Rx x (k:=1) rfl af,c,NV af af,NV l af,Rf h];rfl
def t2 {x:Nat} (l:x<18446744073709551616) (h:x2 x<18446744073709551616):wrap .u64 ((wrap .u64 ((ofInt (IntKind.bits .u64) (Int.fdiv (x:Int) (2^ min (toNat 2) (IntKind.bits .u64)))&&&ofInt (IntKind.bits .u64) 3689348814741910323).toNat:Int))+(wrap .u64 ((ofInt (IntKind.bits .u64) (x:Int)&&&ofInt (IntKind.bits .u64) 3689348814741910323).toNat:Int)))=((x2 x:Nat):Int):=by have c:(3689348814741910323:Int)=((3689348814741910323:Nat):Int):=rfl;rw[Rx x (k:=2) rfl af,c,NV af af,NV l af,Rf h];rfl
def t3 {x:Nat} (h:x / 16+x<18446744073709551616):wrap .u64 ((ofInt (IntKind.bits .u64) (wrap .u64 ((Int.fdiv (x:Int) (2^ min (toNat 4) (IntKind.bits .u64)))+(x:Int)))&&&ofInt (IntKind.bits .u64) 1085102592571150095).toNat:Int)=((x3 x:Nat):Int):=by have c:(1085102592571150095:Int)=((1085102592571150095:Nat):Int):=rfl;rw[Rx x (k:=4) rfl af,Rf h,c,NV h af];rfl
def t4 {x k:Nat} {j:Int} (l:toNat j=k) (q:k<=64) (h:x+x / 2^ k<18446744073709551616):wrap .u64 ((x:Int)+(Int.fdiv (x:Int) (2^ min (toNat j) (IntKind.bits .u64))))=((x+x / 2^ k:Nat):Int):=by rw[Rx x l q,Rf h]
def t5 {x:Nat} (h:x<9223372036854775808):wrap .i64 ((ofInt (IntKind.bits .i64) (wrap .i64 (x:Int))&&&ofInt (IntKind.bits .i64) 127).toNat:Int)=((x % 128:Nat):Int):=by
 have l:wrap .i64 (x:Int)=(x:Int):=jM af af;rw[l];have o:ofInt (IntKind.bits .i64) (x:Int)=BitVec.ofNat 64 x:=xP 64 x;have q:ofInt (IntKind.bits .i64) 127=BitVec.ofNat 64 127:=rfl;rw[o,q];have e:(BitVec.ofNat 64 x&&&BitVec.ofNat 64 127).toNat=x % 128:=by rw[BitVec.toNat_and,p6,p6,oL (show x<2^ 64 by omega)];exact Nat.and_two_pow_sub_one_eq_mod x 7
 show wrap .i64 (((BitVec.ofNat 64 x&&&BitVec.ofNat 64 127).toNat:Nat):Int)=_;rw[e,jM af af]
end pop
end Go.Proofs.YthppjmoncapdfaaGreatDoor.cl
namespace Go.Proofs.YthppjmoncapdfaaGreatDoor.cl
open Go Go.AM
namespace pop
def Rv:∀(n w:Nat),eX n w<=n:=by intro n;induction n with
 |zero=>intro w;exact aJ _
 |succ n l=>intro w;have:=l (w / 2);simp only[eX];omega
def t48 {x:Nat} (h:x+x / 256<18446744073709551616):wrap .u64 ((x:Int)+(Int.fdiv (x:Int) (2^ min (toNat 8) (IntKind.bits .u64))))=((x+x / 256:Nat):Int):=t4 (k:=8) rfl af h
def t416 {x:Nat} (h:x+x / 65536<18446744073709551616):wrap .u64 ((x:Int)+(Int.fdiv (x:Int) (2^ min (toNat 16) (IntKind.bits .u64))))=((x+x / 65536:Nat):Int):=t4 (k:=16) rfl af h
def t432 {x:Nat} (h:x+x / 4294967296<18446744073709551616):wrap .u64 ((x:Int)+(Int.fdiv (x:Int) (2^ min (toNat 32) (IntKind.bits .u64))))=((x+x / 4294967296:Nat):Int):=t4 (k:=32) rfl af h
def JM {x:Nat} (h:fold x<9223372036854775808):x+x / 256<18446744073709551616/\x+x / 256+(x+x / 256) / 65536<18446744073709551616/\fold x=x+x / 256+(x+x / 256) / 65536+(x+x / 256+(x+x / 256) / 65536) / 4294967296:=by
 have e:fold x=x+x / 256+(x+x / 256) / 65536+(x+x / 256+(x+x / 256) / 65536) / 4294967296:=rfl;rw[e] at h;refine⟨?_,?_,e⟩
 .generalize x+x / 256=a at h⊢;generalize a / 65536=b at h;generalize (a+b) / 4294967296=c at h;omega
 .generalize x+x / 256+(x+x / 256) / 65536=a at h⊢;generalize a / 4294967296=c at h;omega
end pop
end Go.Proofs.YthppjmoncapdfaaGreatDoor.cl
namespace Go.AM
end Go.AM
namespace Go.Proofs.YthppjmoncapdfaaGreatDoor.cl
open Go Go.AM
def NW {l:Type} (p:l->Bool):∀(xs:List l) (i:Nat),decide (tQ p xs i>=0)=xs.any p:=by intro xs;induction xs with
 |nil=>intro i;rfl
 |cons x xs q=>intro i;rw[tQ];grind
def h384 {s:List bR} (w:s.length<=1048576) (x:bR):∀(xs:List bR) (i:Nat),s.drop i=xs->FN s s.length i x=some (tQ (λy=>y.aV==x.aV) xs i):=by intro xs;induction xs with
 |nil=>intro i h;refine Pj ?_;rw[dA h];rfl
 |cons y xs q=>intro i h;refine Pj ?_;have l:f388 y x=some _:=e388 rfl;rw[cN h,bN h,dF h af,q _ (cg h),tQ];grind
def VZ {s:List bR} (w:s.length<=1048576) (F:Str):∀(xs:List bR) (i:Nat),s.drop i=xs->A6 s F s.length i=some (tQ (λy=>y.aV==F) xs i):=by intro xs;induction xs with
 |nil=>intro i h;refine LJ ?_;rw[dA h];rfl
 |cons y xs q=>intro i h;refine LJ ?_;have l:f389 y F=some _:=e389 rfl;rw[cN h,bN h,dF h af,q _ (cg h),tQ];grind
end Go.Proofs.YthppjmoncapdfaaGreatDoor.cl
namespace Go.Proofs.YthppjmoncapdfaaGreatDoor.cl.pf
open Go Go.AM
def kU {q w:Type} (R:q->w->Prop):List q->List w->Prop
 |[],[]=>True
 |a::l,b::m=>R a b/\kU R l m
 |_,_=>False
def kU.append {z B:Type} {R:z->B->Prop}:∀{l q:List z} {m w:List B},kU R l m->kU R q w->kU R (l++q) (m++w)
 |[],_,[],_,_,h=>h
 |a::l,_,b::m,_,h,k=>⟨h.1,kU.append h.2 k⟩
 |[],_,_::_,_,h,_=>h.elim
 |_::_,_,[],_,h,_=>h.elim
def kU.map_eq {w z B:Type} {R:w->z->Prop} {f:w->B} {g:z->B} (q:∀a b,R a b->f a=g b):∀{l:List w} {m:List z},kU R l m->l.map f=m.map g
 |[],[],_=>rfl
 |a::l,b::m,h=>by simp only[aK,q a b h.1,kU.map_eq q h.2]
 |[],_::_,h=>h.elim
 |_::_,[],h=>h.elim
def kU.mem_iff {R:Nat->Nat->Prop} (B:∀{a b w z},R a b->R w z->(a=w↔b=z)) {a b:Nat} (q:R a b):∀{l m:List Nat},kU R l m->(a∈l↔b∈m)
 |[],[],_=>by simp
 |x::l,y::m,h=>by rw[aD,aD,kU.mem_iff B q h.2,B q h.1]
 |[],_::_,h=>h.elim
 |_::_,[],h=>h.elim
def kU.idx {R:Nat->Nat->Prop} (B:∀{a b w z},R a b->R w z->(a=w↔b=z)) {a b:Nat} (q:R a b):∀{l m:List Nat},kU R l m->l.idxOf a=m.idxOf b
 |[],[],_=>rfl
 |x::l,y::m,h=>by
  rw[p7,p7,kU.idx B q h.2];have:=B h.1 q;by_cases e:x=a
  .simp[e,this.1 e]
  .have D:y≠b:=λh=>e (this.2 h)
   simp[kY.2 e,kY.2 D]
 |[],_::_,h=>h.elim
 |_::_,[],h=>h.elim
def uw:∀{N:Nat} {o:List Nat},o.Nodup->(∀x∈o,x<N)->o.length<=N
 |0,o,_,h=>by cases o with
  |nil=>simp
  |cons x o=>have:=h x (by simp);omega
 |N+1,o,l,h=>by
  have z:(o.filter (· !=N)).Nodup:=l.filter _;have I:=uw (N:=N) z λx q=>by rw[jY] at q;have:=h x q.1;have:=p8.1 q.2;omega
  have B:∀{o:List Nat},o.Nodup->o.length<=(o.filter (· !=N)).length+1:=by intro o;induction o with
   |nil=>simp
   |cons x o H=>
    intro l;rw[gl] at l;by_cases e:x=N
    .subst e
     have:o.filter (· !=x)=o:=List.filter_eq_self.2 λy D=>p8.2 λe=>l.1 (e▸D)
     simp[this]
    .have w:(x !=N)=true:=p8.2 e;have:=H l.2;simp only[List.filter_cons,w,js,aT];omega
  have:=B l;omega
structure Gr where
 sc:Nat->List (Int×Nat)
 ty:Nat->Int
def mG (sc:Nat->List (Int×Nat)):Nat->Nat->List Nat->List Nat
 |0,_,o=>o
 |k+1,n,o=>if n∈o then o else(sc n).foldl (λo p=>mG sc k p.2 o) (o++[n])
abbrev pR (sc:Nat->List (Int×Nat)) (k:Nat) (l:List (Int×Nat)) (o:List Nat):List Nat:=l.foldl (λo p=>mG sc k p.2 o) o
def Bd (sc:Nat->List (Int×Nat)) (N:Nat):Prop:=∀n,n<N->∀p∈sc n,p.2<N
structure Met (N:Nat) (o:List Nat):Prop where
 nd:o.Nodup
 lt:∀x∈o,x<N
def Met.nil {N:Nat}:Met N []:=⟨List.nodup_nil,λ_ h=>by cases h⟩
def Met.snoc {N n:Nat} {o:List Nat} (h:Met N o) (B:n<N) (q:n∉o):Met N (o++[n]):=
 ⟨by
  rw[jU];exact⟨h.nd,by simp,λa z b w=>by simp at w;subst w;exact λe=>q (e▸z)⟩,λx l=>by
  rcases bn.1 l with l|l
  .exact h.lt x l
  .simp at l;subst l;exact B⟩
section
variable {sc:Nat->List (Int×Nat)} {N:Nat}
def A8:∀(k n:Nat) (o:List Nat),o<+:mG sc k n o
 |0,_,o=>j5 _
 |k+1,n,o=>by
  simp only[mG];split
  .exact j5 _
  .refine s6 (s7 o [n]) ?_;generalize o++[n]=q;generalize sc n=l;induction l generalizing q with
   |nil=>exact j5 _
   |cons p l w=>exact s6 (A8 k p.2 q) (w _)
def vF (k:Nat):∀(l:List (Int×Nat)) (o:List Nat),o<+:pR sc k l o
 |[],o=>j5 _
 |p::l,o=>s6 (A8 k p.2 o) (vF k l _)
def vZ (z:Bd sc N):∀(k n:Nat) (o:List Nat),Met N o->n<N->Met N (mG sc k n o)
 |0,_,o,h,_=>h
 |k+1,n,o,h,D=>by
  simp only[mG];split
  .exact h
  .rename_i w;have key:∀(l:List (Int×Nat)) (o:List Nat),(∀p∈l,p.2<N)->Met N o->Met N (pR sc k l o):=by
    intro l;induction l with
    |nil=>intro o _ h;exact h
    |cons p l I=>intro o B h;exact I _ (λq H=>B q (by simp[H])) (vZ z k p.2 o h (B p ah))
   exact key _ _ (z n D) (h.snoc D w)
def Gk (k n:Nat) (o:List Nat):o.length<=(mG sc k n o).length:=(A8 k n o).length_le
def IW (w:Bd sc N):∀(k n:Nat) (o:List Nat),Met N o->n<N->N<k+o.length->mG sc (k+1) n o=mG sc k n o
 |0,n,o,h,B,z=>by have:=uw h.nd h.lt;omega
 |k+1,n,o,h,B,z=>by
  rw[mG,mG];split
  .rfl
  .rename_i D;have key:∀(l:List (Int×Nat)) (o:List Nat),(∀p∈l,p.2<N)->Met N o->N<k+o.length->pR sc (k+1) l o=pR sc k l o:=by
    intro l;induction l with
    |nil=>intro o _ _ _;rfl
    |cons p l O=>intro o H h z;have I:=H p ah;simp only[pR,ia];rw[IW w k p.2 o h I z];exact O _ (λq L=>H q (by simp[L])) (vZ w k p.2 o h I) (by have:=Gk (sc:=sc) k p.2 o;omega)
   exact key _ _ (w n B) (h.snoc B D) (by simp only[cC,iY];omega)
def CN (l:Bd sc N) {k n:Nat} {o:List Nat} (h:Met N o) (q:n<N) (w:N<k+o.length):∀j,mG sc (k+j) n o=mG sc k n o
 |0=>rfl
 |j+1=>by rw[<-jP,IW l (k+j) n o h q af,CN l h q w j]
def Ma (q:Bd sc N) {k j n:Nat} {o:List Nat} (h:Met N o) (w:n<N) (B:N<k+o.length) (z:N<j+o.length):mG sc k n o=mG sc j n o:=by
 rcases Nat.le_total k j with l|l
 .obtain⟨d,rfl⟩:=Nat.le.dest l;exact(CN q h w B d).symm
 .obtain⟨d,rfl⟩:=Nat.le.dest l;exact CN q h w z d
def uh (Q:Bd sc N):∀(k n:Nat) (o:List Nat),Met N o->n<N->N<k+o.length->n∈mG sc k n o/\∀x∈mG sc k n o,x∉o->∀p∈sc x,p.2∈mG sc k n o
 |0,n,o,h,U,S=>by have:=uw h.nd h.lt;omega
 |k+1,n,o,h,U,S=>by
  rw[mG];split
  .rename_i D;exact⟨D,λx H w=>absurd H w⟩
  .rename_i D;have key:∀(l:List (Int×Nat)) (o:List Nat),(∀p∈l,p.2<N)->Met N o->N<k+o.length->(∀p∈l,p.2∈pR sc k l o)/\∀x∈pR sc k l o,x∉o->∀p∈sc x,p.2∈pR sc k l o:=by
    intro l;induction l with
    |nil=>intro o _ _ _;exact⟨λp L=>by(cases L),λx H w=>absurd H w⟩
    |cons p l ih=>
     intro o W h S;have L:=W p ah;obtain⟨c1,c2⟩:=uh Q k p.2 o h L S;have hm:=vZ Q k p.2 o h L;have hlen:=Gk (sc:=sc) k p.2 o;obtain⟨O,P⟩:=ih (mG sc k p.2 o) (λq B=>W q (by simp[B])) hm af;have z:=vF (sc:=sc) k l (mG sc k p.2 o);refine⟨λq B=> ?_,λx H w q B=> ?_⟩
     .rcases aD.1 B with rfl|B
      .exact z.subset c1
      .exact O q B
     .by_cases I:x∈mG sc k p.2 o
      .exact z.subset (c2 x I w q B)
      .exact P x H I q B
   obtain⟨O,P⟩:=key (sc n) (o++[n]) (Q n U) (h.snoc U D) (by simp only[cC,iY];omega);have z:=vF (sc:=sc) k (sc n) (o++[n]);refine⟨z.subset ah,λx H w q B=> ?_⟩;by_cases e:x=n
   .subst e;exact O q B
   .exact P x H (by simp[w,e]) q B
inductive yY (sc:Nat->List (Int×Nat)) (r:Nat):Nat->Prop where
 |root:yY sc r r
 |step {n:Nat} {p:Int×Nat}:yY sc r n->p∈sc n->yY sc r p.2
def Mc {r:Nat}:∀(k n:Nat) (o:List Nat),yY sc r n->∀x∈mG sc k n o,x∉o->yY sc r x
 |0,n,o,_,x,z,w=>absurd z w
 |k+1,n,o,H,x,z,w=>by
  rw[mG] at z;split at z
  .exact absurd z w
  .have key:∀(l:List (Int×Nat)) (o:List Nat),(∀p∈l,yY sc r p.2)->∀x∈pR sc k l o,x∉o->yY sc r x:=by
    intro l;induction l with
    |nil=>intro o _ x z w;exact absurd z w
    |cons p l O=>
     intro o D x z w;by_cases B:x∈mG sc k p.2 o
     .exact Mc k p.2 o (D p ah) x B w
     .exact O _ (λq L=>D q (by simp[L])) x z B
   by_cases e:x=n
   .subst e;exact H
   .exact key _ _ (λp I=>H.step I) x z (by simp[w,e])
end
def ij (G:Gr) (N r:Nat):List Nat:=mG G.sc (N+1) r []
def jG (G:Gr) (N r:Nat):FSt:=⟨(ij G N r).map λn=>⟨G.ty n,(G.sc n).map λp=>⟨p.1,((ij G N r).idxOf p.2:Nat)⟩⟩⟩
section
variable {G:Gr} {N r:Nat}
def rF (l:Bd G.sc N) (hr:r<N):Met N (ij G N r):=vZ l _ _ _ Met.nil hr
def Ql (l:Bd G.sc N) (hr:r<N):r∈ij G N r:=(uh l (N+1) r [] Met.nil hr ah).1
def vf (l:Bd G.sc N) (hr:r<N) {x:Nat} (w:x∈ij G N r) {p:Int×Nat} (q:p∈G.sc x):p.2∈ij G N r:=(uh l (N+1) r [] Met.nil hr ah).2 x w ah p q
def Fa (l:Bd G.sc N) (hr:r<N) {x:Nat}:x∈ij G N r↔yY G.sc r x:=
 ⟨λh=>Mc _ _ _ .root x h ah,λh=>by induction h with
  |root=>exact Ql l hr
  |step _ q w=>exact vf l hr w q⟩
def ve (q:Bd G.sc N) (hr:r<N):(ij G N r)[0]? =some r:=by unfold ij;rw[mG];simp only[dG,jg,er];obtain⟨t,l⟩:=vF (sc:=G.sc) N (G.sc r) [r];show(pR G.sc N (G.sc r) [r])[0]? =some r;rw[<-l];rfl
end
def Mb {s1 s2:Nat->List (Int×Nat)} {R:Nat->Nat->Prop} (O:∀{a b I L},R a b->R I L->(a=I↔b=L))
  (Q:∀a b,R a b->kU (λp q=>p.1=q.1/\R p.2 q.2) (s1 a) (s2 b)):∀(k a b:Nat) (w z:List Nat),R a b->kU R w z->kU R (mG s1 k a w) (mG s2 k b z)
 |0,a,b,w,z,_,B=>B
 |k+1,a,b,w,z,D,B=>by
  rw[mG,mG];have P:=kU.mem_iff O D B;by_cases h:a∈w
  .rw[ak h,ak (P.1 h)];exact B
  .rw[az h,az (λS=>h (P.2 S))];have key:∀(l m:List (Int×Nat)) (w z:List Nat),kU (λp q=>p.1=q.1/\R p.2 q.2) l m->kU R w z->kU R (pR s1 k l w) (pR s2 k m z):=by
    intro l;induction l with
    |nil=>intro m w z H B;cases m with
     |nil=>exact B
     |cons q m=>exact H.elim
    |cons p l U=>intro m w z H B;cases m with
     |nil=>exact H.elim
     |cons q m=>exact U m _ _ H.2 (Mb O Q k p.2 q.2 w z H.1.2 B)
   exact key _ _ _ _ (Q a b D) (B.append ⟨D,trivial⟩)
def Lf {l w:Gr} {z B D H:Nat} (O:Bd l.sc z) (P:Bd w.sc B) (h1:D<z) (h2:H<B) {R:Nat->Nat->Prop} (U:∀{a b Q S},R a b->R Q S->(a=Q↔b=S))
  (hs:∀a b,R a b->kU (λp q=>p.1=q.1/\R p.2 q.2) (l.sc a) (w.sc b)) (ht:∀a b,R a b->l.ty a=w.ty b) (hr:R D H):jG l z D=jG w B H:=by
 have e1:ij l z D=mG l.sc (z+B+1) D []:=Ma O Met.nil h1 ah aX;have e2:ij w B H=mG w.sc (z+B+1) H []:=Ma P Met.nil h2 ah aX;have W:kU R (ij l z D) (ij w B H):=by rw[e1,e2];exact Mb U hs _ _ _ _ _ hr trivial
 unfold jG;congr 1;refine kU.map_eq (λa b I=> ?_) W;rw[ht a b I];congr 1;exact kU.map_eq (λp q L=>by rw[L.1,kU.idx U L.2 W]) (hs a b I)
end Go.Proofs.YthppjmoncapdfaaGreatDoor.cl.pf
namespace Go.Proofs.YthppjmoncapdfaaGreatDoor.cl.pf
open Go Go.AM
def NB (x:Node):List (Int×Nat):=x.cG.map λa=>(a.aV,a.To.toNat)
def j9 (f:FSt) (n:Nat):List (Int×Nat):=match f.au[n]? with
 |some x=>NB x
 |none=>[]
def qT (f:FSt) (n:Nat):Int:=match f.au[n]? with
 |some x=>x.ef
 |none=>0
def mC (f:FSt):Gr:=⟨j9 f,qT f⟩
def vK (l:List (Int×Nat)):Prop:=l.Pairwise λp q=>p.1<q.1
def vK.Gm {l:List (Int×Nat)} (h:vK l) {f:Int} {a b:Nat} (q:(f,a)∈l) (w:(f,b)∈l):a=b:=by induction l with
 |nil=>cases q
 |cons p l z=>
  have h:=c9.1 h;rcases aD.1 q with q|q<;>rcases aD.1 w with w|w
  .exact(Prod.mk.inj (q.trans w.symm)).2
  .have:=h.1 _ w;subst q;simp at this
  .have:=h.1 _ q;subst w;simp at this
  .exact z h.2 q w
def vK.ext:∀{l m:List (Int×Nat)},vK l->vK m->(∀p,p∈l↔p∈m)->l=m
 |[],[],_,_,_=>rfl
 |[],q::m,_,_,h=>absurd ((h q).2 ah) ah
 |p::l,[],_,_,h=>absurd ((h p).1 ah) ah
 |p::l,q::m,I,L,h=>by
  have w:=c9.1 I;have z:=c9.1 L;have e:p=q:=by
   rcases aD.1 ((h p).1 ah) with e|B
   .exact e
   .rcases aD.1 ((h q).2 ah) with e|H
    .exact e.symm
    .have:=z.1 _ B;have:=w.1 _ H;omega
  subst e;rw[vK.ext w.2 z.2 λx=> ?_];constructor
  .intro D;rcases aD.1 ((h x).1 (by simp[D])) with e|B
   .have:=w.1 _ D;subst e;omega
   .exact B
  .intro D;rcases aD.1 ((h x).2 (by simp[D])) with e|B
   .have:=z.1 _ D;subst e;omega
   .exact B
def vK.map {l:List (Int×Nat)} (h:vK l) (g:Nat->Nat):vK (l.map λp=>(p.1,g p.2)):=by unfold vK;rw[fR];exact h
def vK.nil:vK []:=List.Pairwise.nil
structure GO (T F:Nat) (G:Gr) (N:Nat):Prop where
 bd:Bd G.sc N
 x5:∀n,n<N->vK (G.sc n)
 ft:∀n,n<N->∀p∈G.sc n,0<=p.1/\p.1<(F:Int)
 tp:∀n,n<N->0<=G.ty n/\G.ty n<(T:Int)
def yY.lt {sc:Nat->List (Int×Nat)} {N r i:Nat} (l:Bd sc N) (hr:r<N) (h:yY sc r i):i<N:=by induction h with
 |root=>exact hr
 |step _ q w=>exact l _ w _ q
theorem Fy {f:FSt} {n:Nat} (h:f.au.length<=n):j9 f n=[]:=by unfold j9;rw[fE h]
def zB {f:FSt} {n:Nat} (h:n<f.au.length):j9 f n=NB f.au[n]:=by unfold j9;rw[aW h]
def vD {f:FSt} {n:Nat} (h:n<f.au.length):qT f n=f.au[n].ef:=by unfold qT;rw[aW h]
def sj:∀{o:List Nat},o.Nodup->∀{i x:Nat},o[i]? =some x->o.idxOf x=i
 |[],_,i,x,h=>by simp at h
 |y::o,l,0,x,h=>by simp at h;subst h;simp
 |y::o,l,i+1,x,h=>by
  rw[gl] at l;rw[p9] at h;have q:x∈o:=aS h
  have:(y==x)=false:=kY.2 λe=>l.1 (e▸q)
  rw[p7,this,sj l.2 h];rfl
def r6:∀{o:List Nat} {x:Nat},x∈o->o[o.idxOf x]? =some x
 |y::o,x,h=>by
  rw[p7];by_cases e:y=x
  .subst e;simp
  .rw[kY.2 e];show(y::o)[o.idxOf x+1]? =some x;rw[p9];rcases aD.1 h with h|h
   .exact absurd h.symm e
   .exact r6 h
section
variable {G:Gr} {N r:Nat}
def Lc {i x:Nat} (h:(ij G N r)[i]? =some x):(jG G N r).au[i]? =some ⟨G.ty x,(G.sc x).map λp=>⟨p.1,((ij G N r).idxOf p.2:Nat)⟩⟩:=by show(List.map _ _)[i]? =_;rw[dz,h];rfl
def wV {i x:Nat} (h:(ij G N r)[i]? =some x):j9 (jG G N r) i=(G.sc x).map λp=>(p.1,(ij G N r).idxOf p.2):=by unfold j9;rw[Lc h];simp only[NB,dw];rfl
def Er {i x:Nat} (h:(ij G N r)[i]? =some x):qT (jG G N r) i=G.ty x:=by unfold qT;rw[Lc h]
def BA:(jG G N r).au.length=(ij G N r).length:=by show(List.map _ _).length=_;simp
def Ep {i:Nat} (h:i<(jG G N r).au.length):∃x,(ij G N r)[i]? =some x:=by rw[BA] at h;exact⟨_,aW h⟩
def Uy {o:List Nat} {x:Nat} (h:x∈o):o.idxOf x<o.length:=List.idxOf_lt_length_of_mem h
def kU.zk {w z:Type} {R:w->z->Prop} {g:w->z}:∀{l:List w},(∀p∈l,R p (g p))->kU R l (l.map g)
 |[],_=>trivial
 |p::l,h=>⟨h p ah,kU.zk λq B=>h q (by simp[B])⟩
variable {T F:Nat} (hG:GO T F G N) (hr:r<N)
include hG hr
theorem Ju:Bd (j9 (jG G N r)) ((jG G N r).au.length):=by intro i z p l;obtain⟨x,w⟩:=Ep z;rw[wV w] at l;obtain⟨q,B,rfl⟩:=aA.1 l;rw[BA];exact Uy (vf hG.bd hr (aS w) B)
theorem TB:GO T F (mC (jG G N r)) ((jG G N r).au.length):=by
 have l:∀{i x:Nat},(ij G N r)[i]? =some x->x<N:=λh=>(rF hG.bd hr).lt _ (aS h)
 refine⟨Ju hG hr,λi B=> ?_,λi B p z=> ?_,λi B=> ?_⟩<;>obtain⟨x,w⟩:=Ep B
 .show vK (j9 _ i);rw[wV w];exact(hG.x5 x (l w)).map λy=>(ij G N r).idxOf y
 .have z:p∈j9 (jG G N r) i:=z;rw[wV w] at z;obtain⟨q,D,rfl⟩:=aA.1 z;exact hG.ft x (l w) q D
 .show 0<=qT _ i/\qT _ i<_;rw[Er w];exact hG.tp x (l w)
theorem Jw:0<(jG G N r).au.length:=by have:=aS (ve hG.bd hr);rw[BA];exact xR this
theorem Rr:jG (mC (jG G N r)) ((jG G N r).au.length) 0=jG G N r:=by
 have nd:=(rF hG.bd hr).nd;refine(Lf (R:=λa b=>(ij G N r)[b]? =some a) hG.bd (Ju hG hr) hr (Jw hG hr) (λ{a b w z} h l=> ?_) (λa b h=> ?_) (λa b h=> ?_) (ve hG.bd hr)).symm
 .constructor
  .intro e;subst e;rw[<-sj nd h,<-sj nd l]
  .intro e;subst e;rw[h] at l;exact eO l
 .show kU _ _ (j9 _ b);rw[wV h];refine kU.zk λp q=>⟨rfl,?_⟩
  exact r6 (vf hG.bd hr (aS h) q)
 .exact(Er h).symm
end
structure Can (T F:Nat) (f:FSt):Prop where
 ne:0<f.au.length
 go:GO T F (mC f) (f.au.length)
 eq:f=jG (mC f) (f.au.length) 0
def Jv {T F:Nat} {G:Gr} {N r:Nat} (hG:GO T F G N) (hr:r<N):Can T F (jG G N r):=
 ⟨Jw hG hr,TB hG hr,(Rr hG hr).symm⟩
def UE {N:Nat} {o:List Nat} (B:o.Nodup) (z:∀x∈o,x<N) (D:N<=o.length) {i:Nat} (w:i<N):i∈o:=by
 apply mY;intro h;have q:(i::o).Nodup:=gl.2 ⟨h,B⟩;have:=uw q (N:=N) λx l=>by
  rcases aD.1 l with rfl|l
  .exact w
  .exact z x l
 simp at this;omega
def Rj {T F:Nat} {f:FSt} (h:GO T F (mC f) (f.au.length)) (i:Nat):vK (j9 f i):=by
 by_cases l:i<f.au.length
 .exact h.x5 i l
 .rw[Fy af];exact vK.nil
namespace Can
variable {T F:Nat} {f:FSt} (h:Can T F f)
include h
theorem bd:Bd (j9 f) (f.au.length):=h.go.bd
theorem x5 (i:Nat):vK (j9 f i):=Rj h.go i
theorem met:Met (f.au.length) (ij (mC f) (f.au.length) 0):=rF h.go.bd h.ne
theorem WK:(ij (mC f) (f.au.length) 0).length=f.au.length:=by
 have:f.au.length=(jG (mC f) f.au.length 0).au.length:=aC (λg:FSt=>g.au.length) h.eq
 rw[BA] at this;exact this.symm
theorem WL {i:Nat} (l:i<f.au.length):i∈ij (mC f) (f.au.length) 0:=UE h.met.nd h.met.lt (by rw[h.WK];exact aJ _) l
theorem Qv {i:Nat} (l:i<f.au.length):yY (j9 f) 0 i:=(Fa h.go.bd h.ne).1 (h.WL l)
theorem QX {i:Nat} (l:yY (j9 f) 0 i):i<f.au.length:=l.lt h.bd h.ne
theorem oat {i:Nat} (B:yY (j9 f) 0 i):(ij (mC f) (f.au.length) 0)[i]? =some i:=by induction B with
 |root=>exact ve h.go.bd h.ne
 | @step n p H q I=>
  have l:=q;have e:j9 f n=j9 (jG (mC f) (f.au.length) 0) n:=aC (λg=>j9 g n) h.eq;rw[wV I] at e;have w:(p.1,(ij (mC f) (f.au.length) 0).idxOf p.2)∈j9 f n:=by rw[e];exact aA.2 ⟨p,q,rfl⟩
  have z:=(h.x5 n).Gm (a:=p.2) l w;have D:p.2∈ij (mC f) (f.au.length) 0:=h.WL (h.bd n (h.QX H) p l);have:=r6 D;rw[<-z] at this;exact this
theorem ord:ij (mC f) (f.au.length) 0=List.range (f.au.length):=by
 apply je;intro i;by_cases l:i<f.au.length
 .rw[h.oat (h.Qv l),s8 l]
 .rw[fE (by rw[h.WK];omega),fE (by simpa using l)]
theorem nn {x:Node} (l:x∈f.au) {a:bD} (q:a∈x.cG):0<=a.To:=by rw[h.eq] at l;obtain⟨n,_,rfl⟩:=aA.1 l;obtain⟨p,_,rfl⟩:=aA.1 q;exact xQ _
end Can
structure TO (T:Nat) (sb:Int->Int->Prop):Prop where
 rl:∀{a b},sb a b->0<=a/\a<(T:Int)
 rr:∀{a b},sb a b->0<=b/\b<(T:Int)
 refl:∀{a},0<=a->a<(T:Int)->sb a a
 trans:∀{a b c},sb a b->sb b c->sb a c
 anti:∀{a b},sb a b->sb b a->a=b
 top:∀{a},0<=a->a<(T:Int)->sb 0 a
def CU (sb:Int->Int->Prop) (G:Gr) (r:Nat) (H:Gr) (s:Nat) (m:Nat->Nat):Prop:=
 m r=s/\∀i,yY G.sc r i->sb (G.ty i) (H.ty (m i))/\∀p∈G.sc i,(p.1,m p.2)∈H.sc (m i)
def CU.Qv {sb:Int->Int->Prop} {G H:Gr} {r s:Nat} {m:Nat->Nat} (h:CU sb G r H s m) {i:Nat} (l:yY G.sc r i):yY H.sc s (m i):=by induction l with
 |root=>rw[h.1];exact .root
 |step q w z=>exact z.step ((h.2 _ q).2 _ w)
def CU.comp {s1 s2 s3:Int->Int->Prop} (B:∀{a b c},s1 a b->s2 b c->s3 a c) {G H K:Gr} {r s t:Nat} {m w:Nat->Nat} (h:CU s1 G r H s m) (q:CU s2 H s K t w):CU s3 G r K t (λi=>w (m i)):=
 ⟨by show w (m r)=t;rw[h.1,q.1],λi l=>⟨B (h.2 i l).1 (q.2 _ (h.Qv l)).1,λp z=>(q.2 _ (h.Qv l)).2 _ ((h.2 i l).2 p z)⟩⟩
def Le (sb:Int->Int->Prop) (f g:FSt):Prop:=∃m,CU sb (mC f) 0 (mC g) 0 m
def CU.idG {sb:Int->Int->Prop} {G:Gr} {r:Nat} (h:∀i,yY G.sc r i->sb (G.ty i) (G.ty i)):CU sb G r G r id:=⟨rfl,λi l=>⟨h i l,λp q=>q⟩⟩
section
variable {T F:Nat} {sb:Int->Int->Prop} (hT:TO T sb)
include hT
theorem Le.refl {f:FSt} (h:Can T F f):Le sb f f:=⟨id,CU.idG λi l=>hT.refl (h.go.tp i (h.QX l)).1 (h.go.tp i (h.QX l)).2⟩
theorem Le.trans {f g k:FSt} (h:Le sb f g) (l:Le sb g k):Le sb f k:=by obtain⟨m,h⟩:=h;obtain⟨q,l⟩:=l;exact⟨_,CU.comp (s1:=sb) (s2:=sb) (s3:=sb) (λh l=>hT.trans h l) h l⟩
theorem Le.anti {f g:FSt} (D:Can T F f) (H:Can T F g) (h:Le sb f g) (w:Le sb g f):f=g:=by
 obtain⟨m,h⟩:=h;obtain⟨W,w⟩:=w;have L:∀i,yY (j9 f) 0 i->W (m i)=i:=by have I:=CU.comp (s1:=sb) (s2:=sb) (s3:=sb) (λh w=>hT.trans h w) h w;intro i Q;induction Q with
  |root=>exact I.1
  | @step n p S B U=>have l:=(I.2 n S).2 p B;simp only[U] at l;exact((D.x5 n).Gm (a:=p.2) B l).symm
 have e2:∀i,yY (j9 g) 0 i->m (W i)=i:=by have I:=CU.comp (s1:=sb) (s2:=sb) (s3:=sb) (λh w=>hT.trans h w) w h;intro i Q;induction Q with
  |root=>exact I.1
  | @step n p S B U=>have l:=(I.2 n S).2 p B;simp only[U] at l;exact((H.x5 n).Gm (a:=p.2) B l).symm
 rw[D.eq,H.eq];refine Lf (R:=λa b=>yY (j9 f) 0 a/\m a=b) D.bd H.bd D.ne H.ne ?_ ?_ ?_ ⟨.root,h.1⟩
 .rintro a b a' b' ⟨z,rfl⟩ ⟨P,rfl⟩;constructor
  .intro e;rw[e]
  .intro e;rw[<-L a z,<-L a' P,e]
 .rintro a b ⟨z,rfl⟩;have hm:=h.Qv z;have e:j9 g (m a)=(j9 f a).map λp=>(p.1,m p.2):=by
   refine(vK.ext ((D.x5 a).map m) (H.x5 (m a)) λq=> ?_).symm;constructor
   .intro O;obtain⟨p,B,rfl⟩:=aA.1 O;exact(h.2 a z).2 p B
   .intro O;have l:=(w.2 _ hm).2 q O;rw[L a z] at l;refine aA.2 ⟨_,l,?_⟩;show(q.1,m (W q.2))=q;rw[e2 q.2 (hm.step O)]
  show kU _ (j9 f a) (j9 g (m a));rw[e];exact kU.zk λp B=>⟨rfl,z.step B,rfl⟩
 .rintro a b ⟨z,rfl⟩;have l:=(w.2 _ (h.Qv z)).1;rw[L a z] at l;exact hT.anti (h.2 a z).1 l
end
section
variable {T F:Nat} {G:Gr} {N r:Nat} (hG:GO T F G N) (hr:r<N)
include hG hr
theorem Lz {sb:Int->Int->Prop} (z:∀{a},0<=a->a<(T:Int)->sb a a):CU sb G r (mC (jG G N r)) 0 (λi=>(ij G N r).idxOf i):=by
 refine⟨sj (rF hG.bd hr).nd (ve hG.bd hr),λi l=> ?_⟩;have q:=(Fa hG.bd hr).2 l;have:=hG.tp i (l.lt hG.bd hr);refine⟨?_,λp w=> ?_⟩
 .show sb _ (qT _ ((ij G N r).idxOf i));rw[Er (r6 q)];exact z this.1 this.2
 .show _∈j9 _ ((ij G N r).idxOf i);rw[wV (r6 q)];exact aA.2 ⟨p,w,rfl⟩
theorem Ld {sb:Int->Int->Prop} (O:∀{a},0<=a->a<(T:Int)->sb a a):CU sb (mC (jG G N r)) 0 G r (λi=>(ij G N r).getD i r):=by
 have H:=ve hG.bd hr;refine⟨by show(ij G N r).getD 0 r=r;rw[bQ,H];rfl,λi L=> ?_⟩;obtain⟨x,w⟩:=Ep (L.lt (Ju hG hr) (Jw hG hr));have B:=aS w;have:=hG.tp x ((rF hG.bd hr).lt x B);have z:(ij G N r).getD i r=x:=by rw[bQ,w];rfl
 refine⟨?_,λp l=> ?_⟩
 .show sb (qT _ _) (G.ty ((ij G N r).getD i r));rw[Er w,z];exact O this.1 this.2
 .have l:p∈j9 (jG G N r) i:=l;rw[wV w] at l;obtain⟨q,D,rfl⟩:=aA.1 l;have I:=r6 (vf hG.bd hr B D);show(q.1,(ij G N r).getD _ r)∈G.sc ((ij G N r).getD i r);rw[z,bQ,I];exact D
end
