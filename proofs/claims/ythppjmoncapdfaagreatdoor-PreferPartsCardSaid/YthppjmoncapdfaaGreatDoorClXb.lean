/- The Closure laws, plain. -/
import Derived.Test.YthppjmoncapdfaaGreatDoorAmI
import Derived.Test.YthppjmoncapdfaaGreatDoorClF
import Derived.Test.YthppjmoncapdfaaGreatDoorClO
import Derived.Lib.DecodeN
import Derived.Test.YthppjmoncapdfaaGreatDoorClT
set_option linter.unusedVariables false
set_option linter.unusedSimpArgs false
set_option linter.unusedSectionVars false
namespace Go.Proofs.YthppjmoncapdfaaGreatDoor.cl
open Go Go.AM
end Go.Proofs.YthppjmoncapdfaaGreatDoor.cl
set_option linter.unusedVariables false
set_option linter.unusedSimpArgs false
namespace Go.AM
abbrev Us:Type:=List UInt8
theorem Bk {α:Type}:∀{l m:List α},l.Nodup→(∀x∈l,x∈m)→l.length≤m.length:=by
 intro l
 induction l with
 |nil=>intro m _ _;simp
 |cons x l ih=>
  intro m hd hs;have hd':=List.nodup_cons.1 hd;obtain ⟨a,b,rfl⟩:=List.append_of_mem (hs x (by simp))
  have:=ih (m:=a++b) hd'.2 (fun y hy=>by
   have h1:=hs y (by simp [hy]);simp only [List.mem_append,List.mem_cons] at h1⊢;rcases h1 with h|h|h
   ·exact .inl h
   ·subst h;exact absurd hy hd'.1
   ·exact .inr h)
  simp only [List.length_cons,List.length_append] at this⊢;omega
end Go.AM
set_option linter.unusedVariables false
set_option linter.unusedSimpArgs false
set_option linter.unusedSectionVars false
namespace Go.AM
section
variable {K V:Type}
theorem Kn (k:K):uF ([]:List (K×V)) k=none:=by simp [uF]
theorem Fh (x:K×V) (l:List (K×V)) (k:K):uF (x::l) k=open Classical in if k=x.1 then some 0 else (uF l k).map (· +1):=by
 unfold uF;rw [List.findIdx?_cons];by_cases h:k=x.1<;>simp [h]
theorem JJ (k:K):getM ([]:List (K×V)) k=none:=by simp [getM,Kn]
theorem vg (x:K×V) (l:List (K×V)) (k:K):getM (x::l) k=open Classical in if k=x.1 then some x.2 else getM l k:=by
 unfold getM;rw [Fh];by_cases h:k=x.1
 ·simp [h]
 ·simp only [h,if_false]
  cases uF l k<;>simp
theorem Kv (k:K) (v:V):zP [] k v=[(k,v)]:=by simp [zP,Kn]
theorem Qf (x:K×V) (l:List (K×V)) (k:K) (v:V):zP (x::l) k v=open Classical in if k=x.1 then (k,v)::l else x::zP l k v:=by
 unfold zP;rw [Fh];by_cases h:k=x.1
 ·simp [h]
 ·simp only [h,if_false]
  cases uF l k<;>simp
variable {R:Type}
theorem wL {l:List (K×V)} {k:K} {v:V} (h:getM l k=some v) (f:V→Option R) (z:Option R):vO l k f z=f v:=by unfold vO;rw [h]
theorem MT {l:List (K×V)} {k:K} (h:getM l k=none) (f:V→Option R) (z:Option R):vO l k f z=z:=by unfold vO;rw [h]
theorem qP {α:Type} (x:α) (k:α→Option R):uy x k=k x:=rfl
end
end Go.AM
namespace Go.Proofs.YthppjmoncapdfaaGreatDoor.cl
open Go Go.AM
end Go.Proofs.YthppjmoncapdfaaGreatDoor.cl
set_option linter.unusedVariables false
set_option linter.unusedSimpArgs false
set_option linter.unusedSectionVars false
namespace Go.Proofs.YthppjmoncapdfaaGreatDoor.cl
open Go Go.AM
end Go.Proofs.YthppjmoncapdfaaGreatDoor.cl
set_option linter.unusedVariables false
set_option linter.unusedSimpArgs false
set_option linter.unusedSectionVars false
namespace Go.Proofs.YthppjmoncapdfaaGreatDoor.cl
open Go Go.AM
end Go.Proofs.YthppjmoncapdfaaGreatDoor.cl
set_option linter.unusedVariables false
set_option linter.unusedSimpArgs false
namespace Go.Proofs.YthppjmoncapdfaaGreatDoor.cl
open Go Go.AM
namespace pop
def mD:List Nat→Nat
 |[]=>0
 |b::l=>b+256 *mD l
theorem rH (a b c d:Nat) (hb:b<256) (hd:d<256):(b+256 *a)&&&(d+256 *c)=(b&&&d)+256 *(a&&&c):=by
 have h1:b+256 *a=2^ 8 *a+b:=by omega
 have h2:d+256 *c=2^ 8 *c+d:=by omega
 have h3:(b&&&d)+256 *(a&&&c)=2^ 8 *(a&&&c)+(b&&&d):=by omega
 have hbd:b&&&d<2^ 8:=Nat.lt_of_le_of_lt Nat.and_le_left (by omega);rw [h1,h2,h3];apply Nat.eq_of_testBit_eq;intro j;rw [Nat.testBit_and,Nat.testBit_two_pow_mul_add a (by omega),Nat.testBit_two_pow_mul_add c (by omega),Nat.testBit_two_pow_mul_add (a&&&c) hbd];by_cases h:j<8
 ·simp [h,Nat.testBit_and]
 ·simp [h,Nat.testBit_and]
theorem f1:∀(e:Fin 2) (b:Fin 256),(128 *e.val+b.val / 2)&&&85=(b.val / 2)&&&85:=by decide+kernel
theorem f2:∀(e:Fin 4) (b:Fin 256),(64 *e.val+b.val / 4)&&&51=(b.val / 4)&&&51:=by decide+kernel
theorem f3:∀(e:Fin 5) (b:Fin 256),b.val / 16≤4→b.val % 16≤4→(16 *e.val+b.val / 16+b.val)&&&15=b.val / 16+b.val % 16:=by decide+kernel
def s1 (b:Nat):Nat:=((b / 2)&&&85)+(b&&&85)
def s2 (b:Nat):Nat:=((b / 4)&&&51)+(b&&&51)
theorem AY:∀b:Fin 256,s1 b.val<256:=by decide+kernel
theorem AZ:∀b:Fin 256,s2 (s1 b.val) / 16≤4∧s2 (s1 b.val) % 16≤4∧s2 (s1 b.val) / 16+s2 (s1 b.val) % 16=dZ 8 b.val:=by decide+kernel
theorem Jk:∀b:Fin 256,dZ 8 b.val≤8:=by decide+kernel
theorem S1:∀(l:List Nat),(∀b∈l,b<256)→((mD l / 2)&&&mD (l.map fun _=>85))+(mD l&&&mD (l.map fun _=>85))=mD (l.map s1):=by
 intro l
 induction l with
 |nil=>intro _;rfl
 |cons b l ih=>
  intro h;have hb:=h b (by simp);have WQ:=ih fun x hx=>h x (by simp [hx])
  simp only [List.map_cons,mD];have e:(b+256 *mD l) / 2=(128 *(mD l % 2)+b / 2)+256 *(mD l / 2):=by omega
  rw [e,rH _ _ _ _ (by omega) (by omega),rH _ _ _ _ hb (by omega),f1 ⟨mD l % 2,by omega⟩ ⟨b,hb⟩];dsimp only;rw [show s1 b=((b / 2)&&&85)+(b&&&85) from rfl,←WQ];omega
theorem S2:∀(l:List Nat),(∀b∈l,b<256)→((mD l / 4)&&&mD (l.map fun _=>51))+(mD l&&&mD (l.map fun _=>51))=mD (l.map s2):=by
 intro l
 induction l with
 |nil=>intro _;rfl
 |cons b l ih=>
  intro h;have hb:=h b (by simp);have WQ:=ih fun x hx=>h x (by simp [hx])
  simp only [List.map_cons,mD];have e:(b+256 *mD l) / 4=(64 *(mD l % 4)+b / 4)+256 *(mD l / 4):=by omega
  rw [e,rH _ _ _ _ (by omega) (by omega),rH _ _ _ _ hb (by omega),f2 ⟨mD l % 4,by omega⟩ ⟨b,hb⟩];dsimp only;rw [show s2 b=((b / 4)&&&51)+(b&&&51) from rfl,←WQ];omega
theorem P4 {l:List Nat} (h:∀b∈l,b / 16≤4∧b % 16≤4):mD l % 16≤4:=by
 cases l with
 |nil=>decide
 |cons b l=>have:=(h b (by simp)).2;simp only [mD];omega
theorem S3:∀(l:List Nat),(∀b∈l,b / 16≤4∧b % 16≤4)→(mD l / 16+mD l)&&&mD (l.map fun _=>15)=mD (l.map fun b=>b / 16+b % 16):=by
 intro l
 induction l with
 |nil=>intro _;rfl
 |cons b l ih=>
  intro h;have hb:=h b (by simp);have WQ:=ih fun x hx=>h x (by simp [hx])
  have hm:=P4 fun x hx=>h x (List.mem_cons_of_mem b hx)
  simp only [List.map_cons,mD];have e:(b+256 *mD l) / 16+(b+256 *mD l)=(16 *(mD l % 16)+b / 16+b)+256 *(mD l / 16+mD l):=by omega
  rw [e,rH _ _ _ _ (by omega) (by omega),f3 ⟨mD l % 16,by omega⟩ ⟨b,by omega⟩ hb.1 hb.2,WQ]
theorem Pg:∀(k b m:Nat),b<2^ k→∀n,dZ (k+n) (b+2^ k *m)=dZ k b+dZ n m:=by
 intro k
 induction k with
 |zero=>intro b m hb n;simp at hb;subst hb;simp [dZ]
 |succ k ih=>
  intro b m hb n;rw [show k+1+n=(k+n)+1 by omega];simp only [dZ];rw [Nat.pow_succ] at hb⊢;have e1:(b+2^ k *2 *m) % 2=b % 2:=by
   rw [show 2^ k *2 *m=2 *(2^ k *m) by rw [Nat.mul_comm (2^ k) 2,Nat.mul_assoc]];omega
  have e2:(b+2^ k *2 *m) / 2=b / 2+2^ k *m:=by
   rw [show 2^ k *2 *m=2 *(2^ k *m) by rw [Nat.mul_comm (2^ k) 2,Nat.mul_assoc]];omega
  rw [e1,e2,ih (b / 2) m (by omega) n];omega
theorem pV (b m n:Nat) (hb:b<256):dZ (8+n) (b+256 *m)=dZ 8 b+dZ n m:=Pg 8 b m (by omega) n
def fold (x:Nat):Nat:=
 let a:=x+x / 256
 let b:=a+a / 65536
 b+b / 4294967296
theorem RN {r k y:Nat} (h:r<k):(r+k *y) / k=y:=by
 rw [Nat.add_mul_div_left _ _ (by omega),Nat.div_eq_of_lt h,Nat.zero_add]
theorem R8 {p0 p1 p2 p3 p4 p5 p6 p7:Nat} (h0:p0≤8) (h1:p1≤8) (h2:p2≤8) (h3:p3≤8) (h4:p4≤8) (h5:p5≤8) (h6:p6≤8) (h7:p7≤8):
  fold (mD [p0,p1,p2,p3,p4,p5,p6,p7]) % 128=p0+p1+p2+p3+p4+p5+p6+p7∧fold (mD [p0,p1,p2,p3,p4,p5,p6,p7])<9223372036854775808:=by
 have e0:mD [p0,p1,p2,p3,p4,p5,p6,p7]=p0+256 *(p1+256 *p2+65536 *p3+16777216 *p4+4294967296 *p5+1099511627776 *p6+281474976710656 *p7):=by simp only [mD];omega
 have e1:p0+256 *(p1+256 *p2+65536 *p3+16777216 *p4+4294967296 *p5+1099511627776 *p6+281474976710656 *p7)+(p1+256 *p2+65536 *p3+16777216 *p4+4294967296 *p5+1099511627776 *p6+281474976710656 *p7)
   =((p0+p1)+256 *(p1+p2))+65536 *((p2+p3)+256 *(p3+p4)+65536 *(p4+p5)+16777216 *(p5+p6)+4294967296 *(p6+p7)+1099511627776 *p7):=by omega
 have e2:((p0+p1)+256 *(p1+p2))+65536 *((p2+p3)+256 *(p3+p4)+65536 *(p4+p5)+16777216 *(p5+p6)+4294967296 *(p6+p7)+1099511627776 *p7)+((p2+p3)+256 *(p3+p4)+65536 *(p4+p5)+16777216 *(p5+p6)+4294967296 *(p6+p7)+1099511627776 *p7)
   =((p0+p1+p2+p3)+256 *(p1+p2+p3+p4)+65536 *(p2+p3+p4+p5)+16777216 *(p3+p4+p5+p6))+4294967296 *((p4+p5+p6+p7)+256 *(p5+p6+p7)+65536 *(p6+p7)+16777216 *p7):=by omega
 have e3:((p0+p1+p2+p3)+256 *(p1+p2+p3+p4)+65536 *(p2+p3+p4+p5)+16777216 *(p3+p4+p5+p6))+4294967296 *((p4+p5+p6+p7)+256 *(p5+p6+p7)+65536 *(p6+p7)+16777216 *p7)+((p4+p5+p6+p7)+256 *(p5+p6+p7)+65536 *(p6+p7)+16777216 *p7)
   =(p0+p1+p2+p3+p4+p5+p6+p7)+128 *(2 *(p1+p2+p3+p4)+512 *(p2+p3+p4+p5)+131072 *(p3+p4+p5+p6)+33554432 *((p4+p5+p6+p7)+256 *(p5+p6+p7)+65536 *(p6+p7)+16777216 *p7)+2 *(p5+p6+p7)+512 *(p6+p7)+131072 *p7):=by omega
 simp only [fold];rw [e0,RN (by omega),e1,RN (by omega),e2,RN (by omega),e3,Nat.add_mul_mod_self_left];exact ⟨Nat.mod_eq_of_lt (by omega),by omega⟩
theorem Xu {x:Nat} (hx:x<18446744073709551616):∃l:List Nat,l.length=8∧(∀b∈l,b<256)∧x=mD l:=by
 refine ⟨[x % 256,x / 256 % 256,x / 65536 % 256,x / 16777216 % 256,x / 4294967296 % 256,x / 1099511627776 % 256,x / 281474976710656 % 256,x / 72057594037927936],rfl,?_,?_⟩
 ·intro b hb
  simp only [List.mem_cons,List.not_mem_nil,or_false] at hb;omega
 ·simp only [mD];omega
def x1 (x:Nat):Nat:=((x / 2)&&&6148914691236517205)+(x&&&6148914691236517205)
def x2 (x:Nat):Nat:=((x / 4)&&&3689348814741910323)+(x&&&3689348814741910323)
def x3 (x:Nat):Nat:=(x / 16+x)&&&1085102592571150095
theorem len8 {l:List Nat} (h:l.length=8):∃a b c d e f g i,l=[a,b,c,d,e,f,g,i]:=by
 match l,h with
 |[a,b,c,d,e,f,g,i],_=>exact ⟨a,b,c,d,e,f,g,i,rfl⟩
theorem YU:∀{l:List Nat},(∀b∈l,b<256)→mD l<256^ l.length:=by
 intro l
 induction l with
 |nil=>intro _;decide
 |cons b l ih=>
  intro h;have h1:=h b (by simp);have h2:=ih fun x hx=>h x (by simp [hx])
  simp only [mD,List.length_cons,Nat.pow_succ];omega
theorem VT:∀{l:List Nat},(∀b∈l,b<128)→mD l+mD l<256^ l.length:=by
 intro l
 induction l with
 |nil=>intro _;decide
 |cons b l ih=>
  intro h;have h1:=h b (by simp);have h2:=ih fun x hx=>h x (by simp [hx])
  simp only [mD,List.length_cons,Nat.pow_succ];omega
theorem YW {x:Nat} (hx:x<18446744073709551616):fold (x3 (x2 (x1 x))) % 128=dZ 64 x∧x1 x<18446744073709551616∧x2 (x1 x)<18446744073709551616∧x2 (x1 x) / 16+x2 (x1 x)<18446744073709551616∧fold (x3 (x2 (x1 x)))<9223372036854775808:=by
 obtain ⟨l,hl,hb,rfl⟩:=Xu hx;obtain ⟨a,b,c,d,e,f,g,i,rfl⟩:=len8 hl;simp only [List.mem_cons,List.not_mem_nil,or_false,forall_eq_or_imp,forall_eq] at hb;obtain ⟨ha,hb,hc,hd,he,hf,hg,hi⟩:=hb;have q1:x1 (mD [a,b,c,d,e,f,g,i])=mD [s1 a,s1 b,s1 c,s1 d,s1 e,s1 f,s1 g,s1 i]:=by
  have:=S1 [a,b,c,d,e,f,g,i] (by simp;omega);simp only [List.map_cons,List.map_nil] at this;rw [show mD [85,85,85,85,85,85,85,85]=6148914691236517205 by decide+kernel] at this;exact this
 have A:=AY ⟨a,ha⟩;have B:=AY ⟨b,hb⟩;have C:=AY ⟨c,hc⟩;have D:=AY ⟨d,hd⟩;have E:=AY ⟨e,he⟩;have F:=AY ⟨f,hf⟩;have G:=AY ⟨g,hg⟩;have I:=AY ⟨i,hi⟩;dsimp only at A B C D E F G I;have q2:x2 (mD [s1 a,s1 b,s1 c,s1 d,s1 e,s1 f,s1 g,s1 i])=mD [s2 (s1 a),s2 (s1 b),s2 (s1 c),s2 (s1 d),s2 (s1 e),s2 (s1 f),s2 (s1 g),s2 (s1 i)]:=by
  have:=S2 [s1 a,s1 b,s1 c,s1 d,s1 e,s1 f,s1 g,s1 i] (by simp;omega);simp only [List.map_cons,List.map_nil] at this;rw [show mD [51,51,51,51,51,51,51,51]=3689348814741910323 by decide+kernel] at this;exact this
 have A2:=AZ ⟨a,ha⟩;have B2:=AZ ⟨b,hb⟩;have C2:=AZ ⟨c,hc⟩;have D2:=AZ ⟨d,hd⟩;have E2:=AZ ⟨e,he⟩;have F2:=AZ ⟨f,hf⟩;have G2:=AZ ⟨g,hg⟩;have I2:=AZ ⟨i,hi⟩;dsimp only at A2 B2 C2 D2 E2 F2 G2 I2;have q3:x3 (mD [s2 (s1 a),s2 (s1 b),s2 (s1 c),s2 (s1 d),s2 (s1 e),s2 (s1 f),s2 (s1 g),s2 (s1 i)])=mD [dZ 8 a,dZ 8 b,dZ 8 c,dZ 8 d,dZ 8 e,dZ 8 f,dZ 8 g,dZ 8 i]:=by
  have:=S3 [s2 (s1 a),s2 (s1 b),s2 (s1 c),s2 (s1 d),s2 (s1 e),s2 (s1 f),s2 (s1 g),s2 (s1 i)] (by simp;omega);simp only [List.map_cons,List.map_nil,A2.2.2,B2.2.2,C2.2.2,D2.2.2,E2.2.2,F2.2.2,G2.2.2,I2.2.2] at this;rw [show mD [15,15,15,15,15,15,15,15]=1085102592571150095 by decide+kernel] at this;exact this
 have A3:=Jk ⟨a,ha⟩;have B3:=Jk ⟨b,hb⟩;have C3:=Jk ⟨c,hc⟩;have D3:=Jk ⟨d,hd⟩;have E3:=Jk ⟨e,he⟩;have F3:=Jk ⟨f,hf⟩;have G3:=Jk ⟨g,hg⟩;have I3:=Jk ⟨i,hi⟩;dsimp only at A3 B3 C3 D3 E3 F3 G3 I3;have hc:dZ 64 (mD [a,b,c,d,e,f,g,i])=dZ 8 a+dZ 8 b+dZ 8 c+dZ 8 d+dZ 8 e+dZ 8 f+dZ 8 g+dZ 8 i:=by
  simp only [mD];rw [pV _ _ 56 ha,pV _ _ 48 hb,pV _ _ 40 (by assumption),pV _ _ 32 hd,pV _ _ 24 he,pV _ _ 16 hf,pV _ _ 8 hg,Nat.mul_zero,Nat.add_zero];omega
 have hfm:=R8 A3 B3 C3 D3 E3 F3 G3 I3;rw [q1,q2,q3,hfm.1,hc];have k1:=YU (l:=[s1 a,s1 b,s1 c,s1 d,s1 e,s1 f,s1 g,s1 i]) (by simp;omega);have k2:=VT (l:=[s2 (s1 a),s2 (s1 b),s2 (s1 c),s2 (s1 d),s2 (s1 e),s2 (s1 f),s2 (s1 g),s2 (s1 i)]) (by simp;omega);have e8:256^ 8=18446744073709551616:=by decide+kernel
 rw [show [s1 a,s1 b,s1 c,s1 d,s1 e,s1 f,s1 g,s1 i].length=8 from rfl,e8] at k1;rw [show [s2 (s1 a),s2 (s1 b),s2 (s1 c),s2 (s1 d),s2 (s1 e),s2 (s1 f),s2 (s1 g),s2 (s1 i)].length=8 from rfl,e8] at k2;generalize mD [s2 (s1 a),s2 (s1 b),s2 (s1 c),s2 (s1 d),s2 (s1 e),s2 (s1 f),s2 (s1 g),s2 (s1 i)]=y at k2;exact ⟨rfl,k1,by omega,by omega,hfm.2⟩
theorem Rq {w v:Nat} (hw:w<18446744073709551616) (hv:v<18446744073709551616):IntKind.wrap .u64 ((BitVec.ofInt (IntKind.bits .u64) (w:Int)&&&BitVec.ofInt (IntKind.bits .u64) (v:Int)).toNat:Int)=((w&&&v:Nat):Int):=by
 have o:∀w:Nat,BitVec.ofInt (IntKind.bits .u64) (w:Int)=BitVec.ofNat 64 w:=fun w=>BitVec.ofInt_natCast 64 w
 rw [o,o];have h:w&&&v≤w:=Nat.and_le_left;have e:(BitVec.ofNat 64 w&&&BitVec.ofNat 64 v).toNat=w&&&v:=by
  rw [BitVec.toNat_and,BitVec.toNat_ofNat,BitVec.toNat_ofNat,Nat.mod_eq_of_lt (by simpa using hw),Nat.mod_eq_of_lt (by simpa using hv)]
 show IntKind.wrap .u64 (((BitVec.ofNat 64 w&&&BitVec.ofNat 64 v).toNat:Nat):Int)=_;rw [e,D5 (by omega) (by omega)]
theorem Vd (w:Nat) {k:Nat} {j:Int} (hj:Int.toNat j=k) (hk:k≤64):Int.fdiv (w:Int) (2^ min (Int.toNat j) (IntKind.bits .u64))=((w / 2^ k:Nat):Int):=by
 have e:min k (IntKind.bits .u64)=k:=by
  show min k 64=k;omega
 rw [hj,e,show (2^ k:Int)=((2^ k:Nat):Int) by simp,Int.fdiv_eq_ediv_of_nonneg _ (Int.natCast_nonneg _)];simp
theorem UF {w v:Nat} (h:w+v<18446744073709551616):IntKind.wrap .u64 ((w:Int)+(v:Int))=((w+v:Nat):Int):=by
 rw [D5 (by omega) (by omega)];omega
theorem t1 {x:Nat} (hx:x<18446744073709551616) (h:x1 x<18446744073709551616):IntKind.wrap .u64 ((IntKind.wrap .u64 ((BitVec.ofInt (IntKind.bits .u64) (Int.fdiv (x:Int) (2^ min (Int.toNat 1) (IntKind.bits .u64)))&&&BitVec.ofInt (IntKind.bits .u64) 6148914691236517205).toNat:Int))+(IntKind.wrap .u64 ((BitVec.ofInt (IntKind.bits .u64) (x:Int)&&&BitVec.ofInt (IntKind.bits .u64) 6148914691236517205).toNat:Int)))=((x1 x:Nat):Int):=by
 have c:(6148914691236517205:Int)=((6148914691236517205:Nat):Int):=rfl;rw [Vd x (k:=1) rfl (by omega),c,Rq (by omega) (by omega),Rq hx (by omega),UF h];rfl
theorem t2 {x:Nat} (hx:x<18446744073709551616) (h:x2 x<18446744073709551616):IntKind.wrap .u64 ((IntKind.wrap .u64 ((BitVec.ofInt (IntKind.bits .u64) (Int.fdiv (x:Int) (2^ min (Int.toNat 2) (IntKind.bits .u64)))&&&BitVec.ofInt (IntKind.bits .u64) 3689348814741910323).toNat:Int))+(IntKind.wrap .u64 ((BitVec.ofInt (IntKind.bits .u64) (x:Int)&&&BitVec.ofInt (IntKind.bits .u64) 3689348814741910323).toNat:Int)))=((x2 x:Nat):Int):=by
 have c:(3689348814741910323:Int)=((3689348814741910323:Nat):Int):=rfl;rw [Vd x (k:=2) rfl (by omega),c,Rq (by omega) (by omega),Rq hx (by omega),UF h];rfl
theorem t3 {x:Nat} (h:x / 16+x<18446744073709551616):IntKind.wrap .u64 ((BitVec.ofInt (IntKind.bits .u64) (IntKind.wrap .u64 ((Int.fdiv (x:Int) (2^ min (Int.toNat 4) (IntKind.bits .u64)))+(x:Int)))&&&BitVec.ofInt (IntKind.bits .u64) 1085102592571150095).toNat:Int)=((x3 x:Nat):Int):=by
 have c:(1085102592571150095:Int)=((1085102592571150095:Nat):Int):=rfl;rw [Vd x (k:=4) rfl (by omega),UF h,c,Rq h (by omega)];rfl
theorem t4 {x k:Nat} {j:Int} (hj:Int.toNat j=k) (hk:k≤64) (h:x+x / 2^ k<18446744073709551616):IntKind.wrap .u64 ((x:Int)+(Int.fdiv (x:Int) (2^ min (Int.toNat j) (IntKind.bits .u64))))=((x+x / 2^ k:Nat):Int):=by
 rw [Vd x hj hk,UF h]
theorem t5 {x:Nat} (h:x<9223372036854775808):IntKind.wrap .i64 ((BitVec.ofInt (IntKind.bits .i64) (IntKind.wrap .i64 (x:Int))&&&BitVec.ofInt (IntKind.bits .i64) 127).toNat:Int)=((x % 128:Nat):Int):=by
 have hw:IntKind.wrap .i64 (x:Int)=(x:Int):=iK (by omega) (by omega);rw [hw];have o:BitVec.ofInt (IntKind.bits .i64) (x:Int)=BitVec.ofNat 64 x:=BitVec.ofInt_natCast 64 x;have o':BitVec.ofInt (IntKind.bits .i64) 127=BitVec.ofNat 64 127:=rfl;rw [o,o'];have e:(BitVec.ofNat 64 x&&&BitVec.ofNat 64 127).toNat=x % 128:=by
  rw [BitVec.toNat_and,BitVec.toNat_ofNat,BitVec.toNat_ofNat,Nat.mod_eq_of_lt (show x<2^ 64 by omega)];exact Nat.and_two_pow_sub_one_eq_mod x 7
 show IntKind.wrap .i64 (((BitVec.ofNat 64 x&&&BitVec.ofNat 64 127).toNat:Nat):Int)=_;rw [e,iK (by omega) (by omega)]
end pop
end Go.Proofs.YthppjmoncapdfaaGreatDoor.cl
set_option linter.unusedVariables false
set_option linter.unusedSimpArgs false
namespace Go.Proofs.YthppjmoncapdfaaGreatDoor.cl
open Go Go.AM
namespace pop
theorem Vc:∀(n w:Nat),dZ n w≤n:=by
 intro n
 induction n with
 |zero=>intro w;exact Nat.le_refl _
 |succ n ih=>intro w;have:=ih (w / 2);simp only [dZ];omega
theorem t48 {x:Nat} (h:x+x / 256<18446744073709551616):IntKind.wrap .u64 ((x:Int)+(Int.fdiv (x:Int) (2^ min (Int.toNat 8) (IntKind.bits .u64))))=((x+x / 256:Nat):Int):=t4 (k:=8) rfl (by omega) h
theorem t416 {x:Nat} (h:x+x / 65536<18446744073709551616):IntKind.wrap .u64 ((x:Int)+(Int.fdiv (x:Int) (2^ min (Int.toNat 16) (IntKind.bits .u64))))=((x+x / 65536:Nat):Int):=t4 (k:=16) rfl (by omega) h
theorem t432 {x:Nat} (h:x+x / 4294967296<18446744073709551616):IntKind.wrap .u64 ((x:Int)+(Int.fdiv (x:Int) (2^ min (Int.toNat 32) (IntKind.bits .u64))))=((x+x / 4294967296:Nat):Int):=t4 (k:=32) rfl (by omega) h
theorem LN {x:Nat} (h:fold x<9223372036854775808):x+x / 256<18446744073709551616∧x+x / 256+(x+x / 256) / 65536<18446744073709551616∧fold x=x+x / 256+(x+x / 256) / 65536+(x+x / 256+(x+x / 256) / 65536) / 4294967296:=by
 have e:fold x=x+x / 256+(x+x / 256) / 65536+(x+x / 256+(x+x / 256) / 65536) / 4294967296:=rfl;rw [e] at h;refine ⟨?_,?_,e⟩
 ·generalize x+x / 256=a at h⊢
  generalize a / 65536=b at h;generalize (a+b) / 4294967296=c at h;omega
 ·generalize x+x / 256+(x+x / 256) / 65536=a at h⊢
  generalize a / 4294967296=c at h;omega
end pop
end Go.Proofs.YthppjmoncapdfaaGreatDoor.cl
set_option linter.unusedVariables false
set_option linter.unusedSimpArgs false
set_option linter.unusedSectionVars false
namespace Go.AM
end Go.AM
namespace Go.Proofs.YthppjmoncapdfaaGreatDoor.cl
open Go Go.AM
theorem Rr {α:Type} (p:α→Bool):∀(xs:List α) (i:Nat),decide (sN p xs i≥0)=xs.any p:=by
 intro xs
 induction xs with
 |nil=>intro i;rfl
 |cons x xs ih=>
  intro i;rw [sN,List.any_cons];cases h:p x with
  |true=>simp
  |false=>rw [←ih (i+1)];simp
theorem h384 {s:List aK} (hs:s.length≤1000) (x:aK):∀(xs:List aK) (i:Nat),s.drop i=xs→HS s s.length i x=some (sN (fun y=>y.aP==x.aP) xs i):=by
 intro xs
 induction xs with
 |nil=>intro i h;refine S0 _ _ _ _ ?_;rw [dm h];rfl
 |cons y xs ih=>
  intro i h;refine S0 _ _ _ _ ?_;have h388:f388 y x=some (y.aP==x.aP):=e388 _ _ rfl;rw [cR h,cond_true,bX h,h388,aH,dA h (by omega),ih (i+1) (cH h),sN];cases y.aP==x.aP<;>rfl
theorem Z6 {s:List aK} (hs:s.length≤1000) (F:Us):∀(xs:List aK) (i:Nat),s.drop i=xs→BE s F s.length i=some (sN (fun y=>y.aP==F) xs i):=by
 intro xs
 induction xs with
 |nil=>intro i h;refine Oo _ _ _ _ ?_;rw [dm h];rfl
 |cons y xs ih=>
  intro i h;refine Oo _ _ _ _ ?_;have h389:f389 y F=some (y.aP==F):=e389 _ _ rfl;rw [cR h,cond_true,bX h,h389,aH,dA h (by omega),ih (i+1) (cH h),sN];cases y.aP==F<;>rfl
end Go.Proofs.YthppjmoncapdfaaGreatDoor.cl
set_option linter.unusedVariables false
set_option linter.unusedSimpArgs false
namespace Go.Proofs.YthppjmoncapdfaaGreatDoor.cl.pf
open Go Go.AM
def jK {α β:Type} (R:α→β→Prop):List α→List β→Prop
 |[],[]=>True
 |a::l,b::m=>R a b∧jK R l m
 |_,_=>False
theorem jK.append {α β:Type} {R:α→β→Prop}:∀{l l':List α} {m m':List β},jK R l m→jK R l' m'→jK R (l++l') (m++m')
 |[],_,[],_,_,h=>h
 |a::l,_,b::m,_,h,k=>⟨h.1,jK.append h.2 k⟩
 |[],_,_::_,_,h,_=>h.elim
 |_::_,_,[],_,h,_=>h.elim
theorem jK.map_eq {α β γ:Type} {R:α→β→Prop} {f:α→γ} {g:β→γ} (hfg:∀a b,R a b→f a=g b):∀{l:List α} {m:List β},jK R l m→l.map f=m.map g
 |[],[],_=>rfl
 |a::l,b::m,h=>by simp only [List.map_cons,hfg a b h.1,jK.map_eq hfg h.2]
 |[],_::_,h=>h.elim
 |_::_,[],h=>h.elim
theorem jK.mem_iff {R:Nat→Nat→Prop} (hR:∀{a b a' b'},R a b→R a' b'→(a=a'↔b=b')) {a b:Nat} (hab:R a b):∀{l m:List Nat},jK R l m→(a∈l↔b∈m)
 |[],[],_=>by simp
 |x::l,y::m,h=>by
  rw [List.mem_cons,List.mem_cons,jK.mem_iff hR hab h.2,hR hab h.1]
 |[],_::_,h=>h.elim
 |_::_,[],h=>h.elim
theorem jK.idx {R:Nat→Nat→Prop} (hR:∀{a b a' b'},R a b→R a' b'→(a=a'↔b=b')) {a b:Nat} (hab:R a b):∀{l m:List Nat},jK R l m→l.idxOf a=m.idxOf b
 |[],[],_=>rfl
 |x::l,y::m,h=>by
  rw [List.idxOf_cons,List.idxOf_cons,jK.idx hR hab h.2];have:=hR h.1 hab;by_cases e:x=a
  ·simp [e,this.1 e]
  ·have e':y≠b:=fun h=>e (this.2 h)
   simp [beq_eq_false_iff_ne.2 e,beq_eq_false_iff_ne.2 e']
 |[],_::_,h=>h.elim
 |_::_,[],h=>h.elim
theorem tQ:∀{N:Nat} {o:List Nat},o.Nodup→(∀x∈o,x<N)→o.length≤N
 |0,o,_,h=>by
  cases o with
  |nil=>simp
  |cons x o=>have:=h x (by simp);omega
 |N+1,o,hn,h=>by
  have h1:(o.filter (· !=N)).Nodup:=hn.filter _;have h2:=tQ (N:=N) h1 fun x hx=>by
   rw [List.mem_filter] at hx;have:=h x hx.1;have:=bne_iff_ne.1 hx.2;omega
  have h3:∀{o:List Nat},o.Nodup→o.length≤(o.filter (· !=N)).length+1:=by
   intro o
   induction o with
   |nil=>simp
   |cons x o ih=>
    intro hn;rw [List.nodup_cons] at hn;by_cases e:x=N
    ·subst e
     have:o.filter (· !=x)=o:=List.filter_eq_self.2 fun y hy=>bne_iff_ne.2 fun e=>hn.1 (e▸hy)
     simp [this]
    ·have e':(x !=N)=true:=bne_iff_ne.2 e
     have:=ih hn.2;simp only [List.filter_cons,e',if_true,List.length_cons];omega
  have:=h3 hn;omega
structure Gr where
 sc:Nat→List (Int×Nat)
 ty:Nat→Int
def lg (sc:Nat→List (Int×Nat)):Nat→Nat→List Nat→List Nat
 |0,_,o=>o
 |k+1,n,o=>if n∈o then o else (sc n).foldl (fun o p=>lg sc k p.2 o) (o++[n])
abbrev oz (sc:Nat→List (Int×Nat)) (k:Nat) (l:List (Int×Nat)) (o:List Nat):List Nat:=l.foldl (fun o p=>lg sc k p.2 o) o
def Bd (sc:Nat→List (Int×Nat)) (N:Nat):Prop:=∀n,n<N→∀p∈sc n,p.2<N
structure Met (N:Nat) (o:List Nat):Prop where
 nd:o.Nodup
 lt:∀x∈o,x<N
theorem Met.nil {N:Nat}:Met N []:=⟨List.nodup_nil,fun _ h=>by cases h⟩
theorem Met.snoc {N n:Nat} {o:List Nat} (h:Met N o) (hn:n<N) (hno:n∉o):Met N (o++[n]):=
 ⟨by
  rw [List.nodup_append];exact ⟨h.nd,by simp,fun a ha b hb=>by simp at hb;subst hb;exact fun e=>hno (e▸ha)⟩,fun x hx=>by
  rcases List.mem_append.1 hx with hx|hx
  ·exact h.lt x hx
  ·simp at hx;subst hx;exact hn⟩
section
variable {sc:Nat→List (Int×Nat)} {N:Nat}
theorem BJ:∀(k n:Nat) (o:List Nat),o<+:lg sc k n o
 |0,_,o=>List.prefix_refl _
 |k+1,n,o=>by
  simp only [lg];split
  ·exact List.prefix_refl _
  ·refine List.IsPrefix.trans (List.prefix_append o [n]) ?_
   generalize o++[n]=o';generalize sc n=l
   induction l generalizing o' with
   |nil=>exact List.prefix_refl _
   |cons p l ih=>exact List.IsPrefix.trans (BJ k p.2 o') (ih _)
theorem uY (k:Nat):∀(l:List (Int×Nat)) (o:List Nat),o<+:oz sc k l o
 |[],o=>List.prefix_refl _
 |p::l,o=>List.IsPrefix.trans (BJ k p.2 o) (uY k l _)
theorem vq (hB:Bd sc N):∀(k n:Nat) (o:List Nat),Met N o→n<N→Met N (lg sc k n o)
 |0,_,o,h,_=>h
 |k+1,n,o,h,hn=>by
  simp only [lg];split
  ·exact h
  ·rename_i hno
   have key:∀(l:List (Int×Nat)) (o:List Nat),(∀p∈l,p.2<N)→Met N o→Met N (oz sc k l o):=by
    intro l
    induction l with
    |nil=>intro o _ h;exact h
    |cons p l ih=>intro o hl h;exact ih _ (fun q hq=>hl q (by simp [hq])) (vq hB k p.2 o h (hl p (by simp)))
   exact key _ _ (hB n hn) (h.snoc hn hno)
theorem IC (k n:Nat) (o:List Nat):o.length≤(lg sc k n o).length:=(BJ k n o).length_le
theorem KU (hB:Bd sc N):∀(k n:Nat) (o:List Nat),Met N o→n<N→N<k+o.length→lg sc (k+1) n o=lg sc k n o
 |0,n,o,h,hn,hk=>by have:=tQ h.nd h.lt;omega
 |k+1,n,o,h,hn,hk=>by
  rw [lg,lg];split
  ·rfl
  ·rename_i hno
   have key:∀(l:List (Int×Nat)) (o:List Nat),(∀p∈l,p.2<N)→Met N o→N<k+o.length→oz sc (k+1) l o=oz sc k l o:=by
    intro l
    induction l with
    |nil=>intro o _ _ _;rfl
    |cons p l ih=>
     intro o hl h hk;have hp:=hl p (by simp);simp only [oz,List.foldl_cons];rw [KU hB k p.2 o h hp hk];exact ih _ (fun q hq=>hl q (by simp [hq])) (vq hB k p.2 o h hp) (by have:=IC (sc:=sc) k p.2 o;omega)
   exact key _ _ (hB n hn) (h.snoc hn hno) (by simp only [List.length_append,List.length_singleton];omega)
theorem D0 (hB:Bd sc N) {k n:Nat} {o:List Nat} (h:Met N o) (hn:n<N) (hk:N<k+o.length):∀j,lg sc (k+j) n o=lg sc k n o
 |0=>rfl
 |j+1=>by rw [←Nat.add_assoc,KU hB (k+j) n o h hn (by omega),D0 hB h hn hk j]
theorem OX (hB:Bd sc N) {k j n:Nat} {o:List Nat} (h:Met N o) (hn:n<N) (hk:N<k+o.length) (hj:N<j+o.length):lg sc k n o=lg sc j n o:=by
 rcases Nat.le_total k j with hkj|hkj
 ·obtain ⟨d,rfl⟩:=Nat.le.dest hkj;exact (D0 hB h hn hk d).symm
 ·obtain ⟨d,rfl⟩:=Nat.le.dest hkj;exact D0 hB h hn hj d
theorem tG (hB:Bd sc N):∀(k n:Nat) (o:List Nat),Met N o→n<N→N<k+o.length→n∈lg sc k n o∧∀x∈lg sc k n o,x∉o→∀p∈sc x,p.2∈lg sc k n o
 |0,n,o,h,hn,hk=>by have:=tQ h.nd h.lt;omega
 |k+1,n,o,h,hn,hk=>by
  rw [lg];split
  ·rename_i hno;exact ⟨hno,fun x hx AB=>absurd hx AB⟩
  ·rename_i hno
   have key:∀(l:List (Int×Nat)) (o:List Nat),(∀p∈l,p.2<N)→Met N o→N<k+o.length→(∀p∈l,p.2∈oz sc k l o)∧∀x∈oz sc k l o,x∉o→∀p∈sc x,p.2∈oz sc k l o:=by
    intro l
    induction l with
    |nil=>intro o _ _ _;exact ⟨fun p hp=>by (cases hp),fun x hx AB=>absurd hx AB⟩
    |cons p l ih=>
     intro o hl h hk;have hp:=hl p (by simp);obtain ⟨c1,c2⟩:=tG hB k p.2 o h hp hk;have hm:=vq hB k p.2 o h hp;have hlen:=IC (sc:=sc) k p.2 o;obtain ⟨d1,d2⟩:=ih (lg sc k p.2 o) (fun q hq=>hl q (by simp [hq])) hm (by omega);have hpre:=uY (sc:=sc) k l (lg sc k p.2 o);refine ⟨fun q hq=> ?_,fun x hx AB q hq=> ?_⟩
     ·rcases List.mem_cons.1 hq with rfl|hq
      ·exact hpre.subset c1
      ·exact d1 q hq
     ·by_cases hx2:x∈lg sc k p.2 o
      ·exact hpre.subset (c2 x hx2 AB q hq)
      ·exact d2 x hx hx2 q hq
   obtain ⟨d1,d2⟩:=key (sc n) (o++[n]) (hB n hn) (h.snoc hn hno) (by simp only [List.length_append,List.length_singleton];omega);have hpre:=uY (sc:=sc) k (sc n) (o++[n]);refine ⟨hpre.subset (by simp),fun x hx AB q hq=> ?_⟩;by_cases e:x=n
   ·subst e;exact d1 q hq
   ·exact d2 x hx (by simp [AB,e]) q hq
inductive vB (sc:Nat→List (Int×Nat)) (r:Nat):Nat→Prop where
 |root:vB sc r r
 |step {n:Nat} {p:Int×Nat}:vB sc r n→p∈sc n→vB sc r p.2
theorem OZ {r:Nat}:∀(k n:Nat) (o:List Nat),vB sc r n→∀x∈lg sc k n o,x∉o→vB sc r x
 |0,n,o,_,x,hx,AB=>absurd hx AB
 |k+1,n,o,hn,x,hx,AB=>by
  rw [lg] at hx;split at hx
  ·exact absurd hx AB
  ·have key:∀(l:List (Int×Nat)) (o:List Nat),(∀p∈l,vB sc r p.2)→∀x∈oz sc k l o,x∉o→vB sc r x:=by
    intro l
    induction l with
    |nil=>intro o _ x hx AB;exact absurd hx AB
    |cons p l ih=>
     intro o hl x hx AB;by_cases h2:x∈lg sc k p.2 o
     ·exact OZ k p.2 o (hl p (by simp)) x h2 AB
     ·exact ih _ (fun q hq=>hl q (by simp [hq])) x hx h2
   by_cases e:x=n
   ·subst e;exact hn
   ·exact key _ _ (fun p hp=>hn.step hp) x hx (by simp [AB,e])
end
def gj (G:Gr) (N r:Nat):List Nat:=lg G.sc (N+1) r []
def iz (G:Gr) (N r:Nat):FSt:=⟨(gj G N r).map fun n=>⟨G.ty n,(G.sc n).map fun p=>⟨p.1,((gj G N r).idxOf p.2:Nat)⟩⟩⟩
section
variable {G:Gr} {N r:Nat}
theorem qT (hB:Bd G.sc N) (hr:r<N):Met N (gj G N r):=vq hB _ _ _ Met.nil hr
theorem TY (hB:Bd G.sc N) (hr:r<N):r∈gj G N r:=(tG hB (N+1) r [] Met.nil hr (by simp)).1
theorem uE (hB:Bd G.sc N) (hr:r<N) {x:Nat} (hx:x∈gj G N r) {p:Int×Nat} (hp:p∈G.sc x):p.2∈gj G N r:=(tG hB (N+1) r [] Met.nil hr (by simp)).2 x hx (by simp) p hp
theorem G6 (hB:Bd G.sc N) (hr:r<N) {x:Nat}:x∈gj G N r↔vB G.sc r x:=
 ⟨fun h=>OZ _ _ _ .root x h (by simp),fun h=>by
  induction h with
  |root=>exact TY hB hr
  |step _ hp ih=>exact uE hB hr ih hp⟩
theorem uD (hB:Bd G.sc N) (hr:r<N):(gj G N r)[0]? =some r:=by
 unfold gj;rw [lg];simp only [List.not_mem_nil,if_false,List.nil_append];obtain ⟨t,ht⟩:=uY (sc:=G.sc) N (G.sc r) [r];show (oz G.sc N (G.sc r) [r])[0]? =some r;rw [←ht];rfl
end
theorem OY {s1 s2:Nat→List (Int×Nat)} {R:Nat→Nat→Prop} (hR:∀{a b a' b'},R a b→R a' b'→(a=a'↔b=b'))
  (hs:∀a b,R a b→jK (fun p q=>p.1=q.1∧R p.2 q.2) (s1 a) (s2 b)):∀(k a b:Nat) (o1 o2:List Nat),R a b→jK R o1 o2→jK R (lg s1 k a o1) (lg s2 k b o2)
 |0,a,b,o1,o2,_,ho=>ho
 |k+1,a,b,o1,o2,hab,ho=>by
  rw [lg,lg];have hm:=jK.mem_iff hR hab ho;by_cases h:a∈o1
  ·rw [if_pos h,if_pos (hm.1 h)];exact ho
  ·rw [if_neg h,if_neg (fun h'=>h (hm.2 h'))]
   have key:∀(l m:List (Int×Nat)) (o1 o2:List Nat),jK (fun p q=>p.1=q.1∧R p.2 q.2) l m→jK R o1 o2→jK R (oz s1 k l o1) (oz s2 k m o2):=by
    intro l
    induction l with
    |nil=>intro m o1 o2 hl ho;cases m with
     |nil=>exact ho
     |cons q m=>exact hl.elim
    |cons p l ih=>intro m o1 o2 hl ho;cases m with
     |nil=>exact hl.elim
     |cons q m=>exact ih m _ _ hl.2 (OY hR hs k p.2 q.2 o1 o2 hl.1.2 ho)
   exact key _ _ _ _ (hs a b hab) (ho.append ⟨hab,trivial⟩)
theorem NQ {G1 G2:Gr} {N1 N2 r1 r2:Nat} (hB1:Bd G1.sc N1) (hB2:Bd G2.sc N2) (h1:r1<N1) (h2:r2<N2) {R:Nat→Nat→Prop} (hR:∀{a b a' b'},R a b→R a' b'→(a=a'↔b=b'))
  (hs:∀a b,R a b→jK (fun p q=>p.1=q.1∧R p.2 q.2) (G1.sc a) (G2.sc b)) (ht:∀a b,R a b→G1.ty a=G2.ty b) (hr:R r1 r2):iz G1 N1 r1=iz G2 N2 r2:=by
 have e1:gj G1 N1 r1=lg G1.sc (N1+N2+1) r1 []:=OX hB1 Met.nil h1 (by simp) (by simp;omega);have e2:gj G2 N2 r2=lg G2.sc (N1+N2+1) r2 []:=OX hB2 Met.nil h2 (by simp) (by simp;omega);have ho:jK R (gj G1 N1 r1) (gj G2 N2 r2):=by
  rw [e1,e2];exact OY hR hs _ _ _ _ _ hr trivial
 unfold iz
 congr 1
 refine jK.map_eq (fun a b hab=> ?_) ho;rw [ht a b hab]
 congr 1
 exact jK.map_eq (fun p q hpq=>by rw [hpq.1,jK.idx hR hpq.2 ho]) (hs a b hab)
end Go.Proofs.YthppjmoncapdfaaGreatDoor.cl.pf
set_option linter.unusedVariables false
set_option linter.unusedSimpArgs false
namespace Go.Proofs.YthppjmoncapdfaaGreatDoor.cl.pf
open Go Go.AM
def Rb (x:Node):List (Int×Nat):=x.cO.map fun a=>(a.aP,a.To.toNat)
def iO (f:FSt) (n:Nat):List (Int×Nat):=match f.aj[n]? with
 |some x=>Rb x
 |none=>[]
def pq (f:FSt) (n:Nat):Int:=match f.aj[n]? with
 |some x=>x.dN
 |none=>0
def kD (f:FSt):Gr:=⟨iO f,pq f⟩
def vc (l:List (Int×Nat)):Prop:=l.Pairwise fun p q=>p.1<q.1
theorem vc.IL {l:List (Int×Nat)} (h:vc l) {f:Int} {a b:Nat} (ha:(f,a)∈l) (hb:(f,b)∈l):a=b:=by
 induction l with
 |nil=>cases ha
 |cons p l ih=>
  have h:=List.pairwise_cons.1 h;rcases List.mem_cons.1 ha with ha|ha<;>rcases List.mem_cons.1 hb with hb|hb
  ·exact (Prod.mk.inj (ha.trans hb.symm)).2
  ·have:=h.1 _ hb;subst ha;simp at this
  ·have:=h.1 _ ha;subst hb;simp at this
  ·exact ih h.2 ha hb
theorem vc.ext:∀{l m:List (Int×Nat)},vc l→vc m→(∀p,p∈l↔p∈m)→l=m
 |[],[],_,_,_=>rfl
 |[],q::m,_,_,h=>absurd ((h q).2 (by simp)) (by simp)
 |p::l,[],_,_,h=>absurd ((h p).1 (by simp)) (by simp)
 |p::l,q::m,hl,hm,h=>by
  have hl':=List.pairwise_cons.1 hl;have hm':=List.pairwise_cons.1 hm;have e:p=q:=by
   rcases List.mem_cons.1 ((h p).1 (by simp)) with e|h1
   ·exact e
   ·rcases List.mem_cons.1 ((h q).2 (by simp)) with e|h2
    ·exact e.symm
    ·have:=hm'.1 _ h1;have:=hl'.1 _ h2;omega
  subst e;rw [vc.ext hl'.2 hm'.2 fun x=> ?_];constructor
  ·intro hx
   rcases List.mem_cons.1 ((h x).1 (by simp [hx])) with e|h1
   ·have:=hl'.1 _ hx;subst e;omega
   ·exact h1
  ·intro hx
   rcases List.mem_cons.1 ((h x).2 (by simp [hx])) with e|h1
   ·have:=hm'.1 _ hx;subst e;omega
   ·exact h1
theorem vc.map {l:List (Int×Nat)} (h:vc l) (g:Nat→Nat):vc (l.map fun p=>(p.1,g p.2)):=by
 unfold vc;rw [List.pairwise_map];exact h
theorem vc.nil:vc []:=List.Pairwise.nil
structure GO (T F:Nat) (G:Gr) (N:Nat):Prop where
 bd:Bd G.sc N
 xG:∀n,n<N→vc (G.sc n)
 ft:∀n,n<N→∀p∈G.sc n,0≤p.1∧p.1<(F:Int)
 tp:∀n,n<N→0≤G.ty n∧G.ty n<(T:Int)
theorem vB.lt {sc:Nat→List (Int×Nat)} {N r i:Nat} (hB:Bd sc N) (hr:r<N) (h:vB sc r i):i<N:=by
 induction h with
 |root=>exact hr
 |step _ hp ih=>exact hB _ ih _ hp
theorem Bz {f:FSt} {n:Nat} (h:f.aj.length≤n):iO f n=[]:=by
 unfold iO;rw [List.getElem?_eq_none h]
theorem zY {f:FSt} {n:Nat} (h:n<f.aj.length):iO f n=Rb f.aj[n]:=by
 unfold iO;rw [List.getElem?_eq_getElem h]
theorem uX {f:FSt} {n:Nat} (h:n<f.aj.length):pq f n=f.aj[n].dN:=by
 unfold pq;rw [List.getElem?_eq_getElem h]
theorem rO:∀{o:List Nat},o.Nodup→∀{i x:Nat},o[i]? =some x→o.idxOf x=i
 |[],_,i,x,h=>by simp at h
 |y::o,hn,0,x,h=>by simp at h;subst h;simp
 |y::o,hn,i+1,x,h=>by
  rw [List.nodup_cons] at hn;rw [List.getElem?_cons_succ] at h;have hm:x∈o:=List.mem_of_getElem? h;have:(y==x)=false:=beq_eq_false_iff_ne.2 fun e=>hn.1 (e▸hm)
  rw [List.idxOf_cons,this,rO hn.2 h];rfl
theorem rJ:∀{o:List Nat} {x:Nat},x∈o→o[o.idxOf x]? =some x
 |y::o,x,h=>by
  rw [List.idxOf_cons];by_cases e:y=x
  ·subst e;simp
  ·rw [beq_eq_false_iff_ne.2 e]
   show (y::o)[o.idxOf x+1]? =some x;rw [List.getElem?_cons_succ];rcases List.mem_cons.1 h with h|h
   ·exact absurd h.symm e
   ·exact rJ h
section
variable {G:Gr} {N r:Nat}
theorem NN {i x:Nat} (h:(gj G N r)[i]? =some x):(iz G N r).aj[i]? =some ⟨G.ty x,(G.sc x).map fun p=>⟨p.1,((gj G N r).idxOf p.2:Nat)⟩⟩:=by
 show (List.map _ _)[i]? =_;rw [List.getElem?_map,h];rfl
theorem wj {i x:Nat} (h:(gj G N r)[i]? =some x):iO (iz G N r) i=(G.sc x).map fun p=>(p.1,(gj G N r).idxOf p.2):=by
 unfold iO;rw [NN h];simp only [Rb,List.map_map];rfl
theorem FW {i x:Nat} (h:(gj G N r)[i]? =some x):pq (iz G N r) i=G.ty x:=by
 unfold pq;rw [NN h]
theorem Cl:(iz G N r).aj.length=(gj G N r).length:=by
 show (List.map _ _).length=_;simp
theorem FV {i:Nat} (h:i<(iz G N r).aj.length):∃x,(gj G N r)[i]? =some x:=by
 rw [Cl] at h;exact ⟨_,List.getElem?_eq_getElem h⟩
theorem YA {o:List Nat} {x:Nat} (h:x∈o):o.idxOf x<o.length:=List.idxOf_lt_length_of_mem h
theorem jK.zi {α β:Type} {R:α→β→Prop} {g:α→β}:∀{l:List α},(∀p∈l,R p (g p))→jK R l (l.map g)
 |[],_=>trivial
 |p::l,h=>⟨h p (by simp),jK.zi fun q hq=>h q (by simp [hq])⟩
variable {T F:Nat} (hG:GO T F G N) (hr:r<N)
include hG hr
theorem Lx:Bd (iO (iz G N r)) ((iz G N r).aj.length):=by
 intro i hi p hp;obtain ⟨x,hx⟩:=FV hi;rw [wj hx] at hp;obtain ⟨q,hq,rfl⟩:=List.mem_map.1 hp;rw [Cl];exact YA (uE hG.bd hr (List.mem_of_getElem? hx) hq)
theorem XA:GO T F (kD (iz G N r)) ((iz G N r).aj.length):=by
 have hlt:∀{i x:Nat},(gj G N r)[i]? =some x→x<N:=fun h=>(qT hG.bd hr).lt _ (List.mem_of_getElem? h)
 refine ⟨Lx hG hr,fun i hi=> ?_,fun i hi p hp=> ?_,fun i hi=> ?_⟩<;>obtain ⟨x,hx⟩:=FV hi
 ·show vc (iO _ i)
  rw [wj hx];exact (hG.xG x (hlt hx)).map fun y=>(gj G N r).idxOf y
 ·have hp:p∈iO (iz G N r) i:=hp
  rw [wj hx] at hp;obtain ⟨q,hq,rfl⟩:=List.mem_map.1 hp;exact hG.ft x (hlt hx) q hq
 ·show 0≤pq _ i∧pq _ i<_
  rw [FW hx];exact hG.tp x (hlt hx)
theorem LA:0<(iz G N r).aj.length:=by
 have:=List.mem_of_getElem? (uD hG.bd hr);rw [Cl];exact List.length_pos_of_mem this
theorem U8:iz (kD (iz G N r)) ((iz G N r).aj.length) 0=iz G N r:=by
 have nd:=(qT hG.bd hr).nd;refine (NQ (R:=fun a b=>(gj G N r)[b]? =some a) hG.bd (Lx hG hr) hr (LA hG hr) (fun {a b a' b'} h h'=> ?_) (fun a b h=> ?_) (fun a b h=> ?_) (uD hG.bd hr)).symm
 ·constructor
  ·intro e;subst e;rw [←rO nd h,←rO nd h']
  ·intro e;subst e;rw [h] at h';exact Option.some.inj h'
 ·show jK _ _ (iO _ b)
  rw [wj h];refine jK.zi fun p hp=>⟨rfl,?_⟩
  exact rJ (uE hG.bd hr (List.mem_of_getElem? h) hp)
 ·exact (FW h).symm
end
structure Can (T F:Nat) (f:FSt):Prop where
 ne:0<f.aj.length
 go:GO T F (kD f) (f.aj.length)
 eq:f=iz (kD f) (f.aj.length) 0
theorem Lz {T F:Nat} {G:Gr} {N r:Nat} (hG:GO T F G N) (hr:r<N):Can T F (iz G N r):=
 ⟨LA hG hr,XA hG hr,(U8 hG hr).symm⟩
theorem YQ {N:Nat} {o:List Nat} (hn:o.Nodup) (hl:∀x∈o,x<N) (hN:N≤o.length) {i:Nat} (hi:i<N):i∈o:=by
 apply Classical.byContradiction;intro h;have h1:(i::o).Nodup:=List.nodup_cons.2 ⟨h,hn⟩;have:=tQ h1 (N:=N) fun x hx=>by
  rcases List.mem_cons.1 hx with rfl|hx
  ·exact hi
  ·exact hl x hx
 simp at this;omega
theorem UO {T F:Nat} {f:FSt} (h:GO T F (kD f) (f.aj.length)) (i:Nat):vc (iO f i):=by
 by_cases hi:i<f.aj.length
 ·exact h.xG i hi
 ·rw [Bz (by omega)];exact vc.nil
namespace Can
variable {T F:Nat} {f:FSt} (h:Can T F f)
include h
theorem bd:Bd (iO f) (f.aj.length):=h.go.bd
theorem xG (i:Nat):vc (iO f i):=UO h.go i
theorem met:Met (f.aj.length) (gj (kD f) (f.aj.length) 0):=qT h.go.bd h.ne
theorem olen:(gj (kD f) (f.aj.length) 0).length=f.aj.length:=by
 have:f.aj.length=(iz (kD f) f.aj.length 0).aj.length:=congrArg (fun g:FSt=>g.aj.length) h.eq;rw [Cl] at this;exact this.symm
theorem omem {i:Nat} (hi:i<f.aj.length):i∈gj (kD f) (f.aj.length) 0:=YQ h.met.nd h.met.lt (by rw [h.olen];exact Nat.le_refl _) hi
theorem Ug {i:Nat} (hi:i<f.aj.length):vB (iO f) 0 i:=(G6 h.go.bd h.ne).1 (h.omem hi)
theorem UB {i:Nat} (hi:vB (iO f) 0 i):i<f.aj.length:=hi.lt h.bd h.ne
theorem oat {i:Nat} (hi:vB (iO f) 0 i):(gj (kD f) (f.aj.length) 0)[i]? =some i:=by
 induction hi with
 |root=>exact uD h.go.bd h.ne
 | @step n p hn hp ih=>
  have hp':=hp;have e:iO f n=iO (iz (kD f) (f.aj.length) 0) n:=congrArg (fun g=>iO g n) h.eq;rw [wj ih] at e;have h2:(p.1,(gj (kD f) (f.aj.length) 0).idxOf p.2)∈iO f n:=by
   rw [e];exact List.mem_map.2 ⟨p,hp,rfl⟩
  have h3:=(h.xG n).IL (a:=p.2) hp' h2;have hm:p.2∈gj (kD f) (f.aj.length) 0:=h.omem (h.bd n (h.UB hn) p hp');have:=rJ hm;rw [←h3] at this;exact this
theorem ord:gj (kD f) (f.aj.length) 0=List.range (f.aj.length):=by
 apply List.ext_getElem?;intro i;by_cases hi:i<f.aj.length
 ·rw [h.oat (h.Ug hi),List.getElem?_range hi]
 ·rw [List.getElem?_eq_none (by rw [h.olen];omega),List.getElem?_eq_none (by simpa using hi)]
theorem nn {x:Node} (hx:x∈f.aj) {a:aF} (ha:a∈x.cO):0≤a.To:=by
 rw [h.eq] at hx;obtain ⟨n,_,rfl⟩:=List.mem_map.1 hx;obtain ⟨p,_,rfl⟩:=List.mem_map.1 ha;exact Int.natCast_nonneg _
end Can
structure TO (T:Nat) (sb:Int→Int→Prop):Prop where
 rl:∀{a b},sb a b→0≤a∧a<(T:Int)
 rr:∀{a b},sb a b→0≤b∧b<(T:Int)
 refl:∀{a},0≤a→a<(T:Int)→sb a a
 trans:∀{a b c},sb a b→sb b c→sb a c
 anti:∀{a b},sb a b→sb b a→a=b
 top:∀{a},0≤a→a<(T:Int)→sb 0 a
def BT (sb:Int→Int→Prop) (G:Gr) (r:Nat) (H:Gr) (s:Nat) (m:Nat→Nat):Prop:=
 m r=s∧∀i,vB G.sc r i→sb (G.ty i) (H.ty (m i))∧∀p∈G.sc i,(p.1,m p.2)∈H.sc (m i)
theorem BT.Ug {sb:Int→Int→Prop} {G H:Gr} {r s:Nat} {m:Nat→Nat} (h:BT sb G r H s m) {i:Nat} (hi:vB G.sc r i):vB H.sc s (m i):=by
 induction hi with
 |root=>rw [h.1];exact .root
 |step hn hp ih=>exact ih.step ((h.2 _ hn).2 _ hp)
theorem BT.comp {s1 s2 s3:Int→Int→Prop} (ht:∀{a b c},s1 a b→s2 b c→s3 a c) {G H K:Gr} {r s t:Nat} {m m':Nat→Nat} (h:BT s1 G r H s m) (h':BT s2 H s K t m'):BT s3 G r K t (fun i=>m' (m i)):=
 ⟨by show m' (m r)=t;rw [h.1,h'.1],fun i hi=>⟨ht (h.2 i hi).1 (h'.2 _ (h.Ug hi)).1,fun p hp=>(h'.2 _ (h.Ug hi)).2 _ ((h.2 i hi).2 p hp)⟩⟩
def Le (sb:Int→Int→Prop) (f g:FSt):Prop:=∃m,BT sb (kD f) 0 (kD g) 0 m
theorem BT.idG {sb:Int→Int→Prop} {G:Gr} {r:Nat} (h:∀i,vB G.sc r i→sb (G.ty i) (G.ty i)):BT sb G r G r id:=⟨rfl,fun i hi=>⟨h i hi,fun p hp=>hp⟩⟩
section
variable {T F:Nat} {sb:Int→Int→Prop} (hT:TO T sb)
include hT
theorem Le.refl {f:FSt} (h:Can T F f):Le sb f f:=⟨id,BT.idG fun i hi=>hT.refl (h.go.tp i (h.UB hi)).1 (h.go.tp i (h.UB hi)).2⟩
theorem Le.trans {f g k:FSt} (h:Le sb f g) (h':Le sb g k):Le sb f k:=by
 obtain ⟨m,h⟩:=h;obtain ⟨m',h'⟩:=h';exact ⟨_,BT.comp (s1:=sb) (s2:=sb) (s3:=sb) (fun h h'=>hT.trans h h') h h'⟩
theorem Le.anti {f g:FSt} (hf:Can T F f) (hg:Can T F g) (h:Le sb f g) (h':Le sb g f):f=g:=by
 obtain ⟨m,h⟩:=h;obtain ⟨m',h'⟩:=h';have e1:∀i,vB (iO f) 0 i→m' (m i)=i:=by
  have hh:=BT.comp (s1:=sb) (s2:=sb) (s3:=sb) (fun h h'=>hT.trans h h') h h';intro i hi
  induction hi with
  |root=>exact hh.1
  | @step n p hn hp ih=>
   have h2:=(hh.2 n hn).2 p hp;simp only [ih] at h2;exact ((hf.xG n).IL (a:=p.2) hp h2).symm
 have e2:∀i,vB (iO g) 0 i→m (m' i)=i:=by
  have hh:=BT.comp (s1:=sb) (s2:=sb) (s3:=sb) (fun h h'=>hT.trans h h') h' h;intro i hi
  induction hi with
  |root=>exact hh.1
  | @step n p hn hp ih=>
   have h2:=(hh.2 n hn).2 p hp;simp only [ih] at h2;exact ((hg.xG n).IL (a:=p.2) hp h2).symm
 rw [hf.eq,hg.eq];refine NQ (R:=fun a b=>vB (iO f) 0 a∧m a=b) hf.bd hg.bd hf.ne hg.ne ?_ ?_ ?_ ⟨.root,h.1⟩
 ·rintro a b a' b' ⟨ha,rfl⟩ ⟨Oa,rfl⟩
  constructor
  ·intro e;rw [e]
  ·intro e;rw [←e1 a ha,←e1 a' Oa,e]
 ·rintro a b ⟨ha,rfl⟩
  have hm:=h.Ug ha;have e:iO g (m a)=(iO f a).map fun p=>(p.1,m p.2):=by
   refine (vc.ext ((hf.xG a).map m) (hg.xG (m a)) fun q=> ?_).symm;constructor
   ·intro hq
    obtain ⟨p,hp,rfl⟩:=List.mem_map.1 hq;exact (h.2 a ha).2 p hp
   ·intro hq
    have h2:=(h'.2 _ hm).2 q hq;rw [e1 a ha] at h2;refine List.mem_map.2 ⟨_,h2,?_⟩;show (q.1,m (m' q.2))=q;rw [e2 q.2 (hm.step hq)]
  show jK _ (iO f a) (iO g (m a));rw [e];exact jK.zi fun p hp=>⟨rfl,ha.step hp,rfl⟩
 ·rintro a b ⟨ha,rfl⟩
  have h2:=(h'.2 _ (h.Ug ha)).1;rw [e1 a ha] at h2;exact hT.anti (h.2 a ha).1 h2
end
section
variable {T F:Nat} {G:Gr} {N r:Nat} (hG:GO T F G N) (hr:r<N)
include hG hr
theorem Oe {sb:Int→Int→Prop} (hs:∀{a},0≤a→a<(T:Int)→sb a a):BT sb G r (kD (iz G N r)) 0 (fun i=>(gj G N r).idxOf i):=by
 refine ⟨rO (qT hG.bd hr).nd (uD hG.bd hr),fun i hi=> ?_⟩;have hm:=(G6 hG.bd hr).2 hi;have:=hG.tp i (hi.lt hG.bd hr);refine ⟨?_,fun p hp=> ?_⟩
 ·show sb _ (pq _ ((gj G N r).idxOf i))
  rw [FW (rJ hm)];exact hs this.1 this.2
 ·show _∈iO _ ((gj G N r).idxOf i)
  rw [wj (rJ hm)];exact List.mem_map.2 ⟨p,hp,rfl⟩
theorem NP {sb:Int→Int→Prop} (hs:∀{a},0≤a→a<(T:Int)→sb a a):BT sb (kD (iz G N r)) 0 G r (fun i=>(gj G N r).getD i r):=by
 have h0:=uD hG.bd hr;refine ⟨by show (gj G N r).getD 0 r=r;rw [List.getD_eq_getElem?_getD,h0];rfl,fun i hi=> ?_⟩;obtain ⟨x,hx⟩:=FV (hi.lt (Lx hG hr) (LA hG hr));have hm:=List.mem_of_getElem? hx;have:=hG.tp x ((qT hG.bd hr).lt x hm);have ex:(gj G N r).getD i r=x:=by rw [List.getD_eq_getElem?_getD,hx];rfl
 refine ⟨?_,fun p hp=> ?_⟩
 ·show sb (pq _ _) (G.ty ((gj G N r).getD i r))
  rw [FW hx,ex];exact hs this.1 this.2
 ·have hp:p∈iO (iz G N r) i:=hp
  rw [wj hx] at hp;obtain ⟨q,hq,rfl⟩:=List.mem_map.1 hp;have h2:=rJ (uE hG.bd hr hm hq);show (q.1,(gj G N r).getD _ r)∈G.sc ((gj G N r).getD i r);rw [ex,List.getD_eq_getElem?_getD,h2];exact hq
end
end Go.Proofs.YthppjmoncapdfaaGreatDoor.cl.pf
