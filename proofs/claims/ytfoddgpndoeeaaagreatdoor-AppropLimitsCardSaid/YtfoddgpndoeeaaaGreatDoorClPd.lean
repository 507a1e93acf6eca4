/- The Closure laws. -/
import Derived.Test.YtfoddgpndoeeaaaGreatDoorClT
set_option linter.unusedVariables false
set_option linter.unusedSimpArgs false
namespace Go.Proofs.YtfoddgpndoeeaaaGreatDoor.cl
open Go Go.AM
namespace pop
def kj:List Nat→Nat
 |[]=>0
 |b::l=>b+256 *kj l
theorem nJ (a b c d:Nat) (hb:b<256) (hd:d<256):(b+256 *a)&&&(d+256 *c)=(b&&&d)+256 *(a&&&c):=by
 have h1:b+256 *a=2^ 8 *a+b:=by omega
 have h2:d+256 *c=2^ 8 *c+d:=by omega
 have h3:(b&&&d)+256 *(a&&&c)=2^ 8 *(a&&&c)+(b&&&d):=by omega
 have hbd:b&&&d<2^ 8:=Nat.lt_of_le_of_lt Nat.and_le_left (by omega);rw [h1,h2,h3];apply Nat.eq_of_testBit_eq;intro j;rw [Nat.testBit_and,Nat.testBit_two_pow_mul_add a (by omega),Nat.testBit_two_pow_mul_add c (by omega),Nat.testBit_two_pow_mul_add (a&&&c) hbd];by_cases h:j<8
 ·simp [h,Nat.testBit_and]
 ·simp [h,Nat.testBit_and]
theorem f1:∀(e:Fin 2) (b:Fin 256),(128 *e.val+b.val / 2)&&&85=(b.val / 2)&&&85:=by decide+kernel
theorem f2:∀(e:Fin 4) (b:Fin 256),(64 *e.val+b.val / 4)&&&51=(b.val / 4)&&&51:=by decide+kernel
theorem f3:∀(e:Fin 5) (b:Fin 256),b.val / 16≤4→b.val % 16≤4→(16 *e.val+b.val / 16+b.val)&&&15=b.val / 16+b.val % 16:=by decide+kernel
def s1 (b:Nat):Nat:=((b / 2)&&&85)+(b&&&85)
def s2 (b:Nat):Nat:=((b / 4)&&&51)+(b&&&51)
theorem xP:∀b:Fin 256,s1 b.val<256:=by decide+kernel
theorem xQ:∀b:Fin 256,s2 (s1 b.val) / 16≤4∧s2 (s1 b.val) % 16≤4∧s2 (s1 b.val) / 16+s2 (s1 b.val) % 16=dm 8 b.val:=by decide+kernel
theorem EZ:∀b:Fin 256,dm 8 b.val≤8:=by decide+kernel
theorem S1:∀(l:List Nat),(∀b∈l,b<256)→((kj l / 2)&&&kj (l.map fun _=>85))+(kj l&&&kj (l.map fun _=>85))=kj (l.map s1):=by
 intro l
 induction l with
 |nil=>intro _;rfl
 |cons b l ih=>
  intro h;have hb:=h b (by simp);have H9:=ih fun x hx=>h x (by simp [hx])
  simp only [List.map_cons,kj];have e:(b+256 *kj l) / 2=(128 *(kj l % 2)+b / 2)+256 *(kj l / 2):=by omega
  rw [e,nJ _ _ _ _ (by omega) (by omega),nJ _ _ _ _ hb (by omega),f1 ⟨kj l % 2,by omega⟩ ⟨b,hb⟩];dsimp only;rw [show s1 b=((b / 2)&&&85)+(b&&&85) from rfl,←H9];omega
theorem S2:∀(l:List Nat),(∀b∈l,b<256)→((kj l / 4)&&&kj (l.map fun _=>51))+(kj l&&&kj (l.map fun _=>51))=kj (l.map s2):=by
 intro l
 induction l with
 |nil=>intro _;rfl
 |cons b l ih=>
  intro h;have hb:=h b (by simp);have H9:=ih fun x hx=>h x (by simp [hx])
  simp only [List.map_cons,kj];have e:(b+256 *kj l) / 4=(64 *(kj l % 4)+b / 4)+256 *(kj l / 4):=by omega
  rw [e,nJ _ _ _ _ (by omega) (by omega),nJ _ _ _ _ hb (by omega),f2 ⟨kj l % 4,by omega⟩ ⟨b,hb⟩];dsimp only;rw [show s2 b=((b / 4)&&&51)+(b&&&51) from rfl,←H9];omega
theorem LH {l:List Nat} (h:∀b∈l,b / 16≤4∧b % 16≤4):kj l % 16≤4:=by
 cases l with
 |nil=>decide
 |cons b l=>have:=(h b (by simp)).2;simp only [kj];omega
theorem S3:∀(l:List Nat),(∀b∈l,b / 16≤4∧b % 16≤4)→(kj l / 16+kj l)&&&kj (l.map fun _=>15)=kj (l.map fun b=>b / 16+b % 16):=by
 intro l
 induction l with
 |nil=>intro _;rfl
 |cons b l ih=>
  intro h;have hb:=h b (by simp);have H9:=ih fun x hx=>h x (by simp [hx])
  have hm:=LH fun x hx=>h x (List.mem_cons_of_mem b hx)
  simp only [List.map_cons,kj];have e:(b+256 *kj l) / 16+(b+256 *kj l)=(16 *(kj l % 16)+b / 16+b)+256 *(kj l / 16+kj l):=by omega
  rw [e,nJ _ _ _ _ (by omega) (by omega),f3 ⟨kj l % 16,by omega⟩ ⟨b,by omega⟩ hb.1 hb.2,H9]
theorem KT:∀(k b m:Nat),b<2^ k→∀n,dm (k+n) (b+2^ k *m)=dm k b+dm n m:=by
 intro k
 induction k with
 |zero=>intro b m hb n;simp at hb;subst hb;simp [dm]
 |succ k ih=>
  intro b m hb n;rw [show k+1+n=(k+n)+1 by omega];simp only [dm];rw [Nat.pow_succ] at hb⊢;have e1:(b+2^ k *2 *m) % 2=b % 2:=by
   rw [show 2^ k *2 *m=2 *(2^ k *m) by rw [Nat.mul_comm (2^ k) 2,Nat.mul_assoc]];omega
  have e2:(b+2^ k *2 *m) / 2=b / 2+2^ k *m:=by
   rw [show 2^ k *2 *m=2 *(2^ k *m) by rw [Nat.mul_comm (2^ k) 2,Nat.mul_assoc]];omega
  rw [e1,e2,ih (b / 2) m (by omega) n];omega
theorem mq (b m n:Nat) (hb:b<256):dm (8+n) (b+256 *m)=dm 8 b+dm n m:=KT 8 b m (by omega) n
def fold (x:Nat):Nat:=
 let a:=x+x / 256
 let b:=a+a / 65536
 b+b / 4294967296
theorem MR {r k y:Nat} (h:r<k):(r+k *y) / k=y:=by
 rw [Nat.add_mul_div_left _ _ (by omega),Nat.div_eq_of_lt h,Nat.zero_add]
theorem Nk {p0 p1 p2 p3 p4 p5 p6 p7:Nat} (h0:p0≤8) (h1:p1≤8) (h2:p2≤8) (h3:p3≤8) (h4:p4≤8) (h5:p5≤8) (h6:p6≤8) (h7:p7≤8):
  fold (kj [p0,p1,p2,p3,p4,p5,p6,p7]) % 128=p0+p1+p2+p3+p4+p5+p6+p7∧fold (kj [p0,p1,p2,p3,p4,p5,p6,p7])<9223372036854775808:=by
 have e0:kj [p0,p1,p2,p3,p4,p5,p6,p7]=p0+256 *(p1+256 *p2+65536 *p3+16777216 *p4+4294967296 *p5+1099511627776 *p6+281474976710656 *p7):=by simp only [kj];omega
 have e1:p0+256 *(p1+256 *p2+65536 *p3+16777216 *p4+4294967296 *p5+1099511627776 *p6+281474976710656 *p7)+(p1+256 *p2+65536 *p3+16777216 *p4+4294967296 *p5+1099511627776 *p6+281474976710656 *p7)
   =((p0+p1)+256 *(p1+p2))+65536 *((p2+p3)+256 *(p3+p4)+65536 *(p4+p5)+16777216 *(p5+p6)+4294967296 *(p6+p7)+1099511627776 *p7):=by omega
 have e2:((p0+p1)+256 *(p1+p2))+65536 *((p2+p3)+256 *(p3+p4)+65536 *(p4+p5)+16777216 *(p5+p6)+4294967296 *(p6+p7)+1099511627776 *p7)+((p2+p3)+256 *(p3+p4)+65536 *(p4+p5)+16777216 *(p5+p6)+4294967296 *(p6+p7)+1099511627776 *p7)
   =((p0+p1+p2+p3)+256 *(p1+p2+p3+p4)+65536 *(p2+p3+p4+p5)+16777216 *(p3+p4+p5+p6))+4294967296 *((p4+p5+p6+p7)+256 *(p5+p6+p7)+65536 *(p6+p7)+16777216 *p7):=by omega
 have e3:((p0+p1+p2+p3)+256 *(p1+p2+p3+p4)+65536 *(p2+p3+p4+p5)+16777216 *(p3+p4+p5+p6))+4294967296 *((p4+p5+p6+p7)+256 *(p5+p6+p7)+65536 *(p6+p7)+16777216 *p7)+((p4+p5+p6+p7)+256 *(p5+p6+p7)+65536 *(p6+p7)+16777216 *p7)
   =(p0+p1+p2+p3+p4+p5+p6+p7)+128 *(2 *(p1+p2+p3+p4)+512 *(p2+p3+p4+p5)+131072 *(p3+p4+p5+p6)+33554432 *((p4+p5+p6+p7)+256 *(p5+p6+p7)+65536 *(p6+p7)+16777216 *p7)+2 *(p5+p6+p7)+512 *(p6+p7)+131072 *p7):=by omega
 simp only [fold];rw [e0,MR (by omega),e1,MR (by omega),e2,MR (by omega),e3,Nat.add_mul_mod_self_left];exact ⟨Nat.mod_eq_of_lt (by omega),by omega⟩
theorem Sm {x:Nat} (hx:x<18446744073709551616):∃l:List Nat,l.length=8∧(∀b∈l,b<256)∧x=kj l:=by
 refine ⟨[x % 256,x / 256 % 256,x / 65536 % 256,x / 16777216 % 256,x / 4294967296 % 256,x / 1099511627776 % 256,x / 281474976710656 % 256,x / 72057594037927936],rfl,?_,?_⟩
 ·intro b hb
  simp only [List.mem_cons,List.not_mem_nil,or_false] at hb;omega
 ·simp only [kj];omega
def x1 (x:Nat):Nat:=((x / 2)&&&6148914691236517205)+(x&&&6148914691236517205)
def x2 (x:Nat):Nat:=((x / 4)&&&3689348814741910323)+(x&&&3689348814741910323)
def x3 (x:Nat):Nat:=(x / 16+x)&&&1085102592571150095
theorem len8 {l:List Nat} (h:l.length=8):∃a b c d e f g i,l=[a,b,c,d,e,f,g,i]:=by
 match l,h with
 |[a,b,c,d,e,f,g,i],_=>exact ⟨a,b,c,d,e,f,g,i,rfl⟩
theorem TG:∀{l:List Nat},(∀b∈l,b<256)→kj l<256^ l.length:=by
 intro l
 induction l with
 |nil=>intro _;decide
 |cons b l ih=>
  intro h;have h1:=h b (by simp);have h2:=ih fun x hx=>h x (by simp [hx])
  simp only [kj,List.length_cons,Nat.pow_succ];omega
theorem QA:∀{l:List Nat},(∀b∈l,b<128)→kj l+kj l<256^ l.length:=by
 intro l
 induction l with
 |nil=>intro _;decide
 |cons b l ih=>
  intro h;have h1:=h b (by simp);have h2:=ih fun x hx=>h x (by simp [hx])
  simp only [kj,List.length_cons,Nat.pow_succ];omega
theorem TJ {x:Nat} (hx:x<18446744073709551616):fold (x3 (x2 (x1 x))) % 128=dm 64 x∧x1 x<18446744073709551616∧x2 (x1 x)<18446744073709551616∧x2 (x1 x) / 16+x2 (x1 x)<18446744073709551616∧fold (x3 (x2 (x1 x)))<9223372036854775808:=by
 obtain ⟨l,hl,hb,rfl⟩:=Sm hx;obtain ⟨a,b,c,d,e,f,g,i,rfl⟩:=len8 hl;simp only [List.mem_cons,List.not_mem_nil,or_false,forall_eq_or_imp,forall_eq] at hb;obtain ⟨ha,hb,hc,hd,he,hf,hg,hi⟩:=hb;have q1:x1 (kj [a,b,c,d,e,f,g,i])=kj [s1 a,s1 b,s1 c,s1 d,s1 e,s1 f,s1 g,s1 i]:=by
  have:=S1 [a,b,c,d,e,f,g,i] (by simp;omega);simp only [List.map_cons,List.map_nil] at this;rw [show kj [85,85,85,85,85,85,85,85]=6148914691236517205 by decide+kernel] at this;exact this
 have A:=xP ⟨a,ha⟩;have B:=xP ⟨b,hb⟩;have C:=xP ⟨c,hc⟩;have D:=xP ⟨d,hd⟩;have E:=xP ⟨e,he⟩;have F:=xP ⟨f,hf⟩;have G:=xP ⟨g,hg⟩;have I:=xP ⟨i,hi⟩;dsimp only at A B C D E F G I;have q2:x2 (kj [s1 a,s1 b,s1 c,s1 d,s1 e,s1 f,s1 g,s1 i])=kj [s2 (s1 a),s2 (s1 b),s2 (s1 c),s2 (s1 d),s2 (s1 e),s2 (s1 f),s2 (s1 g),s2 (s1 i)]:=by
  have:=S2 [s1 a,s1 b,s1 c,s1 d,s1 e,s1 f,s1 g,s1 i] (by simp;omega);simp only [List.map_cons,List.map_nil] at this;rw [show kj [51,51,51,51,51,51,51,51]=3689348814741910323 by decide+kernel] at this;exact this
 have A2:=xQ ⟨a,ha⟩;have B2:=xQ ⟨b,hb⟩;have C2:=xQ ⟨c,hc⟩;have D2:=xQ ⟨d,hd⟩;have E2:=xQ ⟨e,he⟩;have F2:=xQ ⟨f,hf⟩;have G2:=xQ ⟨g,hg⟩;have I2:=xQ ⟨i,hi⟩;dsimp only at A2 B2 C2 D2 E2 F2 G2 I2;have q3:x3 (kj [s2 (s1 a),s2 (s1 b),s2 (s1 c),s2 (s1 d),s2 (s1 e),s2 (s1 f),s2 (s1 g),s2 (s1 i)])=kj [dm 8 a,dm 8 b,dm 8 c,dm 8 d,dm 8 e,dm 8 f,dm 8 g,dm 8 i]:=by
  have:=S3 [s2 (s1 a),s2 (s1 b),s2 (s1 c),s2 (s1 d),s2 (s1 e),s2 (s1 f),s2 (s1 g),s2 (s1 i)] (by simp;omega);simp only [List.map_cons,List.map_nil,A2.2.2,B2.2.2,C2.2.2,D2.2.2,E2.2.2,F2.2.2,G2.2.2,I2.2.2] at this;rw [show kj [15,15,15,15,15,15,15,15]=1085102592571150095 by decide+kernel] at this;exact this
 have A3:=EZ ⟨a,ha⟩;have B3:=EZ ⟨b,hb⟩;have C3:=EZ ⟨c,hc⟩;have D3:=EZ ⟨d,hd⟩;have E3:=EZ ⟨e,he⟩;have F3:=EZ ⟨f,hf⟩;have G3:=EZ ⟨g,hg⟩;have I3:=EZ ⟨i,hi⟩;dsimp only at A3 B3 C3 D3 E3 F3 G3 I3;have hc:dm 64 (kj [a,b,c,d,e,f,g,i])=dm 8 a+dm 8 b+dm 8 c+dm 8 d+dm 8 e+dm 8 f+dm 8 g+dm 8 i:=by
  simp only [kj];rw [mq _ _ 56 ha,mq _ _ 48 hb,mq _ _ 40 (by assumption),mq _ _ 32 hd,mq _ _ 24 he,mq _ _ 16 hf,mq _ _ 8 hg,Nat.mul_zero,Nat.add_zero];omega
 have hfm:=Nk A3 B3 C3 D3 E3 F3 G3 I3;rw [q1,q2,q3,hfm.1,hc];have k1:=TG (l:=[s1 a,s1 b,s1 c,s1 d,s1 e,s1 f,s1 g,s1 i]) (by simp;omega);have k2:=QA (l:=[s2 (s1 a),s2 (s1 b),s2 (s1 c),s2 (s1 d),s2 (s1 e),s2 (s1 f),s2 (s1 g),s2 (s1 i)]) (by simp;omega);have e8:256^ 8=18446744073709551616:=by decide+kernel
 rw [show [s1 a,s1 b,s1 c,s1 d,s1 e,s1 f,s1 g,s1 i].length=8 from rfl,e8] at k1;rw [show [s2 (s1 a),s2 (s1 b),s2 (s1 c),s2 (s1 d),s2 (s1 e),s2 (s1 f),s2 (s1 g),s2 (s1 i)].length=8 from rfl,e8] at k2;generalize kj [s2 (s1 a),s2 (s1 b),s2 (s1 c),s2 (s1 d),s2 (s1 e),s2 (s1 f),s2 (s1 g),s2 (s1 i)]=y at k2;exact ⟨rfl,k1,by omega,by omega,hfm.2⟩
theorem Mo {w v:Nat} (hw:w<18446744073709551616) (hv:v<18446744073709551616):IntKind.wrap .u64 ((BitVec.ofInt (IntKind.bits .u64) (w:Int)&&&BitVec.ofInt (IntKind.bits .u64) (v:Int)).toNat:Int)=((w&&&v:Nat):Int):=by
 have o:∀w:Nat,BitVec.ofInt (IntKind.bits .u64) (w:Int)=BitVec.ofNat 64 w:=fun w=>BitVec.ofInt_natCast 64 w
 rw [o,o];have h:w&&&v≤w:=Nat.and_le_left;have e:(BitVec.ofNat 64 w&&&BitVec.ofNat 64 v).toNat=w&&&v:=by
  rw [BitVec.toNat_and,BitVec.toNat_ofNat,BitVec.toNat_ofNat,Nat.mod_eq_of_lt (by simpa using hw),Nat.mod_eq_of_lt (by simpa using hv)]
 show IntKind.wrap .u64 (((BitVec.ofNat 64 w&&&BitVec.ofNat 64 v).toNat:Nat):Int)=_;rw [e,kM (by omega) (by omega)]
theorem PY (w:Nat) {k:Nat} {j:Int} (hj:Int.toNat j=k) (hk:k≤64):Int.fdiv (w:Int) (2^ min (Int.toNat j) (IntKind.bits .u64))=((w / 2^ k:Nat):Int):=by
 have e:min k (IntKind.bits .u64)=k:=by
  show min k 64=k;omega
 rw [hj,e,show (2^ k:Int)=((2^ k:Nat):Int) by simp,Int.fdiv_eq_ediv_of_nonneg _ (Int.natCast_nonneg _)];simp
theorem PD {w v:Nat} (h:w+v<18446744073709551616):IntKind.wrap .u64 ((w:Int)+(v:Int))=((w+v:Nat):Int):=by
 rw [kM (by omega) (by omega)];omega
theorem t1 {x:Nat} (hx:x<18446744073709551616) (h:x1 x<18446744073709551616):IntKind.wrap .u64 ((IntKind.wrap .u64 ((BitVec.ofInt (IntKind.bits .u64) (Int.fdiv (x:Int) (2^ min (Int.toNat 1) (IntKind.bits .u64)))&&&BitVec.ofInt (IntKind.bits .u64) 6148914691236517205).toNat:Int))+(IntKind.wrap .u64 ((BitVec.ofInt (IntKind.bits .u64) (x:Int)&&&BitVec.ofInt (IntKind.bits .u64) 6148914691236517205).toNat:Int)))=((x1 x:Nat):Int):=by
 have c:(6148914691236517205:Int)=((6148914691236517205:Nat):Int):=rfl;rw [PY x (k:=1) rfl (by omega),c,Mo (by omega) (by omega),Mo hx (by omega),PD h];rfl
theorem t2 {x:Nat} (hx:x<18446744073709551616) (h:x2 x<18446744073709551616):IntKind.wrap .u64 ((IntKind.wrap .u64 ((BitVec.ofInt (IntKind.bits .u64) (Int.fdiv (x:Int) (2^ min (Int.toNat 2) (IntKind.bits .u64)))&&&BitVec.ofInt (IntKind.bits .u64) 3689348814741910323).toNat:Int))+(IntKind.wrap .u64 ((BitVec.ofInt (IntKind.bits .u64) (x:Int)&&&BitVec.ofInt (IntKind.bits .u64) 3689348814741910323).toNat:Int)))=((x2 x:Nat):Int):=by
 have c:(3689348814741910323:Int)=((3689348814741910323:Nat):Int):=rfl;rw [PY x (k:=2) rfl (by omega),c,Mo (by omega) (by omega),Mo hx (by omega),PD h];rfl
theorem t3 {x:Nat} (h:x / 16+x<18446744073709551616):IntKind.wrap .u64 ((BitVec.ofInt (IntKind.bits .u64) (IntKind.wrap .u64 ((Int.fdiv (x:Int) (2^ min (Int.toNat 4) (IntKind.bits .u64)))+(x:Int)))&&&BitVec.ofInt (IntKind.bits .u64) 1085102592571150095).toNat:Int)=((x3 x:Nat):Int):=by
 have c:(1085102592571150095:Int)=((1085102592571150095:Nat):Int):=rfl;rw [PY x (k:=4) rfl (by omega),PD h,c,Mo h (by omega)];rfl
theorem t4 {x k:Nat} {j:Int} (hj:Int.toNat j=k) (hk:k≤64) (h:x+x / 2^ k<18446744073709551616):IntKind.wrap .u64 ((x:Int)+(Int.fdiv (x:Int) (2^ min (Int.toNat j) (IntKind.bits .u64))))=((x+x / 2^ k:Nat):Int):=by
 rw [PY x hj hk,PD h]
theorem t5 {x:Nat} (h:x<9223372036854775808):IntKind.wrap .i64 ((BitVec.ofInt (IntKind.bits .i64) (IntKind.wrap .i64 (x:Int))&&&BitVec.ofInt (IntKind.bits .i64) 127).toNat:Int)=((x % 128:Nat):Int):=by
 have hw:IntKind.wrap .i64 (x:Int)=(x:Int):=fo (by omega) (by omega);rw [hw];have o:BitVec.ofInt (IntKind.bits .i64) (x:Int)=BitVec.ofNat 64 x:=BitVec.ofInt_natCast 64 x;have o':BitVec.ofInt (IntKind.bits .i64) 127=BitVec.ofNat 64 127:=rfl;rw [o,o'];have e:(BitVec.ofNat 64 x&&&BitVec.ofNat 64 127).toNat=x % 128:=by
  rw [BitVec.toNat_and,BitVec.toNat_ofNat,BitVec.toNat_ofNat,Nat.mod_eq_of_lt (show x<2^ 64 by omega)];exact Nat.and_two_pow_sub_one_eq_mod x 7
 show IntKind.wrap .i64 (((BitVec.ofNat 64 x&&&BitVec.ofNat 64 127).toNat:Nat):Int)=_;rw [e,fo (by omega) (by omega)]
end pop
end Go.Proofs.YtfoddgpndoeeaaaGreatDoor.cl
set_option linter.unusedVariables false
set_option linter.unusedSimpArgs false
namespace Go.Proofs.YtfoddgpndoeeaaaGreatDoor.cl
open Go Go.AM
namespace pop
theorem PV:∀(n w:Nat),dm n w≤n:=by
 intro n
 induction n with
 |zero=>intro w;exact Nat.le_refl _
 |succ n ih=>intro w;have:=ih (w / 2);simp only [dm];omega
theorem t48 {x:Nat} (h:x+x / 256<18446744073709551616):IntKind.wrap .u64 ((x:Int)+(Int.fdiv (x:Int) (2^ min (Int.toNat 8) (IntKind.bits .u64))))=((x+x / 256:Nat):Int):=t4 (k:=8) rfl (by omega) h
theorem t416 {x:Nat} (h:x+x / 65536<18446744073709551616):IntKind.wrap .u64 ((x:Int)+(Int.fdiv (x:Int) (2^ min (Int.toNat 16) (IntKind.bits .u64))))=((x+x / 65536:Nat):Int):=t4 (k:=16) rfl (by omega) h
theorem t432 {x:Nat} (h:x+x / 4294967296<18446744073709551616):IntKind.wrap .u64 ((x:Int)+(Int.fdiv (x:Int) (2^ min (Int.toNat 32) (IntKind.bits .u64))))=((x+x / 4294967296:Nat):Int):=t4 (k:=32) rfl (by omega) h
theorem HM {x:Nat} (h:fold x<9223372036854775808):x+x / 256<18446744073709551616∧x+x / 256+(x+x / 256) / 65536<18446744073709551616∧fold x=x+x / 256+(x+x / 256) / 65536+(x+x / 256+(x+x / 256) / 65536) / 4294967296:=by
 have e:fold x=x+x / 256+(x+x / 256) / 65536+(x+x / 256+(x+x / 256) / 65536) / 4294967296:=rfl;rw [e] at h;refine ⟨?_,?_,e⟩
 ·generalize x+x / 256=a at h⊢
  generalize a / 65536=b at h;generalize (a+b) / 4294967296=c at h;omega
 ·generalize x+x / 256+(x+x / 256) / 65536=a at h⊢
  generalize a / 4294967296=c at h;omega
end pop
end Go.Proofs.YtfoddgpndoeeaaaGreatDoor.cl
