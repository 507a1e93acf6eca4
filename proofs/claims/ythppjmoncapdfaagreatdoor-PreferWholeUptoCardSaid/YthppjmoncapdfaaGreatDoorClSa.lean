/- The Closure laws. -/
import Derived.Test.YthppjmoncapdfaaGreatDoorClNd
import Derived.Test.YthppjmoncapdfaaGreatDoorClT
set_option linter.all false
open Go.IntKind (wrap)
open BitVec (ofInt)
open Int (toNat)
namespace Go.Proofs.YthppjmoncapdfaaGreatDoor.cl
open Go Go.AM
noncomputable def bn (d:List aq) (w:Nat):List cG:=(bitsOf w).map fun i=>(iK d).getD i []
noncomputable def nmW (d:List aq) (w:Nat):cG:=BJ d (iK d) (oA d) w
theorem QV {d:List aq} {w:Nat}:∀(ss:List cG) (cs:List Nat) (i:Nat) (acc:List cG) (k:Nat),ss.length=cs.length→gP (fun c=>c==w) cs i=(k:Int)→i≤k∧ss[k-i]? =some (mM d w ss cs i acc):=by
 intro ss
 induction ss with
 |nil=>
  intro cs i acc k hl h;have:cs=[]:=nC.1 hl.symm;subst this;have h':(-1:Int)=(k:Int):=h;omega
 |cons s ss ih=>
  intro cs i acc k hl h;cases cs with
  |nil=>simp at hl
  |cons c cs=>
   rw [gP] at h;simp only [mM];by_cases e:c=w
   ·subst e
    rw [show (c==c)=true by simp,au rfl] at h;obtain rfl:i=k:=by omega
    simp
   ·rw [show (c==w)=false by simpa using e,ak (by simp)] at h
    rw [ak e];obtain ⟨h1,h2⟩:=ih cs (i+1) (if w.testBit i=true then acc++[s] else acc) k (by simpa using hl) h;refine ⟨by omega,?_⟩;rw [show k-i=(k-(i+1))+1 by omega,oT];exact h2
theorem Nk {d:List aq} {w:Nat}:∀(ss:List cG) (cs:List Nat) (i:Nat) (acc:List cG),ss.length=cs.length→(∀c∈cs,c≠w)→mM d w ss cs i acc=sd [38] (vh d (acc++((List.range ss.length).filter fun j=>w.testBit (i+j)).map fun j=>ss.getD j [])):=by
 intro ss
 induction ss with
 |nil=>
  intro cs i acc hl h;cases cs<;>simp [mM]
 |cons s ss ih=>
  intro cs i acc hl h;cases cs with
  |nil=>simp at hl
  |cons c cs=>
   simp only [mM];rw [ak (h c (by simp)),ih cs (i+1) _ (by simpa using hl) fun c hc=>h c (by simp [hc])]
   congr 2
   rw [bg,List.range_succ_eq_map,fH,List.filter_map,oC];have e:((List.range ss.length).filter ((fun j=>w.testBit (i+j))∘Nat.succ)).map ((fun j=>(s::ss).getD j [])∘Nat.succ)=((List.range ss.length).filter fun j=>w.testBit (i+1+j)).map fun j=>ss.getD j []:=by
    have e1:((fun j=>w.testBit (i+j))∘Nat.succ)=fun j=>w.testBit (i+1+j):=by
     funext j;simp only [Function.comp];congr 1;omega
    have e2:((fun j=>(s::ss).getD j [])∘Nat.succ)=fun j=>ss.getD j []:=by
     funext j;simp
    rw [e1,e2]
   cases hb:w.testBit i with
   |true=>simp only [fN,aP,eO,e];simp
   |false=>simp only [cW,ez,eO,e]
theorem Mh {w n:Nat} (hn:n≤64) (h:∀i,w.testBit i=true→i<n):bitsOf w=(List.range n).filter w.testBit:=by
 unfold bitsOf;have h3:=List.range_add (n:=n) (m:=64-n);rw [show n+(64-n)=64 by omega] at h3;rw [h3,x8];have:List.filter w.testBit (List.map (n+ ·) (List.range (64-n)))=[]:=by
  rw [xH];intro j hj hc;obtain ⟨i,_,rfl⟩:=aB.1 hj;have:=h _ hc;omega
 rw [this,eU]
structure Dn (d:List aq) (w:Nat):Prop where
 lt:∀i,w.testBit i=true→i<(iK d).length
 dn:∀i j,i<(iK d).length→j<(iK d).length→w.testBit i=true→Le d ((iK d).getD i []) ((iK d).getD j [])→w.testBit j=true
theorem ZH {d:List aq} (x:cG):Dn d (cw d (iK d) x):=
 ⟨fun i h=>(yA.1 h).1,fun i j hi hj h hl=>yA.2 ⟨hj,sN.trans (yA.1 h).2 hl⟩⟩
theorem dn_and {d:List aq} {a b:Nat} (ha:Dn d a) (hb:Dn d b):Dn d (a&&&b):=by
 refine ⟨fun i h=> ?_,fun i j hi hj h hl=> ?_⟩
 ·rw [ja,aF] at h;exact ha.lt i h.1
 ·rw [ja,aF] at h⊢
  exact ⟨ha.dn i j hi hj h.1 hl,hb.dn i j hi hj h.2 hl⟩
theorem yK {w i:Nat} (hw:w<18446744073709551616):i∈bitsOf w↔w.testBit i=true:=by
 unfold bitsOf;rw [cL,eT];refine ⟨fun h=>h.2,fun h=>⟨?_,h⟩⟩;apply dA;intro hc;rw [xW (eX hw (xX (n:=2) (i:=64) (j:=i) (by omega) (by omega)))] at h;cases h
theorem bn_SS {d:List aq} {w:Nat} (h:∀i,w.testBit i=true→i<(iK d).length):SS (bn d w):=by
 have hs:=lK.1 (lZ (jQ d));unfold bn SS;rw [iJ];have hr:(bitsOf w).Pairwise (· < ·):=(Db (n:=64)).sublist Dc;refine hr.imp_of_mem ?_;intro a b ha hb hab;have KI:=h a (cL.1 ha).2;have hb':=h b (cL.1 hb).2;have:=hs a b KI hb' hab;rw [aQ,aQ,aH KI,aH hb'];exact this
theorem Zn {d:List aq} {w:Nat} (h:∀i,w.testBit i=true→i<(iK d).length):∀x∈bn d w,x∈jQ d:=by
 intro x hx;obtain ⟨i,hi,rfl⟩:=aB.1 hx;exact Qg (h i (cL.1 hi).2)
theorem Hs {d:List aq} {w:Nat} (h:∀i,w.testBit i=true→i<(iK d).length):vh d (bn d w)=(bn d w).filter (rI d (bn d w)):=by
 have hf:(bn d w).filter (fun s=>decide (s∈jQ d))=bn d w:=CV.2 fun x hx=>by simpa using Zn h x hx
 have hs:mD (bn d w)=bn d w:=SS.ext (lZ _) (bn_SS h) fun y=>gB
 simp only [vh,hf,hs]
theorem A7 {d:List aq} {l:List cG} {x:cG}:rI d l x=true↔∀y∈l,Le d y x→y=x:=by
 unfold rI;rw [cg];constructor
 ·intro h y hy hl
  have:=h y hy;simp only [eY,iZ,gV,bA] at this;rcases this with h|h
  ·exact h
  ·exact absurd hl h
 ·intro h y hy
  simp only [eY,iZ,gV,bA];by_cases hl:Le d y x
  ·exact .inl (h y hy hl)
  ·exact .inr hl
theorem Fa {d:List aq} (A:Acc d) {l:List cG}:∀x∈l,∃m∈l.filter (rI d l),Le d m x:=by
 obtain ⟨r,hr⟩:=A.rk;have key:∀(n:Nat) (x:cG),r x=n→x∈l→∃m∈l.filter (rI d l),Le d m x:=by
  intro n
  induction n using Nat.strongRecOn with
  |_ n ih=>
   intro x e hx;by_cases hf:rI d l x=true
   ·exact ⟨x,cL.2 ⟨hx,hf⟩, .refl⟩
   ·rw [A7] at hf
    obtain ⟨y,hy⟩:=Classical.not_forall.1 hf;obtain ⟨hy1,hy2⟩:=Classical.not_imp.1 hy;obtain ⟨hy3,hy4⟩:=Classical.not_imp.1 hy2;have:r y<r x:=by
     rcases Na hr hy3 with h|h
     ·exact absurd h hy4
     ·exact h
    obtain ⟨m,hm,hl⟩:=ih (r y) (by omega) y rfl hy1;exact ⟨m,hm,sN.trans hl hy3⟩
 exact fun x hx=>key _ x rfl hx
theorem SB {d:List aq} {w:Nat} (hw:w<18446744073709551616) (D:Dn d w) {i:Nat} (hi:i<(iK d).length):w.testBit i=true↔(iK d).getD i []∈bn d w:=by
 unfold bn;rw [aB];constructor
 ·intro h;exact ⟨i,(yK hw).2 h,rfl⟩
 ·rintro ⟨j,hj,e⟩
  have hj':=(yK hw).1 hj;have hjl:=D.lt j hj';rw [aQ,aQ,aH hi,aH hjl] at e;have:=(rB (lZ (jQ d)).nodup).1 e;rw [←this];exact hj'
theorem abQ {d:List aq} (A:Acc d) {w v:Nat} (hw:w<18446744073709551616) (hv:v<18446744073709551616) (Dw:Dn d w) (Dv:Dn d v) (h:vh d (bn d w)=vh d (bn d v)):w=v:=by
 have key:∀{w v:Nat},w<18446744073709551616→v<18446744073709551616→Dn d w→Dn d v→vh d (bn d w)=vh d (bn d v)→∀i,w.testBit i=true→v.testBit i=true:=by
  intro w v hw hv Dw Dv h i hi;have hil:=Dw.lt i hi;obtain ⟨m,hm,hl⟩:=Fa A _ ((SB hw Dw hil).1 hi);rw [←Hs Dw.lt,h,Hs Dv.lt] at hm;have vB:=(cL.1 hm).1;obtain ⟨j,hj,rfl⟩:=aB.1 vB;have hj':=(yK hv).1 hj;exact Dv.dn j i (Dv.lt j hj') hil hj' hl
 apply rA;intro i;rw [iH];exact ⟨key hw hv Dw Dv h i,key hv hw Dv Dw h.symm i⟩
theorem V0 {d:List aq} (A:Acc d) (h64:d.length≤64) {x:cG} (hx:x∈jQ d):vh d (bn d (cw d (iK d) x))=[x]:=by
 have hal:=oE (d:=d);have hw:cw d (iK d) x<18446744073709551616:=ZF (by omega);have D:=ZH (d:=d) x;rw [Hs D.lt];have hmem:∀y,y∈(bn d (cw d (iK d) x)).filter (rI d (bn d (cw d (iK d) x)))↔y∈[x]:=by
  intro y;have hx':x∈bn d (cw d (iK d) x):=by
   obtain ⟨i,hi,e⟩:=MZ hx;have h:=(SB hw D hi).1 (yA.2 ⟨hi,by rw [e];exact .refl⟩);rw [e] at h;exact h
  have hle:∀z∈bn d (cw d (iK d) x),Le d x z:=by
   intro z hz;obtain ⟨j,hj,rfl⟩:=aB.1 hz;exact (yA.1 ((yK hw).1 hj)).2
  rw [cL,A7,bP];constructor
  ·rintro ⟨h1,h2⟩
   exact (h2 x hx' (hle y h1)).symm
  ·rintro rfl
   exact ⟨hx',fun z hz hl=>le_antisymm A hl (hle z hz)⟩
 refine SS.ext ?_ (by simp [SS]) hmem;exact (bn_SS D.lt).sublist Dc
theorem Qz {s:cG} (h:isName s=true):(38:UInt8)∉s:=by
 unfold isName at h;simp only [aF] at h;intro hm;have:=cg.1 h.2 _ hm;revert this;simp [oc,lowerB]
theorem cut38:∀{x x' t t':cG},(38:UInt8)∉x→(38:UInt8)∉x'→(t=[]∨∃u,t=38::u)→(t'=[]∨∃u,t'=38::u)→x++t=x'++t'→x=x'∧t=t':=by
 intro x
 induction x with
 |nil=>
  intro x' t t' h1 h2 h3 h4 h;cases x' with
  |nil=>exact ⟨rfl,by simpa using h⟩
  |cons c x'=>
   rcases h3 with rfl|⟨u,rfl⟩
   ·simp at h
   ·simp only [dU,ff,dz] at h
    exact absurd (h.1▸nv) h2
 |cons c x ih=>
  intro x' t t' h1 h2 h3 h4 h;cases x' with
  |nil=>
   rcases h4 with rfl|⟨u,rfl⟩
   ·simp at h
   ·simp only [dU,ff,dz] at h
    exact absurd (h.1▸nv) h1
  |cons c' x'=>
   simp only [ff,dz] at h;simp only [aD,jx] at h1 h2;obtain ⟨a,b⟩:=ih h1.2 h2.2 h3 h4 h.2;exact ⟨by rw [h.1,a],b⟩
theorem Ey (l:List cG):tH l=[]∨∃u,tH l=38::u:=by
 cases l with
 |nil=>exact .inl rfl
 |cons x l=>exact .inr ⟨x++tH l,by simp [tH]⟩
theorem YA:∀{l l':List cG},(∀x∈l,(38:UInt8)∉x)→(∀x∈l',(38:UInt8)∉x)→tH l=tH l'→l=l':=by
 intro l
 induction l with
 |nil=>
  intro l' _ _ h;cases l' with
  |nil=>rfl
  |cons x l'=>simp [tH] at h
 |cons x l ih=>
  intro l' h1 h2 h;cases l' with
  |nil=>simp [tH] at h
  |cons x' l'=>
   have e:∀(y:cG) (m:List cG),tH (y::m)=38::(y++tH m):=fun y m=>by simp [tH]
   rw [e,e,dz] at h;obtain ⟨a,b⟩:=cut38 (h1 x (by simp)) (h2 x' (by simp)) (Ey l) (Ey l') h.2;rw [a,ih (fun y hy=>h1 y (by simp [hy])) (fun y hy=>h2 y (by simp [hy])) b]
theorem XZ {l l':List cG} (hl:l≠[]) (hl':l'≠[]) (h1:∀x∈l,(38:UInt8)∉x) (h2:∀x∈l',(38:UInt8)∉x) (h:sd [38] l=sd [38] l'):l=l':=by
 cases l with
 |nil=>exact absurd rfl hl
 |cons x l=>
  cases l' with
  |nil=>exact absurd rfl hl'
  |cons x' l'=>
   rw [Cn,Cn] at h;obtain ⟨a,b⟩:=cut38 (h1 x (by simp)) (h2 x' (by simp)) (Ey l) (Ey l') h;rw [a,YA (fun y hy=>h1 y (by simp [hy])) (fun y hy=>h2 y (by simp [hy])) b]
theorem aaa {d:List aq} {i:Nat} (hi:i<(iK d).length):(oA d)[i]? =some (cw d (iK d) ((iK d).getD i [])):=by
 unfold oA;rw [cZ,aQ,aH hi];rfl
theorem aaB {α:Type} (p:α→Bool):∀(xs:List α) (i k:Nat),gP p xs i=(k:Int)→i≤k∧∃x,xs[k-i]? =some x∧p x=true:=by
 intro xs
 induction xs with
 |nil=>intro i k h;have h':(-1:Int)=(k:Int):=h;omega
 |cons x xs ih=>
  intro i k h;rw [gP] at h;cases hp:p x with
  |true=>
   rw [hp,au rfl] at h;obtain rfl:i=k:=by omega
   exact ⟨aS _,x,by simp,hp⟩
  |false=>
   rw [hp,ak (by simp)] at h;obtain ⟨h1,y,h2,h3⟩:=ih (i+1) k h;refine ⟨by omega,y,?_,h3⟩;rw [show k-i=(k-(i+1))+1 by omega,oT];exact h2
theorem nmW_out {d:List aq} (h64:d.length≤64) {w:Nat} (D:Dn d w) (h:∀c∈oA d,c≠w):nmW d w=sd [38] (vh d (bn d w)):=by
 have hal:=oE (d:=d);unfold nmW BJ;rw [Nk _ _ _ _ (by simp [oA]) h,dU,bn,Mh (n:=(iK d).length) (by omega) D.lt]
 congr 4
 funext j
 rw [gE]
theorem Ug {d:List aq} (A:Acc d) (h64:d.length≤64) {w:Nat} (D:Dn d w):nmW d w=sd [38] (vh d (bn d w)):=by
 by_cases h:∀c∈oA d,c≠w
 ·exact nmW_out h64 D h
 ·have hnn:¬gP (fun c=>c==w) (oA d) 0<0:=by
   rw [aaC];intro hc;exact h fun c hcm=>by simpa using hc c hcm
  obtain ⟨k,hk⟩:∃k:Nat,gP (fun c=>c==w) (oA d) 0=(k:Int):=⟨(gP (fun c=>c==w) (oA d) 0).toNat,by omega⟩
  obtain ⟨_,e⟩:=QV (d:=d) (iK d) (oA d) 0 [] k (by simp [oA]) hk;obtain ⟨_,c,e2,e3⟩:=aaB _ _ _ _ hk;rw [uq] at e e2;have hkl:=(bD.1 e).1;rw [aaa hkl] at e2;have e4:cw d (iK d) ((iK d).getD k [])=w:=by
   rw [←(fu.1 e3)];exact eS e2
  have e5:(iK d).getD k []=nmW d w:=by
   rw [aQ,e];rfl
  rw [e5] at e4;have hx:nmW d w∈jQ d:=by rw [←e5];exact Qg hkl
  have:=V0 A h64 hx;rw [e4] at this;rw [this];rfl
theorem nmW_inj {d:List aq} (A:Acc d) (h64:d.length≤64) {w v:Nat} (hw:w<18446744073709551616) (hv:v<18446744073709551616) (hw0:w≠0) (hv0:v≠0) (Dw:Dn d w) (Dv:Dn d v) (h:nmW d w=nmW d v):w=v:=by
 rw [Ug A h64 Dw,Ug A h64 Dv] at h;have ne:∀{w:Nat},w<18446744073709551616→w≠0→Dn d w→vh d (bn d w)≠[]:=by
  intro w hw h0 D hc;obtain ⟨i,hi⟩:=Nat.exists_testBit_of_ne_zero h0;obtain ⟨m,hm,_⟩:=Fa A _ ((SB hw D (D.lt i hi)).1 hi);rw [←Hs D.lt,hc] at hm;cases hm
 have fr:∀{w:Nat},Dn d w→∀x∈vh d (bn d w),(38:UInt8)∉x:=by
  intro w D x hx;obtain ⟨t,ht,rfl⟩:=aB.1 (Zn D.lt x (QO hx));exact Qz (A.name t ht)
 exact abQ A hw hv Dw Dv (XZ (ne hw hw0 Dw) (ne hv hv0 Dv) (fr Dw) (fr Dv) h)
end Go.Proofs.YthppjmoncapdfaaGreatDoor.cl
namespace Go.Proofs.YthppjmoncapdfaaGreatDoor.cl
open Go Go.AM
namespace pop
def r9:List Nat→Nat
 |[]=>0
 |b::l=>b+256 *r9 l
theorem wO (a b c d:Nat) (hb:b<256) (hd:d<256):(b+256 *a)&&&(d+256 *c)=(b&&&d)+256 *(a&&&c):=by
 have h1:b+256 *a=2^ 8 *a+b:=by omega
 have h2:d+256 *c=2^ 8 *c+d:=by omega
 have h3:(b&&&d)+256 *(a&&&c)=2^ 8 *(a&&&c)+(b&&&d):=by omega
 have hbd:b&&&d<2^ 8:=jw ki (by omega);rw [h1,h2,h3];apply rA;intro j;rw [ja,yb a (by omega),yb c (by omega),yb (a&&&c) hbd];by_cases h:j<8
 ·simp [h,ja]
 ·simp [h,ja]
theorem f1:∀(e:Fin 2) (b:Fin 256),(128 *e.val+b.val / 2)&&&85=(b.val / 2)&&&85:=by decide+kernel
theorem f2:∀(e:Fin 4) (b:Fin 256),(64 *e.val+b.val / 4)&&&51=(b.val / 4)&&&51:=by decide+kernel
theorem f3:∀(e:Fin 5) (b:Fin 256),b.val / 16≤4→b.val % 16≤4→(16 *e.val+b.val / 16+b.val)&&&15=b.val / 16+b.val % 16:=by decide+kernel
def s1 (b:Nat):Nat:=((b / 2)&&&85)+(b&&&85)
def s2 (b:Nat):Nat:=((b / 4)&&&51)+(b&&&51)
theorem Gv:∀b:Fin 256,s1 b.val<256:=by decide+kernel
theorem Gw:∀b:Fin 256,s2 (s1 b.val) / 16≤4∧s2 (s1 b.val) % 16≤4∧s2 (s1 b.val) / 16+s2 (s1 b.val) % 16=gQ 8 b.val:=by decide+kernel
theorem PJ:∀b:Fin 256,gQ 8 b.val≤8:=by decide+kernel
theorem S1:∀(l:List Nat),(∀b∈l,b<256)→((r9 l / 2)&&&r9 (l.map fun _=>85))+(r9 l&&&r9 (l.map fun _=>85))=r9 (l.map s1):=by
 intro l
 induction l with
 |nil=>intro _;rfl
 |cons b l ih=>
  intro h;have hb:=h b (by simp);have ih':=ih fun x hx=>h x (by simp [hx])
  simp only [aP,r9];have e:(b+256 *r9 l) / 2=(128 *(r9 l % 2)+b / 2)+256 *(r9 l / 2):=by omega
  rw [e,wO _ _ _ _ (by omega) (by omega),wO _ _ _ _ hb (by omega),f1 ⟨r9 l % 2,by omega⟩ ⟨b,hb⟩];dsimp only;rw [show s1 b=((b / 2)&&&85)+(b&&&85) from rfl,←ih'];omega
theorem S2:∀(l:List Nat),(∀b∈l,b<256)→((r9 l / 4)&&&r9 (l.map fun _=>51))+(r9 l&&&r9 (l.map fun _=>51))=r9 (l.map s2):=by
 intro l
 induction l with
 |nil=>intro _;rfl
 |cons b l ih=>
  intro h;have hb:=h b (by simp);have ih':=ih fun x hx=>h x (by simp [hx])
  simp only [aP,r9];have e:(b+256 *r9 l) / 4=(64 *(r9 l % 4)+b / 4)+256 *(r9 l / 4):=by omega
  rw [e,wO _ _ _ _ (by omega) (by omega),wO _ _ _ _ hb (by omega),f2 ⟨r9 l % 4,by omega⟩ ⟨b,hb⟩];dsimp only;rw [show s2 b=((b / 4)&&&51)+(b&&&51) from rfl,←ih'];omega
theorem Yf {l:List Nat} (h:∀b∈l,b / 16≤4∧b % 16≤4):r9 l % 16≤4:=by
 cases l with
 |nil=>decide
 |cons b l=>have:=(h b (by simp)).2;simp only [r9];omega
theorem S3:∀(l:List Nat),(∀b∈l,b / 16≤4∧b % 16≤4)→(r9 l / 16+r9 l)&&&r9 (l.map fun _=>15)=r9 (l.map fun b=>b / 16+b % 16):=by
 intro l
 induction l with
 |nil=>intro _;rfl
 |cons b l ih=>
  intro h;have hb:=h b (by simp);have ih':=ih fun x hx=>h x (by simp [hx])
  have hm:=Yf fun x hx=>h x (dW b hx)
  simp only [aP,r9];have e:(b+256 *r9 l) / 16+(b+256 *r9 l)=(16 *(r9 l % 16)+b / 16+b)+256 *(r9 l / 16+r9 l):=by omega
  rw [e,wO _ _ _ _ (by omega) (by omega),f3 ⟨r9 l % 16,by omega⟩ ⟨b,by omega⟩ hb.1 hb.2,ih']
theorem Xm:∀(k b m:Nat),b<2^ k→∀n,gQ (k+n) (b+2^ k *m)=gQ k b+gQ n m:=by
 intro k
 induction k with
 |zero=>intro b m hb n;simp at hb;subst hb;simp [gQ]
 |succ k ih=>
  intro b m hb n;rw [show k+1+n=(k+n)+1 by omega];simp only [gQ];rw [yc] at hb⊢;have e1:(b+2^ k *2 *m) % 2=b % 2:=by
   rw [show 2^ k *2 *m=2 *(2^ k *m) by rw [Nat.mul_comm (2^ k) 2,Nat.mul_assoc]];omega
  have e2:(b+2^ k *2 *m) / 2=b / 2+2^ k *m:=by
   rw [show 2^ k *2 *m=2 *(2^ k *m) by rw [Nat.mul_comm (2^ k) 2,Nat.mul_assoc]];omega
  rw [e1,e2,ih (b / 2) m (by omega) n];omega
theorem uY (b m n:Nat) (hb:b<256):gQ (8+n) (b+256 *m)=gQ 8 b+gQ n m:=Xm 8 b m (by omega) n
def fold (x:Nat):Nat:=
 let a:=x+x / 256
 let b:=a+a / 65536
 b+b / 4294967296
theorem ZG {r k y:Nat} (h:r<k):(r+k *y) / k=y:=by
 rw [Nat.add_mul_div_left _ _ (by omega),Nat.div_eq_of_lt h,gE]
theorem Z7 {p0 p1 p2 p3 p4 p5 p6 p7:Nat} (h0:p0≤8) (h1:p1≤8) (h2:p2≤8) (h3:p3≤8) (h4:p4≤8) (h5:p5≤8) (h6:p6≤8) (h7:p7≤8):
  fold (r9 [p0,p1,p2,p3,p4,p5,p6,p7]) % 128=p0+p1+p2+p3+p4+p5+p6+p7∧fold (r9 [p0,p1,p2,p3,p4,p5,p6,p7])<9223372036854775808:=by
 have e0:r9 [p0,p1,p2,p3,p4,p5,p6,p7]=p0+256 *(p1+256 *p2+65536 *p3+16777216 *p4+4294967296 *p5+1099511627776 *p6+281474976710656 *p7):=by simp only [r9];omega
 have e1:p0+256 *(p1+256 *p2+65536 *p3+16777216 *p4+4294967296 *p5+1099511627776 *p6+281474976710656 *p7)+(p1+256 *p2+65536 *p3+16777216 *p4+4294967296 *p5+1099511627776 *p6+281474976710656 *p7)
   =((p0+p1)+256 *(p1+p2))+65536 *((p2+p3)+256 *(p3+p4)+65536 *(p4+p5)+16777216 *(p5+p6)+4294967296 *(p6+p7)+1099511627776 *p7):=by omega
 have e2:((p0+p1)+256 *(p1+p2))+65536 *((p2+p3)+256 *(p3+p4)+65536 *(p4+p5)+16777216 *(p5+p6)+4294967296 *(p6+p7)+1099511627776 *p7)+((p2+p3)+256 *(p3+p4)+65536 *(p4+p5)+16777216 *(p5+p6)+4294967296 *(p6+p7)+1099511627776 *p7)
   =((p0+p1+p2+p3)+256 *(p1+p2+p3+p4)+65536 *(p2+p3+p4+p5)+16777216 *(p3+p4+p5+p6))+4294967296 *((p4+p5+p6+p7)+256 *(p5+p6+p7)+65536 *(p6+p7)+16777216 *p7):=by omega
 have e3:((p0+p1+p2+p3)+256 *(p1+p2+p3+p4)+65536 *(p2+p3+p4+p5)+16777216 *(p3+p4+p5+p6))+4294967296 *((p4+p5+p6+p7)+256 *(p5+p6+p7)+65536 *(p6+p7)+16777216 *p7)+((p4+p5+p6+p7)+256 *(p5+p6+p7)+65536 *(p6+p7)+16777216 *p7)
   =(p0+p1+p2+p3+p4+p5+p6+p7)+128 *(2 *(p1+p2+p3+p4)+512 *(p2+p3+p4+p5)+131072 *(p3+p4+p5+p6)+33554432 *((p4+p5+p6+p7)+256 *(p5+p6+p7)+65536 *(p6+p7)+16777216 *p7)+2 *(p5+p6+p7)+512 *(p6+p7)+131072 *p7):=by omega
 simp only [fold];rw [e0,ZG (by omega),e1,ZG (by omega),e2,ZG (by omega),e3,Nat.add_mul_mod_self_left];exact ⟨lP (by omega),by omega⟩
theorem bytes8 {x:Nat} (hx:x<18446744073709551616):∃l:List Nat,l.length=8∧(∀b∈l,b<256)∧x=r9 l:=by
 refine ⟨[x % 256,x / 256 % 256,x / 65536 % 256,x / 16777216 % 256,x / 4294967296 % 256,x / 1099511627776 % 256,x / 281474976710656 % 256,x / 72057594037927936],rfl,?_,?_⟩
 ·intro b hb
  simp only [aD,fF,fW] at hb;omega
 ·simp only [r9];omega
def x1 (x:Nat):Nat:=((x / 2)&&&6148914691236517205)+(x&&&6148914691236517205)
def x2 (x:Nat):Nat:=((x / 4)&&&3689348814741910323)+(x&&&3689348814741910323)
def x3 (x:Nat):Nat:=(x / 16+x)&&&1085102592571150095
theorem len8 {l:List Nat} (h:l.length=8):∃a b c d e f g i,l=[a,b,c,d,e,f,g,i]:=by
 match l,h with
 |[a,b,c,d,e,f,g,i],_=>exact ⟨a,b,c,d,e,f,g,i,rfl⟩
theorem ofB_lt:∀{l:List Nat},(∀b∈l,b<256)→r9 l<256^ l.length:=by
 intro l
 induction l with
 |nil=>intro _;decide
 |cons b l ih=>
  intro h;have h1:=h b (by simp);have h2:=ih fun x hx=>h x (by simp [hx])
  simp only [r9,bg,yc];omega
theorem ofB_lt2:∀{l:List Nat},(∀b∈l,b<128)→r9 l+r9 l<256^ l.length:=by
 intro l
 induction l with
 |nil=>intro _;decide
 |cons b l ih=>
  intro h;have h1:=h b (by simp);have h2:=ih fun x hx=>h x (by simp [hx])
  simp only [r9,bg,yc];omega
theorem pop_eq {x:Nat} (hx:x<18446744073709551616):fold (x3 (x2 (x1 x))) % 128=gQ 64 x∧x1 x<18446744073709551616∧x2 (x1 x)<18446744073709551616∧x2 (x1 x) / 16+x2 (x1 x)<18446744073709551616∧fold (x3 (x2 (x1 x)))<9223372036854775808:=by
 obtain ⟨l,hl,hb,rfl⟩:=bytes8 hx;obtain ⟨a,b,c,d,e,f,g,i,rfl⟩:=len8 hl;simp only [aD,fF,fW,forall_eq_or_imp,forall_eq] at hb;obtain ⟨ha,hb,hc,hd,he,hf,hg,hi⟩:=hb;have q1:x1 (r9 [a,b,c,d,e,f,g,i])=r9 [s1 a,s1 b,s1 c,s1 d,s1 e,s1 f,s1 g,s1 i]:=by
  have:=S1 [a,b,c,d,e,f,g,i] (by simp;omega);simp only [aP,dV] at this;rw [show r9 [85,85,85,85,85,85,85,85]=6148914691236517205 by decide+kernel] at this;exact this
 have A:=Gv ⟨a,ha⟩;have B:=Gv ⟨b,hb⟩;have C:=Gv ⟨c,hc⟩;have D:=Gv ⟨d,hd⟩;have E:=Gv ⟨e,he⟩;have F:=Gv ⟨f,hf⟩;have G:=Gv ⟨g,hg⟩;have I:=Gv ⟨i,hi⟩;dsimp only at A B C D E F G I;have q2:x2 (r9 [s1 a,s1 b,s1 c,s1 d,s1 e,s1 f,s1 g,s1 i])=r9 [s2 (s1 a),s2 (s1 b),s2 (s1 c),s2 (s1 d),s2 (s1 e),s2 (s1 f),s2 (s1 g),s2 (s1 i)]:=by
  have:=S2 [s1 a,s1 b,s1 c,s1 d,s1 e,s1 f,s1 g,s1 i] (by simp;omega);simp only [aP,dV] at this;rw [show r9 [51,51,51,51,51,51,51,51]=3689348814741910323 by decide+kernel] at this;exact this
 have A2:=Gw ⟨a,ha⟩;have B2:=Gw ⟨b,hb⟩;have C2:=Gw ⟨c,hc⟩;have D2:=Gw ⟨d,hd⟩;have E2:=Gw ⟨e,he⟩;have F2:=Gw ⟨f,hf⟩;have G2:=Gw ⟨g,hg⟩;have I2:=Gw ⟨i,hi⟩;dsimp only at A2 B2 C2 D2 E2 F2 G2 I2;have q3:x3 (r9 [s2 (s1 a),s2 (s1 b),s2 (s1 c),s2 (s1 d),s2 (s1 e),s2 (s1 f),s2 (s1 g),s2 (s1 i)])=r9 [gQ 8 a,gQ 8 b,gQ 8 c,gQ 8 d,gQ 8 e,gQ 8 f,gQ 8 g,gQ 8 i]:=by
  have:=S3 [s2 (s1 a),s2 (s1 b),s2 (s1 c),s2 (s1 d),s2 (s1 e),s2 (s1 f),s2 (s1 g),s2 (s1 i)] (by simp;omega);simp only [aP,dV,A2.2.2,B2.2.2,C2.2.2,D2.2.2,E2.2.2,F2.2.2,G2.2.2,I2.2.2] at this;rw [show r9 [15,15,15,15,15,15,15,15]=1085102592571150095 by decide+kernel] at this;exact this
 have A3:=PJ ⟨a,ha⟩;have B3:=PJ ⟨b,hb⟩;have C3:=PJ ⟨c,hc⟩;have D3:=PJ ⟨d,hd⟩;have E3:=PJ ⟨e,he⟩;have F3:=PJ ⟨f,hf⟩;have G3:=PJ ⟨g,hg⟩;have I3:=PJ ⟨i,hi⟩;dsimp only at A3 B3 C3 D3 E3 F3 G3 I3;have hc:gQ 64 (r9 [a,b,c,d,e,f,g,i])=gQ 8 a+gQ 8 b+gQ 8 c+gQ 8 d+gQ 8 e+gQ 8 f+gQ 8 g+gQ 8 i:=by
  simp only [r9];rw [uY _ _ 56 ha,uY _ _ 48 hb,uY _ _ 40 (by assumption),uY _ _ 32 hd,uY _ _ 24 he,uY _ _ 16 hf,uY _ _ 8 hg,Nat.mul_zero,oC];omega
 have hfm:=Z7 A3 B3 C3 D3 E3 F3 G3 I3;rw [q1,q2,q3,hfm.1,hc];have k1:=ofB_lt (l:=[s1 a,s1 b,s1 c,s1 d,s1 e,s1 f,s1 g,s1 i]) (by simp;omega);have k2:=ofB_lt2 (l:=[s2 (s1 a),s2 (s1 b),s2 (s1 c),s2 (s1 d),s2 (s1 e),s2 (s1 f),s2 (s1 g),s2 (s1 i)]) (by simp;omega);have e8:256^ 8=18446744073709551616:=by decide+kernel
 rw [show [s1 a,s1 b,s1 c,s1 d,s1 e,s1 f,s1 g,s1 i].length=8 from rfl,e8] at k1;rw [show [s2 (s1 a),s2 (s1 b),s2 (s1 c),s2 (s1 d),s2 (s1 e),s2 (s1 f),s2 (s1 g),s2 (s1 i)].length=8 from rfl,e8] at k2;generalize r9 [s2 (s1 a),s2 (s1 b),s2 (s1 c),s2 (s1 d),s2 (s1 e),s2 (s1 f),s2 (s1 g),s2 (s1 i)]=y at k2;exact ⟨rfl,k1,by omega,by omega,hfm.2⟩
theorem Zc {w v:Nat} (hw:w<18446744073709551616) (hv:v<18446744073709551616):wrap .u64 ((ofInt (IntKind.bits .u64) (w:Int)&&&ofInt (IntKind.bits .u64) (v:Int)).toNat:Int)=((w&&&v:Nat):Int):=by
 have o:∀w:Nat,ofInt (IntKind.bits .u64) (w:Int)=BitVec.ofNat 64 w:=fun w=>xU 64 w
 rw [o,o];have h:w&&&v≤w:=ki;have e:(BitVec.ofNat 64 w&&&BitVec.ofNat 64 v).toNat=w&&&v:=by
  rw [xV,lI,lI,lP (by simpa using hw),lP (by simpa using hv)]
 show wrap .u64 (((BitVec.ofNat 64 w&&&BitVec.ofNat 64 v).toNat:Nat):Int)=_;rw [e,sM (by omega) (by omega)]
theorem divN (w:Nat) {k:Nat} {j:Int} (hj:toNat j=k) (hk:k≤64):Int.fdiv (w:Int) (2^ min (toNat j) (IntKind.bits .u64))=((w / 2^ k:Nat):Int):=by
 have e:min k (IntKind.bits .u64)=k:=by
  show min k 64=k;omega
 rw [hj,e,show (2^ k:Int)=((2^ k:Nat):Int) by simp,Da _ (xR _)];simp
theorem addN {w v:Nat} (h:w+v<18446744073709551616):wrap .u64 ((w:Int)+(v:Int))=((w+v:Nat):Int):=by
 rw [sM (by omega) (by omega)];omega
theorem t1 {x:Nat} (hx:x<18446744073709551616) (h:x1 x<18446744073709551616):wrap .u64 ((wrap .u64 ((ofInt (IntKind.bits .u64) (Int.fdiv (x:Int) (2^ min (toNat 1) (IntKind.bits .u64)))&&&ofInt (IntKind.bits .u64) 6148914691236517205).toNat:Int))+(wrap .u64 ((ofInt (IntKind.bits .u64) (x:Int)&&&ofInt (IntKind.bits .u64) 6148914691236517205).toNat:Int)))=((x1 x:Nat):Int):=by
 have c:(6148914691236517205:Int)=((6148914691236517205:Nat):Int):=rfl;rw [divN x (k:=1) rfl (by omega),c,Zc (by omega) (by omega),Zc hx (by omega),addN h];rfl
theorem t2 {x:Nat} (hx:x<18446744073709551616) (h:x2 x<18446744073709551616):wrap .u64 ((wrap .u64 ((ofInt (IntKind.bits .u64) (Int.fdiv (x:Int) (2^ min (toNat 2) (IntKind.bits .u64)))&&&ofInt (IntKind.bits .u64) 3689348814741910323).toNat:Int))+(wrap .u64 ((ofInt (IntKind.bits .u64) (x:Int)&&&ofInt (IntKind.bits .u64) 3689348814741910323).toNat:Int)))=((x2 x:Nat):Int):=by
 have c:(3689348814741910323:Int)=((3689348814741910323:Nat):Int):=rfl;rw [divN x (k:=2) rfl (by omega),c,Zc (by omega) (by omega),Zc hx (by omega),addN h];rfl
theorem t3 {x:Nat} (h:x / 16+x<18446744073709551616):wrap .u64 ((ofInt (IntKind.bits .u64) (wrap .u64 ((Int.fdiv (x:Int) (2^ min (toNat 4) (IntKind.bits .u64)))+(x:Int)))&&&ofInt (IntKind.bits .u64) 1085102592571150095).toNat:Int)=((x3 x:Nat):Int):=by
 have c:(1085102592571150095:Int)=((1085102592571150095:Nat):Int):=rfl;rw [divN x (k:=4) rfl (by omega),addN h,c,Zc h (by omega)];rfl
theorem t4 {x k:Nat} {j:Int} (hj:toNat j=k) (hk:k≤64) (h:x+x / 2^ k<18446744073709551616):wrap .u64 ((x:Int)+(Int.fdiv (x:Int) (2^ min (toNat j) (IntKind.bits .u64))))=((x+x / 2^ k:Nat):Int):=by
 rw [divN x hj hk,addN h]
theorem t5 {x:Nat} (h:x<9223372036854775808):wrap .i64 ((ofInt (IntKind.bits .i64) (wrap .i64 (x:Int))&&&ofInt (IntKind.bits .i64) 127).toNat:Int)=((x % 128:Nat):Int):=by
 have hw:wrap .i64 (x:Int)=(x:Int):=kJ (by omega) (by omega);rw [hw];have o:ofInt (IntKind.bits .i64) (x:Int)=BitVec.ofNat 64 x:=xU 64 x;have o':ofInt (IntKind.bits .i64) 127=BitVec.ofNat 64 127:=rfl;rw [o,o'];have e:(BitVec.ofNat 64 x&&&BitVec.ofNat 64 127).toNat=x % 128:=by
  rw [xV,lI,lI,lP (show x<2^ 64 by omega)];exact Nat.and_two_pow_sub_one_eq_mod x 7
 show wrap .i64 (((BitVec.ofNat 64 x&&&BitVec.ofNat 64 127).toNat:Nat):Int)=_;rw [e,kJ (by omega) (by omega)]
end pop
end Go.Proofs.YthppjmoncapdfaaGreatDoor.cl
namespace Go.Proofs.YthppjmoncapdfaaGreatDoor.cl
open Go Go.AM
namespace pop
theorem cntN_le:∀(n w:Nat),gQ n w≤n:=by
 intro n
 induction n with
 |zero=>intro w;exact aS _
 |succ n ih=>intro w;have:=ih (w / 2);simp only [gQ];omega
theorem t48 {x:Nat} (h:x+x / 256<18446744073709551616):wrap .u64 ((x:Int)+(Int.fdiv (x:Int) (2^ min (toNat 8) (IntKind.bits .u64))))=((x+x / 256:Nat):Int):=t4 (k:=8) rfl (by omega) h
theorem t416 {x:Nat} (h:x+x / 65536<18446744073709551616):wrap .u64 ((x:Int)+(Int.fdiv (x:Int) (2^ min (toNat 16) (IntKind.bits .u64))))=((x+x / 65536:Nat):Int):=t4 (k:=16) rfl (by omega) h
theorem t432 {x:Nat} (h:x+x / 4294967296<18446744073709551616):wrap .u64 ((x:Int)+(Int.fdiv (x:Int) (2^ min (toNat 32) (IntKind.bits .u64))))=((x+x / 4294967296:Nat):Int):=t4 (k:=32) rfl (by omega) h
theorem Th {x:Nat} (h:fold x<9223372036854775808):x+x / 256<18446744073709551616∧x+x / 256+(x+x / 256) / 65536<18446744073709551616∧fold x=x+x / 256+(x+x / 256) / 65536+(x+x / 256+(x+x / 256) / 65536) / 4294967296:=by
 have e:fold x=x+x / 256+(x+x / 256) / 65536+(x+x / 256+(x+x / 256) / 65536) / 4294967296:=rfl;rw [e] at h;refine ⟨?_,?_,e⟩
 ·generalize x+x / 256=a at h⊢
  generalize a / 65536=b at h;generalize (a+b) / 4294967296=c at h;omega
 ·generalize x+x / 256+(x+x / 256) / 65536=a at h⊢
  generalize a / 4294967296=c at h;omega
end pop
end Go.Proofs.YthppjmoncapdfaaGreatDoor.cl
namespace Go.Proofs.YthppjmoncapdfaaGreatDoor.cl
open Go Go.AM
theorem o31 {w v:Nat} (hw:w<18446744073709551616) (hv:v<18446744073709551616):f31 (e1 w) (e1 v)=some (decide (w=v)):=by
 refine e31 ?_;rw [o63 hw hv,aA,o63 hv hw,aA];by_cases h:w=v
 ·subst h;rw [xC];simp
 ·cases h1:sub w v with
  |false=>simp [h]
  |true=>
   cases h2:sub v w with
   |false=>simp [h]
   |true=>exact absurd (rY h1 h2) h
theorem ZY {d:List aq} (A:Acc d) (h64:d.length≤64):Fm (oA d) (zA (oA d))∧∀w∈zA (oA d),Dn d w:=by
 have hlen:(oA d).length≤256:=by have:=G8 (d:=d);omega
 obtain ⟨F,_,_⟩:=DI (AY A) Ms hlen
 exact ⟨F,F.gen (Dn d) (fun c hc=>by
  obtain ⟨x,_,rfl⟩:=aB.1 hc
  exact ZH x) (fun a b=>dn_and)⟩
theorem QW {d:List aq} (A:Acc d) (h64:d.length≤64):((cN d).map (·.1)).Nodup:=by
 obtain ⟨F,D⟩:=ZY A h64;have hp:=(A5 (d:=d)).2.map (·.1);rw [eO] at hp;refine hp.nodup_iff.2 (LK F.nd fun x hx y hy h=> ?_);exact nmW_inj A h64 (Pg F (Ca h64) x hx) (Pg F (Ca h64) y hy) (F.nz x hx) (F.nz y hy) (D x hx) (D y hy) h
theorem ab5 {α:Type} {l:List α} (h:l.Nodup) {i k:Nat} (hi:i<l.length) (hk:k<l.length) (e:l[i]=l[k]):i=k:=by
 have h':=lK.1 h;rcases Nat.lt_trichotomy i k with h1|h1|h1
 ·exact absurd e (h' i k hi hk h1)
 ·exact h1
 ·exact absurd e.symm (h' k i hk hi h1)
structure Ok (d:List aq):Prop where
 z:Sz d
 acc:Acc d
 len:d.length≤64
 le:(zA (oA d)).length≤256
noncomputable def tys (d:List aq):List Nat:=(cN d).map (·.2)
noncomputable def zY (d:List aq):List dR:=(cN d).map Ky
theorem nJ {d:List aq}:(zY d).length=(tys d).length:=by simp [tys,zY]
theorem Ok.Tr {d:List aq} (h:Ok d):YZ (tys d):=cl.Tr h.acc h.len h.le
theorem Ok.cd {d:List aq} (h:Ok d):Cd (zY d) (tys d):=cd_ents h.acc h.len h.le
theorem Ok.cD {d:List aq} (h:Ok d):(tys d).length≤256:=by
 have:=(A4 (d:=d)).length_eq;rw [tys,this];exact h.le
theorem Ok.lt {d:List aq} (h:Ok d) {i:Nat} (hi:i<(tys d).length):(tys d).getD i 0<18446744073709551616:=h.cd.get hi
noncomputable abbrev cwd (d:List aq) (x:cG):Nat:=cw d (iK d) x
theorem Ok.cwlt {d:List aq} (h:Ok d) (x:cG):cwd d x<18446744073709551616:=ZF (by have:=oE (d:=d);have:=h.len;omega)
theorem ZE {d:List aq} (A:Acc d) (h64:d.length≤64) {x:cG} (hx:x∈jQ d):cwd d x∈zA (oA d):=by
 obtain ⟨F,D⟩:=ZY A h64;obtain ⟨e,he⟩:=F.pre;rw [he];refine eC _ (aB.2 ⟨x,?_,rfl⟩);exact gB.2 hx
theorem Ok.cwmem {d:List aq} (h:Ok d) {x:cG} (hx:x∈jQ d):cwd d x∈tys d:=(A4 (d:=d)).mem_iff.2 (ZE h.acc h.len hx)
theorem Ok.entmem {d:List aq} (h:Ok d) {x:cG} (hx:x∈jQ d):((x,cwd d x):G5)∈cN d:=by
 refine (A5 (d:=d)).2.mem_iff.2 (aB.2 ⟨cwd d x,ZE h.acc h.len hx,?_⟩);have:nmW d (cwd d x)=x:=by
  rw [Ug h.acc h.len (ZH x),V0 h.acc h.len hx];rfl
 show (nmW d (cwd d x),cwd d x)=_;rw [this]
noncomputable def nu (d:List aq) (x:cG):Nat:=(gP (fun c:dR=>c.Name==x) (zY d) 0).toNat
theorem Ok.yN {d:List aq} (h:Ok d) {x:cG} (hx:x∈jQ d):gP (fun c:dR=>c.Name==x) (zY d) 0=(nu d x:Int)∧nu d x<(tys d).length∧(tys d).getD (nu d x) 0=cwd d x∧∃hn:nu d x<(zY d).length,(zY d)[nu d x].Name=x:=by
 have hmem:=h.entmem hx;obtain ⟨j,hj,e⟩:=VH (fun c:dR=>c.Name==x) (zY d) 0 ⟨Ky (x,cwd d x),aB.2 ⟨_,hmem,rfl⟩,by simp [Ky]⟩;have e':gP (fun c:dR=>c.Name==x) (zY d) 0=(j:Int):=by
  have:=e.1;simpa using this
 have hnu:nu d x=j:=by unfold nu;rw [e'];simp
 obtain ⟨_,c,hc,hcx⟩:=aaB _ _ _ _ e';obtain ⟨p,hp,hpe⟩:=iL.1 hmem;have hje:j<(cN d).length:=by simpa [zY] using hj
 rw [uq,zY,cZ,aH hje] at hc;have hcn:(cN d)[j].1=x:=by
  have h1:c=Ky (cN d)[j]:=(eS hc).symm;rw [h1] at hcx;exact fu.1 hcx
 have hnd:=QW h.acc h.len;have hjp:j=p:=by
  have hj':j<((cN d).map (·.1)).length:=by simpa using hje
  have hp':p<((cN d).map (·.1)).length:=by simpa using hp
  refine ab5 hnd hj' hp' ?_;rw [pe,pe,hcn,hpe]
 rw [hnu];refine ⟨e',by rw [←nJ];exact hj,?_,hj,by simpa using e.2.1⟩;subst hjp;show ((cN d).map (·.2)).getD j 0=_;rw [aQ,cZ,aH hje,hpe];rfl
theorem Jn {d:List aq} {t:aq} (h:t∈d):t.Name∈jQ d:=aB.2 ⟨t,h,rfl⟩
end Go.Proofs.YthppjmoncapdfaaGreatDoor.cl
namespace Go.Proofs.YthppjmoncapdfaaGreatDoor.cl
open Go Go.AM
def upperB (c:UInt8):Bool:=decide (65≤c.toNat)&&decide (c.toNat≤90)
def wE (s:cG):Bool:=decide (1≤s.length)&&decide (s.length≤32)&& !oc (s.getD 0 0)&& !(s.getD 0 0).toNat==45&&s.all fun c=>oc c||c.toNat==45||upperB c
theorem c166 (c:UInt8):f166 (c.toNat:Int)=some (upperB c):=by
 refine e166 ?_;by_cases h:65≤c.toNat
 ·rw [cond_pos (by simp;omega)]
  simp only [upperB,h,uo,fG]
  congr 1;rw [ny];omega
 ·rw [cond_neg (by simp;omega)];simp [upperB,h]
theorem c160t (c:UInt8):f160 (c.toNat:Int) true=some (oc c||c.toNat==45||upperB c):=by
 refine e160 ?_;rw [c159,aA,c166,aA];cases oc c with
 |true=>rfl
 |false=>
  by_cases h:c.toNat=45
  ·rw [aj,cond_pos (by simp;omega)];simp [h]
  ·rw [aj,cond_neg (by simp;omega)]
   cases upperB c<;>simp [h]
theorem h140t (s:cG) (hl:s.length≤1073741824):∀(xs:cG) (i:Nat),s.drop i=xs→J7 s true i=some (xs.all fun c=>oc c||c.toNat==45||upperB c):=by
 intro xs
 induction xs with
 |nil=>intro i h;refine M1 ?_;rw [bI h];rfl
 |cons x xs ih=>
  intro i h;refine M1 ?_;rw [bH h,ai,aX h,c160t,aA,bJ h hl,ih (i+1) (aN h),gU];cases (oc x||x.toNat==45||upperB x)<;>rfl
theorem c372 (s:cG):f372 s=some (wE s):=by
 refine e372 ?_;have:f140 s true=some (wE s):=by
  refine e140 ?_;by_cases h1:1≤s.length
  ·rw [cond_neg (by simp;omega)]
   by_cases h2:s.length≤32
   ·rw [cond_neg (by simp;omega),show (0:Int)=((0:Nat):Int) from rfl,cn (by omega),c159,aA,cn (by omega),h140t s (by omega) s 0 rfl]
    have e0:s.getD 0 0=s[0]:=by rw [aQ,aH (by omega)];rfl
    unfold wE;rw [e0];cases oc s[0] with
    |true=>simp [h1,h2]
    |false=>
     by_cases h3:s[0].toNat=45
     ·rw [aj,cond_pos (by simp;omega)];simp [h3]
     ·rw [aj,cond_neg (by simp;omega)];simp [h1,h2,h3]
   ·rw [cond_pos (by simp;omega)];simp [wE,h2]
  ·rw [cond_pos (by simp;omega)];simp [wE,h1]
 rw [this];rfl
def Fz (d:List aq):Prop:=∀t∈d,t.de.length≤1048576
def val (t:aq) (F:cG):Option cG:=(t.de.find? fun x=>x.aY==F).map (·.Value)
theorem h373 (t:aq) (F:cG) (hl:t.de.length≤1048576):∀(xs:List bQ) (i:Nat),t.de.drop i=xs→
  Ov F i t=some (match xs.find? fun x=>x.aY==F with|some x=>(x.Value,true)|none=>([],false)):=by
 intro xs
 induction xs with
 |nil=>intro i h;refine abc ?_;rw [bI h];rfl
 |cons x xs ih=>
  intro i h;refine abc ?_;rw [bH h,ai,aX h,aX h,bJ h (by omega),ih (i+1) (aN h),pq];cases x.aY==F<;>rfl
theorem c373 (t:aq) (F:cG) (hl:t.de.length≤1048576):f373 t F=some (match val t F with|some v=>(v,true)|none=>([],false)):=by
 refine e373 ((h373 t F hl t.de 0 rfl).trans ?_);rw [val];cases t.de.find? fun x=>x.aY==F<;>rfl
theorem acL {t:aq} {F v:cG} (h:val t F=some v):∃x∈t.de,x.aY=F∧x.Value=v:=by
 unfold val at h;obtain ⟨x,hx,rfl⟩:=bS.1 h;exact ⟨x,oV hx,by simpa using oW hx,rfl⟩
abbrev fns (t:aq):List cG:=t.de.map (·.aY)
def fal (d:List aq):List cG:=d.flatMap fns
def qe (d:List aq):List cG:=mD (fal d)
theorem h345b {d:List aq} {i:Nat} {t:aq} (hi:d[i]? =some t) (hl:t.de.length≤1048576) {r:List cG}:∀(xs:List bQ) (k:Nat) (o:List cG),t.de.drop k=xs→o.length≤1072000000+k→
  Ka d ((xs.map (·.aY)).foldl (fun o s=>qH s o) o) (i+1:Nat)=some r→i<1000000→Oh d o i k=some r:=by
 intro xs
 induction xs with
 |nil=>
  intro k o h ho hr hi2;refine aaX ?_;rw [gW hi,bI h,aj,bG (by omega)];exact hr
 |cons x xs ih=>
  intro k o h ho hr hi2;refine aaX ?_;have hk:=eo h;have hp:=nj x.aY o;rw [gW hi,bH h,ai,gW hi,aX h,c98 _ _ (by omega),aA,bJ h (by omega)];exact ih (k+1) _ (aN h) (by omega) hr hi2
theorem h345 {d:List aq} (hl:d.length≤1000) (hf:Fz d):∀(xs:List aq) (i:Nat) (o:List cG),d.drop i=xs→o.length≤1048576 *i→Ka d o i=some ((fal xs).foldl (fun o s=>qH s o) o):=by
 intro xs
 induction xs with
 |nil=>intro i o h ho;refine aaW ?_;rw [bI h];rfl
 |cons t xs ih=>
  intro i o h ho;refine aaW ?_;have hi:=eo h;have ht:=hf t (aT (b9 h));rw [bH h,ai];refine h345b (b9 h) ht t.de 0 o rfl (by omega) ?_ (by omega);have hlen:(((fns t)).foldl (fun o s=>qH s o) o).length≤o.length+(fns t).length:=by
   have:∀(l o:List cG),(l.foldl (fun o s=>qH s o) o).length≤o.length+l.length:=by
    intro l
    induction l with
    |nil=>intro o;simp
    |cons a l ih=>
     intro o;have h1:=nj a o;have h2:=ih (qH a o);rw [fR,bg];omega
   exact this _ _
  rw [aW] at hlen;rw [ih (i+1) ((fns t).foldl (fun o s=>qH s o) o) (aN h) (by omega)];unfold fal;rw [pz,List.foldl_append]
theorem c345 {d:List aq} (hl:d.length≤1000) (hf:Fz d):f345 d=some (qe d):=e345 (h345 hl hf d 0 [] rfl (by simp))
def Tf (ns:List cG):List cG→List bQ→Int
 |_,[]=>0
 |seen,x::l=>if wE x.aY=false then 1 else if x.aY∈seen then 4 else if x.Value∈ns then Tf ns (seen++[x.aY]) l else 5
def qP (ns:List cG):List aq→Int
 |[]=>0
 |t::d=>if Tf ns [] t.de=0 then qP ns d else Tf ns [] t.de
theorem ZZ (ns:List cG):∀(l:List bQ) (seen:List cG),Tf ns seen l=0↔(∀x∈l,wE x.aY=true∧x.Value∈ns)∧(l.map (·.aY)).Nodup∧∀x∈l,x.aY∉seen:=by
 intro l
 induction l with
 |nil=>intro seen;simp [Tf]
 |cons x l ih=>
  intro seen;unfold Tf;cases h1:wE x.aY with
  |false=>simp [h1]
  |true=>
   rw [ak (by simp)];by_cases h2:x.aY∈seen
   ·rw [au h2];simp [h2]
   ·rw [ak h2]
    by_cases h3:x.Value∈ns
    ·rw [au h3,ih]
     constructor
     ·rintro ⟨a,b,c⟩
      refine ⟨fun y hy=> ?_,?_,fun y hy=> ?_⟩
      ·rcases aD.1 hy with rfl|hy
       ·exact ⟨h1,h3⟩
       ·exact a y hy
      ·rw [aP,fE]
       refine ⟨fun hm=> ?_,b⟩;obtain ⟨y,hy,e⟩:=aB.1 hm;exact c y hy (by rw [e];simp)
      ·rcases aD.1 hy with rfl|hy
       ·exact h2
       ·exact fun hs=>c y hy (by simp [hs])
     ·rintro ⟨a,b,c⟩
      rw [aP,fE] at b;refine ⟨fun y hy=>a y (by simp [hy]),b.2,fun y hy hs=> ?_⟩;rcases bC.1 hs with hs|hs
      ·exact c y (by simp [hy]) hs
      ·exact b.1 (aB.2 ⟨y,hy,by simpa using hs⟩)
    ·rw [ak h3]
     constructor
     ·intro h;cases h
     ·rintro ⟨a,_⟩;exact absurd (a x (by simp)).2 h3
theorem Te (ns:List cG):∀(d:List aq),qP ns d=0↔∀t∈d,(∀x∈t.de,wE x.aY=true∧x.Value∈ns)∧(fns t).Nodup:=by
 intro d
 induction d with
 |nil=>simp [qP]
 |cons t d ih=>
  unfold qP;have hk:=ZZ ns t.de [];by_cases h:Tf ns [] t.de=0
  ·rw [au h,ih]
   obtain ⟨a,b,_⟩:=hk.1 h;constructor
   ·intro hh u hu
    rcases aD.1 hu with rfl|hu
    ·exact ⟨a,b⟩
    ·exact hh u hu
   ·exact fun hh u hu=>hh u (by simp [hu])
  ·rw [ak h]
   constructor
   ·intro hh;exact absurd hh h
   ·intro hh
    obtain ⟨a,b⟩:=hh t (by simp);exact absurd (hk.2 ⟨a,b,fun x _=>by simp⟩) h
theorem h346c {d:List aq} {all:List cG} (hall:all.length≤1073741824) {i k:Nat} {l:List bQ} (hl:l.length≤1048576) (hk:k<l.length) {r:Int}
  (hr:(if l[k].Value∈all then Kc d all i l (k+1:Nat) else some 5)=some r):∀(n m:Nat),k-m=n→m≤k→
  HB d all i l k m=some (if l[k].aY∈((l.take k).drop m).map (·.aY) then 4 else r):=by
 intro n
 induction n with
 |zero=>
  intro m hm hle;have:m=k:=by omega
  subst this;refine VP ?_;rw [cond_neg (by simp),cn hk,Zt _ _ hall,aA];have e:(l.take m).drop m=[]:=by rw [List.drop_eq_nil_iff,gD];omega
  rw [e,ak (by simp),←hr,bG (by omega)];by_cases h:l[m].Value∈all
  ·rw [au h,cond_neg (by simpa using h)]
  ·rw [ak h,cond_pos (by simpa using h)]
 |succ n ih=>
  intro m hm hle;have hmk:m<k:=by omega
  refine VP ?_;rw [cond_pos (by simp;omega),cn (by omega),cn hk,bG (by omega),ih (m+1) (by omega) (by omega)];have e:(l.take k).drop m=l[m]::(l.take k).drop (m+1):=by
   rw [um (by rw [gD];omega),List.getElem_take]
  rw [e,aP];by_cases h:l[m].aY=l[k].aY
  ·rw [cond_pos (by simpa using h),au (by rw [h];simp)]
  ·rw [cond_neg (by simpa using h)]
   simp only [aD,cR h,false_or]
theorem h346b {d:List aq} {all:List cG} (hall:all.length≤1073741824) {i:Nat} (hi:i<1000000) {l:List bQ} (hl:l.length≤1048576) {r:Int} (hr:Kb d all (i+1:Nat)=some r):∀(xs:List bQ) (k:Nat),l.drop k=xs→
  Kc d all i l k=some (if Tf all ((l.take k).map (·.aY)) xs=0 then r else Tf all ((l.take k).map (·.aY)) xs):=by
 intro xs
 induction xs with
 |nil=>
  intro k h;refine aaZ ?_;rw [bI h,aj,bG (by omega),hr];rfl
 |cons x xs ih=>
  intro k h;refine aaZ ?_;have hk:=eo h;have hx:l[k]=x:=(bD.1 (b9 h)).2;have KJ:(l.take k).map (·.aY)++[x.aY]=(l.take (k+1)).map (·.aY):=by
   rw [c8,b9 h];simp
  rw [bH h,ai,aX h,c372,aA];unfold Tf;cases h1:wE x.aY with
  |false=>rfl
  |true=>
   rw [ic,aj];rw [ak (by simp:¬(true=false)),KJ];have hs:=ih (k+1) (aN h)
   rw [show (0:Int)=((0:Nat):Int) from rfl,h346c hall hl hk (r:=if x.Value∈all then (if Tf all ((l.take (k+1)).map (·.aY)) xs=0 then r else Tf all ((l.take (k+1)).map (·.aY)) xs) else 5) (by
    rw [hx];by_cases h3:x.Value∈all
    ·rw [au h3,au h3];exact hs
    ·rw [ak h3,ak h3]) _ 0 rfl (by omega),yd,hx]
   by_cases h2:x.aY∈(l.take k).map (·.aY)
   ·rw [au h2,au h2];rfl
   ·rw [ak h2,ak h2]
    by_cases h3:x.Value∈all
    ·rw [au h3,au h3];rfl
    ·rw [ak h3,ak h3];rfl
theorem h346 {d:List aq} (hd:d.length≤1000) (hf:Fz d) {all:List cG} (hall:all.length≤1073741824):∀(xs:List aq) (i:Nat),d.drop i=xs→Kb d all i=some (qP all xs):=by
 intro xs
 induction xs with
 |nil=>intro i h;refine aaY ?_;rw [bI h];rfl
 |cons t xs ih=>
  intro i h;refine aaY ?_;have hi:=eo h;have ht:=hf t (aT (b9 h));rw [bH h,ai,aX h,show (0:Int)=((0:Nat):Int) from rfl,h346b hall (by omega) ht (ih (i+1) (aN h)) t.de 0 rfl];rfl
theorem Xz {ns ms:List cG} (h:∀x,x∈ns↔x∈ms):∀(l:List bQ) (seen:List cG),Tf ns seen l=Tf ms seen l:=by
 intro l
 induction l with
 |nil=>intro _;rfl
 |cons x l ih=>
  intro seen;unfold Tf;rw [ih];simp only [h x.Value]
theorem P3 {ns ms:List cG} (h:∀x,x∈ns↔x∈ms):∀(d:List aq),qP ns d=qP ms d:=by
 intro d
 induction d with
 |nil=>rfl
 |cons t d ih=>unfold qP;rw [ih,Xz h]
theorem c346 {d:List aq} (hd:d.length≤1000) (hf:Fz d):f346 d=some (qP (jQ d) d):=by
 refine e346 ?_;have hal:=pZ (jQ d);rw [aW] at hal;rw [c52 d (by omega),aA,show (0:Int)=((0:Nat):Int) from rfl,h346 hd hf (by omega) d 0 rfl,P3 (fun x=>gB)]
end Go.Proofs.YthppjmoncapdfaaGreatDoor.cl
