/- The Closure laws. -/
import Derived.Test.YtfoddgpndoeeaaaGreatDoorClNd
import Derived.Test.YtfoddgpndoeeaaaGreatDoorClL
set_option linter.unusedVariables false
set_option linter.unusedSimpArgs false
set_option linter.unusedSectionVars false
namespace Go.Proofs.YtfoddgpndoeeaaaGreatDoor.cl
open Go Go.AM
theorem QY:∀(n w:Nat),0<w→w<2^ n→tz n w<n∧∃m,w=2^ (tz n w) *(2 *m+1):=by
 intro n
 induction n with
 |zero=>intro w h0 h1;simp at h1;omega
 |succ n ih=>
  intro w h0 h1;unfold tz;by_cases h:w % 2=1
  ·rw [show Nat.beq (w % 2) 1=true by rw [h];rfl,cond_true]
   exact ⟨by omega,w / 2,by rw [Nat.pow_zero,Nat.one_mul];omega⟩
  ·have h2:Nat.beq (w % 2) 1=false:=by
    have:w % 2=0:=by omega
    rw [this];rfl
   rw [h2,cond_false];rw [Nat.pow_succ] at h1;obtain ⟨a,m,e⟩:=ih (w / 2) (by omega) (by omega);refine ⟨by omega,m,?_⟩;rw [Nat.add_comm,Nat.pow_succ,Nat.mul_comm _ 2,Nat.mul_assoc,←e];omega
theorem yt {k m:Nat} (j:Nat):(2^ k *(2 *m+1)).testBit j=(decide (k≤j)&&(2 *m+1).testBit (j-k)):=by
 have:=Nat.testBit_two_pow_mul_add (2 *m+1) (Nat.two_pow_pos k) j;rw [Nat.add_zero] at this;rw [this];by_cases h:j<k
 ·rw [if_pos h];simp;omega
 ·rw [if_neg h];simp;omega
theorem vL {k m:Nat} (j:Nat):((2^ k *(2 *m+1))&&&(2^ k *(2 *m+1)-1)).testBit j=((2^ k *(2 *m+1)).testBit j&& !decide (j=k)):=by
 have hp:=Nat.two_pow_pos k;have e:2^ k *(2 *m+1)-1=2^ k *(2 *m)+(2^ k-1):=by
  rw [Nat.mul_add,Nat.mul_one];omega
 rw [Nat.testBit_and,yt,e,Nat.testBit_two_pow_mul_add _ (by omega)];by_cases h:k≤j
 ·rw [if_neg (by omega)]
  by_cases h2:j=k
  ·subst h2;simp
  ·obtain ⟨i,hi⟩:∃i,j-k=i+1:=⟨j-k-1,by omega⟩
   rw [hi,Nat.testBit_succ,Nat.testBit_succ];have e1:(2 *m+1) / 2=m:=by omega
   have e2:(2 *m) / 2=m:=by omega
   rw [e1,e2];simp [h2]
 ·simp [h]
theorem Mw {w:Nat} (h0:0<w) (hw:w<18446744073709551616):tz 64 w<64∧bitsOf w=tz 64 w::bitsOf (w&&&(w-1)):=by
 obtain ⟨h1,m,e⟩:=QY 64 w h0 (by omega);refine ⟨h1,?_⟩;generalize tz 64 w=k at h1 e;subst e;unfold bitsOf;have hr:List.range 64=List.range k++k::(List.range (63-k)).map (· +(k+1)):=by
  have h3:=List.range_add (n:=k+1) (m:=63-k);rw [show k+1+(63-k)=64 by omega] at h3;rw [h3,List.range_succ];simp [Nat.add_comm]
 have hl:∀(p:Nat→Bool),(∀j,j<k→p j=false)→(List.range k).filter p=[]:=by
  intro p hp;rw [List.filter_eq_nil_iff];intro j hj;rw [hp j (List.mem_range.1 hj)];simp
 rw [hr,List.filter_append,List.filter_append,hl _ (fun j hj=>by rw [yt];simp;omega),hl _ (fun j hj=>by rw [vL,yt];simp;omega),List.filter_cons,List.filter_cons];rw [if_pos (by rw [yt];simp),if_neg (by rw [vL];simp),List.nil_append,List.nil_append]
 congr 1
 apply List.filter_congr;intro j hj;obtain ⟨i,_,rfl⟩:=List.mem_map.1 hj;rw [vL];have:decide (i+(k+1)=k)=false:=by rw [decide_eq_false_iff_not];omega
 rw [this];simp
theorem sD (w:Nat):(bitsOf w).length≤64:=by
 have:=List.length_filter_le w.testBit (List.range 64);simpa [bitsOf] using this
theorem i86 {w:Nat} (hw:w<18446744073709551616):f86 (w:Int)=some ((tz 64 w:Nat):Int):=by
 refine nP ?_;refine lz ?_;have hb:Nat.blt w 18446744073709551616=true:=Nat.ble_eq_true_of_le hw;show (bif Nat.blt w 18446744073709551616 then some (AV.int .i64 (tz 64 w:Nat),[]) else none)=_;rw [hb];rfl
theorem h44 {W0:Nat} (hW:W0<18446744073709551616) {r:List Int}:∀(w:Nat),w<18446744073709551616→∀(o:List Nat),o.length+(bitsOf w).length≤64→GC [(W0:Int)] 1 1 (cast (o++bitsOf w))=some r→GD 0 w [(W0:Int)] 1 0 (cast o)=some r:=by
 intro w
 induction w using Nat.strongRecOn with
 |_ w ih=>
  intro hw o ho hr;refine VT _ _ _ _ _ _ ?_;by_cases h0:w=0
  ·subst h0
   have e0:bitsOf 0=[]:=by simp [bitsOf]
   rw [e0,List.append_nil] at hr;rw [cond_neg (by decide)];exact hr
  ·obtain ⟨h1,e⟩:=Mw (by omega) hw
   have e1:IntKind.wrap .i64 (IntKind.wrap .i64 (64 *0)+((tz 64 w:Nat):Int))=((tz 64 w:Nat):Int):=by
    rw [show IntKind.wrap .i64 (64 *0)=0 from rfl,Int.zero_add,fo (by omega) (by omega)]
   have e2:IntKind.wrap .u64 ((w:Int)-1)=((w-1:Nat):Int):=by
    rw [show (w:Int)-1=((w-1:Nat):Int) by omega,rK (by omega)]
   have e3:IntKind.wrap .u64 ((BitVec.ofInt (IntKind.bits .u64) (w:Int)&&&BitVec.ofInt (IntKind.bits .u64) ((w-1:Nat):Int)).toNat:Int)=((w&&&(w-1):Nat):Int):=Bt hw (by omega);have hlt:w&&&(w-1)<w:=Nat.lt_of_le_of_lt Nat.and_le_right (by omega);rw [e] at ho hr;simp only [List.length_cons] at ho;rw [cond_pos (by simp;omega),i86 hw,aj,e1,e2,e3,eo _ (by simp;omega) (by simp) (by omega)];have:=ih (w&&&(w-1)) hlt (by omega) (o++[tz 64 w]) (by simp;omega) (by rw [List.append_assoc];exact hr);rw [show cast (o++[tz 64 w])=cast o++[((tz 64 w:Nat):Int)] from List.map_append] at this;exact this
theorem i44 {w:Nat} (hw:w<18446744073709551616):f44 (e1 w)=some (cast (bitsOf w)):=by
 refine e44 _ ?_;by_cases h0:w=0
 ·subst h0
  have e0:bitsOf 0=[]:=by simp [bitsOf]
  rw [e0,show e1 0=[] from rfl];refine Oj _ _ _ _ ?_;rw [cond_neg (by decide)];rfl
 ·have hl:e1 w=[(w:Int)]:=by simp [e1,h0]
  rw [hl];refine Oj _ _ _ _ ?_;rw [cond_pos (by simp),show (0:Int)=((0:Nat):Int) from rfl,jQ (x:=(w:Int)) (by simp)];refine h44 hw w hw [] (by have:=sD w;simp;omega) ?_;refine Oj _ _ _ _ ?_;rw [cond_neg (by simp)];rfl
theorem i43 {w v:Nat} (hw:w<18446744073709551616) (hv:v<18446744073709551616):f43 (e1 w) (e1 v)=some (w==v):=by
 refine e43 _ _ ?_;have h1:=jF w;have h2:=jF v;rw [c31 _ _ (by omega) (by omega),Ci (En hv) (En hw),yy,yy,aj]
 congr 1
 rw [Bool.eq_iff_iff,decide_eq_true_iff,beq_iff_eq];exact ⟨fun h=>(MT h).symm,fun h=>by rw [h]⟩
theorem h42 {cs:List Nat} (hcs:∀c∈cs,c<18446744073709551616) (hlen:cs.length≤1048576) {w:Nat} (hw:w<18446744073709551616):∀(xs:List Nat) (i:Nat),cs.drop i=xs→GB (e1 w) (cs.map e1) (cs.map e1).length i=some (bX (fun c=>c==w) xs i):=by
 intro xs
 induction xs with
 |nil=>
  intro i h;refine RJ _ _ _ _ ?_;have hm:(cs.map e1).drop i=[]:=by rw [←List.map_drop,h];rfl
  rw [bS hm];rfl
 |cons x xs ih=>
  intro i h;refine RJ _ _ _ _ ?_;have hm:(cs.map e1).drop i=e1 x::xs.map e1:=by rw [←List.map_drop,h];rfl
  rw [bR hm,cond_true,bW hm,i43 (hcs x (List.mem_of_getElem? (bU h))) hw,aj,bB hm (by simp;omega),ih (i+1) (bf h),bX];cases x==w<;>rfl
theorem i42 {cs:List Nat} (hcs:∀c∈cs,c<18446744073709551616) (hlen:cs.length≤1048576) {w:Nat} (hw:w<18446744073709551616):f42 (cs.map e1) (e1 w)=some (bX (fun c=>c==w) cs 0):=e42 _ _ (h42 hcs hlen hw cs 0 rfl)
theorem C7 (l:List aR) {n:Nat} (h:∀x∈l,x.length≤n):(ja [38] l).length≤(n+1) *l.length:=by
 cases l with
 |nil=>simp [ja]
 |cons x l=>
  rw [tv];have key:∀l:List aR,(∀x∈l,x.length≤n)→(j5 l).length≤(n+1) *l.length:=by
   intro l
   induction l with
   |nil=>intro _;simp [j5]
   |cons y l ih=>
    intro h;have h1:=h y (by simp);have h2:=ih fun z hz=>h z (by simp [hz])
    have e:j5 (y::l)=38::(y++j5 l):=by simp [j5]
    rw [e];simp only [List.length_cons,List.length_append,Nat.mul_add,Nat.mul_one];omega
  have h1:=h x (by simp);have h2:=key l fun z hz=>h z (by simp [hz])
  simp only [List.length_cons,List.length_append,Nat.mul_add,Nat.mul_one];omega
theorem i45 (l:List aR) (hl:l.length≤1048576) (hx:∀x∈l,x.length≤1000):f45 l [38]=some (ja [38] l):=by
 refine nP ?_;refine lz ?_;have h0:=C7 l hx;have hb:(Nat.ble (ja [38] l).length 140737488355328&&Nat.ble l.length 140737488355328)=true:=by
  rw [Bool.and_eq_true];exact ⟨Nat.ble_eq_true_of_le (by omega),Nat.ble_eq_true_of_le (by omega)⟩
 simp only [dg,B6,Gy,hb,cond_true];rfl
noncomputable def bn (d:List af) (w:Nat):List aR:=(bitsOf w).map fun i=>(cI d).getD i []
noncomputable def BS (d:List af) (w:Nat):aR:=BQ d (cI d) (jr d) w
theorem xF {d:List af} {w:Nat}:∀(ss:List aR) (cs:List Nat) (i:Nat) (acc:List aR) (k:Nat),ss.length=cs.length→bX (fun c=>c==w) cs i=(k:Int)→i≤k∧ss[k-i]? =some (ij d w ss cs i acc):=by
 intro ss
 induction ss with
 |nil=>
  intro cs i acc k hl h;have:cs=[]:=List.length_eq_zero_iff.1 hl.symm;subst this;have h':(-1:Int)=(k:Int):=h;omega
 |cons s ss ih=>
  intro cs i acc k hl h;cases cs with
  |nil=>simp at hl
  |cons c cs=>
   rw [bX] at h;simp only [ij];by_cases e:c=w
   ·subst e
    rw [show (c==c)=true by simp,if_pos rfl] at h;obtain rfl:i=k:=by omega
    simp
   ·rw [show (c==w)=false by simpa using e,if_neg (by simp)] at h
    rw [if_neg e];obtain ⟨h1,h2⟩:=ih cs (i+1) (if w.testBit i=true then acc++[s] else acc) k (by simpa using hl) h;refine ⟨by omega,?_⟩;rw [show k-i=(k-(i+1))+1 by omega,List.getElem?_cons_succ];exact h2
theorem Dp {d:List af} {w:Nat}:∀(ss:List aR) (cs:List Nat) (i:Nat) (acc:List aR),ss.length=cs.length→(∀c∈cs,c≠w)→ij d w ss cs i acc=ja [38] (nB d (acc++((List.range ss.length).filter fun j=>w.testBit (i+j)).map fun j=>ss.getD j [])):=by
 intro ss
 induction ss with
 |nil=>
  intro cs i acc hl h;cases cs<;>simp [ij]
 |cons s ss ih=>
  intro cs i acc hl h;cases cs with
  |nil=>simp at hl
  |cons c cs=>
   simp only [ij];rw [if_neg (h c (by simp)),ih cs (i+1) _ (by simpa using hl) fun c hc=>h c (by simp [hc])]
   congr 2
   rw [List.length_cons,List.range_succ_eq_map,List.filter_cons,List.filter_map,Nat.add_zero];have e:((List.range ss.length).filter ((fun j=>w.testBit (i+j))∘Nat.succ)).map ((fun j=>(s::ss).getD j [])∘Nat.succ)=((List.range ss.length).filter fun j=>w.testBit (i+1+j)).map fun j=>ss.getD j []:=by
    have e1:((fun j=>w.testBit (i+j))∘Nat.succ)=fun j=>w.testBit (i+1+j):=by
     funext j;simp only [Function.comp];congr 1;omega
    have e2:((fun j=>(s::ss).getD j [])∘Nat.succ)=fun j=>ss.getD j []:=by
     funext j;simp
    rw [e1,e2]
   cases hb:w.testBit i with
   |true=>simp only [if_true,List.map_cons,List.map_map,e];simp
   |false=>simp only [Bool.false_eq_true,if_false,List.map_map,e]
theorem CG {w n:Nat} (hn:n≤64) (h:∀i,w.testBit i=true→i<n):bitsOf w=(List.range n).filter w.testBit:=by
 unfold bitsOf;have h3:=List.range_add (n:=n) (m:=64-n);rw [show n+(64-n)=64 by omega] at h3;rw [h3,List.filter_append];have:List.filter w.testBit (List.map (n+ ·) (List.range (64-n)))=[]:=by
  rw [List.filter_eq_nil_iff];intro j hj hc;obtain ⟨i,_,rfl⟩:=List.mem_map.1 hj;have:=h _ hc;omega
 rw [this,List.append_nil]
structure Dn (d:List af) (w:Nat):Prop where
 lt:∀i,w.testBit i=true→i<(cI d).length
 dn:∀i j,i<(cI d).length→j<(cI d).length→w.testBit i=true→Le d ((cI d).getD i []) ((cI d).getD j [])→w.testBit j=true
theorem JW {d:List af} (x:aR):Dn d (cw d (cI d) x):=
 ⟨fun i h=>(nr.1 h).1,fun i j hi hj h hl=>nr.2 ⟨hj,xX.trans (nr.1 h).2 hl⟩⟩
theorem MS {d:List af} {a b:Nat} (ha:Dn d a) (hb:Dn d b):Dn d (a&&&b):=by
 refine ⟨fun i h=> ?_,fun i j hi hj h hl=> ?_⟩
 ·rw [Nat.testBit_and,Bool.and_eq_true] at h;exact ha.lt i h.1
 ·rw [Nat.testBit_and,Bool.and_eq_true] at h⊢
  exact ⟨ha.dn i j hi hj h.1 hl,hb.dn i j hi hj h.2 hl⟩
theorem pq {w i:Nat} (hw:w<18446744073709551616):i∈bitsOf w↔w.testBit i=true:=by
 unfold bitsOf;rw [List.mem_filter,List.mem_range];refine ⟨fun h=>h.2,fun h=>⟨?_,h⟩⟩;apply Classical.byContradiction;intro hc;rw [Nat.testBit_lt_two_pow (Nat.lt_of_lt_of_le hw (Nat.pow_le_pow_right (n:=2) (i:=64) (j:=i) (by omega) (by omega)))] at h;cases h
theorem MD {d:List af} {w:Nat} (h:∀i,w.testBit i=true→i<(cI d).length):SS (bn d w):=by
 have hs:=List.pairwise_iff_getElem.1 (eH (cU d));unfold bn SS;rw [List.pairwise_map];have hr:(bitsOf w).Pairwise (· < ·):=(List.pairwise_lt_range (n:=64)).sublist List.filter_sublist;refine hr.imp_of_mem ?_;intro a b ha hb hab;have ha':=h a (List.mem_filter.1 ha).2;have hb':=h b (List.mem_filter.1 hb).2;have:=hs a b ha' hb' hab;rw [List.getD_eq_getElem?_getD,List.getD_eq_getElem?_getD,List.getElem?_eq_getElem ha',List.getElem?_eq_getElem hb'];exact this
theorem CH {d:List af} {w:Nat} (h:∀i,w.testBit i=true→i<(cI d).length):∀x∈bn d w,x∈cU d:=by
 intro x hx;obtain ⟨i,hi,rfl⟩:=List.mem_map.1 hx;exact Fs (h i (List.mem_filter.1 hi).2)
theorem yx {d:List af} {w:Nat} (h:∀i,w.testBit i=true→i<(cI d).length):nB d (bn d w)=(bn d w).filter (mz d (bn d w)):=by
 have hf:(bn d w).filter (fun s=>decide (s∈cU d))=bn d w:=List.filter_eq_self.2 fun x hx=>by simpa using CH h x hx
 have hs:gw (bn d w)=bn d w:=SS.ext (eH _) (MD h) fun y=>dr
 simp only [nB,hf,hs]
theorem rW {d:List af} {l:List aR} {x:aR}:mz d l x=true↔∀y∈l,Le d y x→y=x:=by
 unfold mz;rw [List.all_eq_true];constructor
 ·intro h y hy hl
  have:=h y hy;simp only [Bool.or_eq_true,decide_eq_true_eq,Bool.not_eq_true',decide_eq_false_iff_not] at this;rcases this with h|h
  ·exact h
  ·exact absurd hl h
 ·intro h y hy
  simp only [Bool.or_eq_true,decide_eq_true_eq,Bool.not_eq_true',decide_eq_false_iff_not];by_cases hl:Le d y x
  ·exact .inl (h y hy hl)
  ·exact .inr hl
theorem vQ {d:List af} (A:Acc d) {l:List aR}:∀x∈l,∃m∈l.filter (mz d l),Le d m x:=by
 obtain ⟨r,hr⟩:=A.rk;have key:∀(n:Nat) (x:aR),r x=n→x∈l→∃m∈l.filter (mz d l),Le d m x:=by
  intro n
  induction n using Nat.strongRecOn with
  |_ n ih=>
   intro x e hx;by_cases hf:mz d l x=true
   ·exact ⟨x,List.mem_filter.2 ⟨hx,hf⟩, .refl⟩
   ·rw [rW] at hf
    obtain ⟨y,hy⟩:=Classical.not_forall.1 hf;obtain ⟨hy1,hy2⟩:=Classical.not_imp.1 hy;obtain ⟨hy3,hy4⟩:=Classical.not_imp.1 hy2;have:r y<r x:=by
     rcases Dc hr hy3 with h|h
     ·exact absurd h hy4
     ·exact h
    obtain ⟨m,hm,hl⟩:=ih (r y) (by omega) y rfl hy1;exact ⟨m,hm,xX.trans hl hy3⟩
 exact fun x hx=>key _ x rfl hx
theorem Hl {d:List af} {w:Nat} (hw:w<18446744073709551616) (D:Dn d w) {i:Nat} (hi:i<(cI d).length):w.testBit i=true↔(cI d).getD i []∈bn d w:=by
 unfold bn;rw [List.mem_map];constructor
 ·intro h;exact ⟨i,(pq hw).2 h,rfl⟩
 ·rintro ⟨j,hj,e⟩
  have hj':=(pq hw).1 hj;have hjl:=D.lt j hj';rw [List.getD_eq_getElem?_getD,List.getD_eq_getElem?_getD,List.getElem?_eq_getElem hi,List.getElem?_eq_getElem hjl] at e;have:=(List.getElem_inj (eH (cU d)).nodup).1 e;rw [←this];exact hj'
theorem OD {d:List af} (A:Acc d) {w v:Nat} (hw:w<18446744073709551616) (hv:v<18446744073709551616) (Dw:Dn d w) (Dv:Dn d v) (h:nB d (bn d w)=nB d (bn d v)):w=v:=by
 have key:∀{w v:Nat},w<18446744073709551616→v<18446744073709551616→Dn d w→Dn d v→nB d (bn d w)=nB d (bn d v)→∀i,w.testBit i=true→v.testBit i=true:=by
  intro w v hw hv Dw Dv h i hi;have hil:=Dw.lt i hi;obtain ⟨m,hm,hl⟩:=vQ A _ ((Hl hw Dw hil).1 hi);rw [←yx Dw.lt,h,yx Dv.lt] at hm;have tY:=(List.mem_filter.1 hm).1;obtain ⟨j,hj,rfl⟩:=List.mem_map.1 tY;have hj':=(pq hv).1 hj;exact Dv.dn j i (Dv.lt j hj') hil hj' hl
 apply Nat.eq_of_testBit_eq;intro i;rw [Bool.eq_iff_iff];exact ⟨key hw hv Dw Dv h i,key hv hw Dv Dw h.symm i⟩
theorem Kl {d:List af} (A:Acc d) (h64:d.length≤64) {x:aR} (hx:x∈cU d):nB d (bn d (cw d (cI d) x))=[x]:=by
 have hal:=fq (d:=d);have hw:cw d (cI d) x<18446744073709551616:=MO (by omega);have D:=JW (d:=d) x;rw [yx D.lt];have hmem:∀y,y∈(bn d (cw d (cI d) x)).filter (mz d (bn d (cw d (cI d) x)))↔y∈[x]:=by
  intro y;have hx':x∈bn d (cw d (cI d) x):=by
   obtain ⟨i,hi,e⟩:=C0 hx;have h:=(Hl hw D hi).1 (nr.2 ⟨hi,by rw [e];exact .refl⟩);rw [e] at h;exact h
  have hle:∀z∈bn d (cw d (cI d) x),Le d x z:=by
   intro z hz;obtain ⟨j,hj,rfl⟩:=List.mem_map.1 hz;exact (nr.1 ((pq hw).1 hj)).2
  rw [List.mem_filter,rW,List.mem_singleton];constructor
  ·rintro ⟨h1,h2⟩
   exact (h2 x hx' (hle y h1)).symm
  ·rintro rfl
   exact ⟨hx',fun z hz hl=>le_antisymm A hl (hle z hz)⟩
 refine SS.ext ?_ (by simp [SS]) hmem;exact (MD D.lt).sublist List.filter_sublist
theorem FJ {s:aR} (h:isName s=true):(38:UInt8)∉s:=by
 unfold isName at h;simp only [Bool.and_eq_true] at h;intro hm;have:=List.all_eq_true.1 h.2 _ hm;revert this;simp [eZ,lowerB]
theorem Ri:∀{x x' t t':aR},(38:UInt8)∉x→(38:UInt8)∉x'→(t=[]∨∃u,t=38::u)→(t'=[]∨∃u,t'=38::u)→x++t=x'++t'→x=x'∧t=t':=by
 intro x
 induction x with
 |nil=>
  intro x' t t' h1 h2 h3 h4 h;cases x' with
  |nil=>exact ⟨rfl,by simpa using h⟩
  |cons c x'=>
   rcases h3 with rfl|⟨u,rfl⟩
   ·simp at h
   ·simp only [List.nil_append,List.cons_append,List.cons.injEq] at h
    exact absurd (h.1▸List.mem_cons_self) h2
 |cons c x ih=>
  intro x' t t' h1 h2 h3 h4 h;cases x' with
  |nil=>
   rcases h4 with rfl|⟨u,rfl⟩
   ·simp at h
   ·simp only [List.nil_append,List.cons_append,List.cons.injEq] at h
    exact absurd (h.1▸List.mem_cons_self) h1
  |cons c' x'=>
   simp only [List.cons_append,List.cons.injEq] at h;simp only [List.mem_cons,not_or] at h1 h2;obtain ⟨a,b⟩:=ih h1.2 h2.2 h3 h4 h.2;exact ⟨by rw [h.1,a],b⟩
theorem vp (l:List aR):j5 l=[]∨∃u,j5 l=38::u:=by
 cases l with
 |nil=>exact .inl rfl
 |cons x l=>exact .inr ⟨x++j5 l,by simp [j5]⟩
theorem L3:∀{l l':List aR},(∀x∈l,(38:UInt8)∉x)→(∀x∈l',(38:UInt8)∉x)→j5 l=j5 l'→l=l':=by
 intro l
 induction l with
 |nil=>
  intro l' _ _ h;cases l' with
  |nil=>rfl
  |cons x l'=>simp [j5] at h
 |cons x l ih=>
  intro l' h1 h2 h;cases l' with
  |nil=>simp [j5] at h
  |cons x' l'=>
   have e:∀(y:aR) (m:List aR),j5 (y::m)=38::(y++j5 m):=fun y m=>by simp [j5]
   rw [e,e,List.cons.injEq] at h;obtain ⟨a,b⟩:=Ri (h1 x (by simp)) (h2 x' (by simp)) (vp l) (vp l') h.2;rw [a,ih (fun y hy=>h1 y (by simp [hy])) (fun y hy=>h2 y (by simp [hy])) b]
theorem Lp {l l':List aR} (hl:l≠[]) (hl':l'≠[]) (h1:∀x∈l,(38:UInt8)∉x) (h2:∀x∈l',(38:UInt8)∉x) (h:ja [38] l=ja [38] l'):l=l':=by
 cases l with
 |nil=>exact absurd rfl hl
 |cons x l=>
  cases l' with
  |nil=>exact absurd rfl hl'
  |cons x' l'=>
   rw [tv,tv] at h;obtain ⟨a,b⟩:=Ri (h1 x (by simp)) (h2 x' (by simp)) (vp l) (vp l') h;rw [a,L3 (fun y hy=>h1 y (by simp [hy])) (fun y hy=>h2 y (by simp [hy])) b]
theorem Np {d:List af} {i:Nat} (hi:i<(cI d).length):(jr d)[i]? =some (cw d (cI d) ((cI d).getD i [])):=by
 unfold jr;rw [List.getElem?_map,List.getD_eq_getElem?_getD,List.getElem?_eq_getElem hi];rfl
theorem NP {α:Type} (p:α→Bool):∀(xs:List α) (i k:Nat),bX p xs i=(k:Int)→i≤k∧∃x,xs[k-i]? =some x∧p x=true:=by
 intro xs
 induction xs with
 |nil=>intro i k h;have h':(-1:Int)=(k:Int):=h;omega
 |cons x xs ih=>
  intro i k h;rw [bX] at h;cases hp:p x with
  |true=>
   rw [hp,if_pos rfl] at h;obtain rfl:i=k:=by omega
   exact ⟨Nat.le_refl _,x,by simp,hp⟩
  |false=>
   rw [hp,if_neg (by simp)] at h;obtain ⟨h1,y,h2,h3⟩:=ih (i+1) k h;refine ⟨by omega,y,?_,h3⟩;rw [show k-i=(k-(i+1))+1 by omega,List.getElem?_cons_succ];exact h2
theorem Kq {d:List af} (h64:d.length≤64) {w:Nat} (D:Dn d w) (h:∀c∈jr d,c≠w):BS d w=ja [38] (nB d (bn d w)):=by
 have hal:=fq (d:=d);unfold BS BQ;rw [Dp _ _ _ _ (by simp [jr]) h,List.nil_append,bn,CG (n:=(cI d).length) (by omega) D.lt]
 congr 4
 funext j
 rw [Nat.zero_add]
theorem Jc {d:List af} (A:Acc d) (h64:d.length≤64) {w:Nat} (D:Dn d w):BS d w=ja [38] (nB d (bn d w)):=by
 by_cases h:∀c∈jr d,c≠w
 ·exact Kq h64 D h
 ·have tZ:¬bX (fun c=>c==w) (jr d) 0<0:=by
   rw [C4];intro hc;exact h fun c hcm=>by simpa using hc c hcm
  obtain ⟨k,hk⟩:∃k:Nat,bX (fun c=>c==w) (jr d) 0=(k:Int):=⟨(bX (fun c=>c==w) (jr d) 0).toNat,by omega⟩
  obtain ⟨_,e⟩:=xF (d:=d) (cI d) (jr d) 0 [] k (by simp [jr]) hk;obtain ⟨_,c,e2,e3⟩:=NP _ _ _ _ hk;rw [Nat.sub_zero] at e e2;have hkl:=(List.getElem?_eq_some_iff.1 e).1;rw [Np hkl] at e2;have e4:cw d (cI d) ((cI d).getD k [])=w:=by
   rw [←(beq_iff_eq.1 e3)];exact Option.some.inj e2
  have e5:(cI d).getD k []=BS d w:=by
   rw [List.getD_eq_getElem?_getD,e];rfl
  rw [e5] at e4;have hx:BS d w∈cU d:=by rw [←e5];exact Fs hkl
  have:=Kl A h64 hx;rw [e4] at this;rw [this];rfl
theorem Kp {d:List af} (A:Acc d) (h64:d.length≤64) {w v:Nat} (hw:w<18446744073709551616) (hv:v<18446744073709551616) (hw0:w≠0) (hv0:v≠0) (Dw:Dn d w) (Dv:Dn d v) (h:BS d w=BS d v):w=v:=by
 rw [Jc A h64 Dw,Jc A h64 Dv] at h;have ne:∀{w:Nat},w<18446744073709551616→w≠0→Dn d w→nB d (bn d w)≠[]:=by
  intro w hw h0 D hc;obtain ⟨i,hi⟩:=Nat.exists_testBit_of_ne_zero h0;obtain ⟨m,hm,_⟩:=vQ A _ ((Hl hw D (D.lt i hi)).1 hi);rw [←yx D.lt,hc] at hm;cases hm
 have fr:∀{w:Nat},Dn d w→∀x∈nB d (bn d w),(38:UInt8)∉x:=by
  intro w D x hx;obtain ⟨t,ht,rfl⟩:=List.mem_map.1 (CH D.lt x (FU hx));exact FJ (A.name t ht)
 exact OD A hw hv Dw Dv (Lp (ne hw hw0 Dw) (ne hv hv0 Dv) (fr Dw) (fr Dv) h)
theorem L6 {w:Nat} (hw:w<18446744073709551616):AG ((e1 w).map (aJ .u64))=some w:=by
 unfold e1;by_cases h0:w=0
 ·rw [if_pos h0,h0];rfl
 ·rw [if_neg h0]
  have hb:Nat.blt w 18446744073709551616=true:=Nat.ble_eq_true_of_le hw;have hb':Nat.blt 0 w=true:=Nat.ble_eq_true_of_le (by omega);show (bif Nat.blt 0 w&&Nat.blt w 18446744073709551616 then some w else none)=_;rw [hb,hb'];rfl
theorem HG:∀(E:List rO),(∀p∈E,p.2<18446744073709551616)→td ((E.map AL).map aB.enc)=some E:=by
 intro E
 induction E with
 |nil=>intro _;rfl
 |cons p E ih=>
  intro h;have hp:=h p (by simp);have H9:=ih fun q hq=>h q (by simp [hq])
  have e:aB.enc (AL p)=[.str p.1, .cE 1 ((e1 p.2).map (aJ .u64))]:=rfl;rw [List.map_cons,List.map_cons,e]
  show (match AG ((e1 p.2).map (aJ .u64)),td ((E.map AL).map aB.enc) with
   |some w,some r=>some ((p.1,w)::r)
   |_,_=>none)=_
  rw [L6 hp,H9]
theorem KS:∀(n w:Nat),dm n w=((List.range n).filter w.testBit).length:=by
 intro n
 induction n with
 |zero=>intro w;rfl
 |succ n ih=>
  intro w;rw [dm,ih,List.range_succ_eq_map,List.filter_cons,List.filter_map];have e1:(w.testBit∘Nat.succ)=(w / 2).testBit:=by
   funext j;simp only [Function.comp];rw [Nat.testBit_succ]
  rw [e1];by_cases h:w % 2=1
  ·rw [if_pos (by rw [Nat.testBit_zero];simpa using h),h];simp;omega
  ·rw [if_neg (by rw [Nat.testBit_zero];simpa using h),show w % 2=0 by omega];simp
theorem MK (w:Nat):dm 64 w=pc w:=KS 64 w
theorem OA:xB=xC:=by
 funext p q
 unfold xB xC;rw [MK,MK];have e1:Nat.blt (pc q.2) (pc p.2)=decide (pc p.2>pc q.2):=by
  rw [Bool.eq_iff_iff,decide_eq_true_iff];exact ⟨Nat.le_of_ble_eq_true,Nat.ble_eq_true_of_le⟩
 have e2:Nat.beq (pc p.2) (pc q.2)=decide (pc p.2=pc q.2):=by
  rw [Bool.eq_iff_iff,decide_eq_true_iff];exact ⟨Nat.eq_of_beq_eq_true,fun h=>by rw [h];exact Nat.beq_refl _⟩
 rw [e1,e2]
theorem Jx:∀{E:List rO},E.Pairwise (fun p q=>xC p q=true∨xC q p=true)→lU E=true:=by
 intro E
 induction E with
 |nil=>intro _;rfl
 |cons p E ih=>
  intro h;rw [List.pairwise_cons] at h;unfold lU;rw [Bool.and_eq_true];refine ⟨?_,ih h.2⟩;rw [List.all_eq_true];intro q hq;rw [OA,Bool.or_eq_true];exact h.1 q hq
theorem P0:gX.enc=(aB.enc∘AL):=by
 funext p
 show [AV.str p.1,AV.cE 1 (bif Nat.beq p.2 0 then [] else [[.int .u64 (p.2:Int)]])]=[AV.str p.1,AV.cE 1 ((e1 p.2).map (aJ .u64))]
 unfold e1;by_cases h0:p.2=0
 ·rw [if_pos h0,h0];rfl
 ·have hb:Nat.beq p.2 0=false:=by
   cases hc:Nat.beq p.2 0 with
   |false=>rfl
   |true=>exact absurd (Nat.eq_of_beq_eq_true hc) h0
  rw [if_neg h0,hb];rfl
theorem i47 {E:List rO} (hlt:∀p∈E,p.2<18446744073709551616) (hlen:E.length≤1048576) (hs:E.Pairwise (fun p q=>xC p q=true∨xC q p=true)):f47 (E.map AL)=some ((),(dP xC E).map AL):=by
 refine nP (E:=G6) ?_;refine lz ?_;have hb:(lU E&&Nat.ble E.length 1073741824)=true:=by
  rw [Bool.and_eq_true];exact ⟨Jx hs,Nat.ble_eq_true_of_le (by omega)⟩
 have hp:dg 21 [(.row 10000),(.pv (.fn 22 []))] [(10000,(.row 51 2 (List.map aB.enc (E.map AL))))]=some (.e9 [],[(10000, .row 51 2 ((dP xB E).map gX.enc))]):=by
  simp only [dg,HG E hlt,hb,cond_true]
 show dg 21 [(.row 10000),(.pv (.fn 22 []))] [(10000,(.row 51 2 (List.map aB.enc (E.map AL))))]=some (G6 ((),(dP xC E).map AL));rw [hp,OA,P0,←List.map_map];rfl
theorem Jz {d:List af} (h:AI d=0):∀t∈d,t.aA.Nodup:=by
 unfold AI at h;split at h
 ·cases h
 split at h
 ·rename_i h1;exact absurd h h1
 split at h
 ·rename_i h1;exact absurd h h1
 rename_i h0 h1 h2;have FA:mY (cU d) d=0:=Classical.byContradiction h2;exact fun t ht=>((p9 _ d).1 FA t ht).2
theorem h14b {d:List af} (z:Sz d) (A:Acc d) (h64:d.length≤64) {F:List Nat} {i:Nat} {w:Nat} (hw:w<18446744073709551616) (D:Dn d w) (hout:∀c∈jr d,c≠w) {E:List rO} (hE:E.length≤1000) {r:R14.T} (hi:i≤1000)
  (hr:qb d (cI d) ((jr d).map e1) (F.map e1) (F.map e1).length (i+1:Nat) ((E++[(BS d w,w)]).map AL)=some r):∀(xs:List Nat) (k:Nat),(bitsOf w).drop k=xs→k≤64→
  wF d (cI d) ((jr d).map e1) (F.map e1) (F.map e1).length i (cast (bitsOf w)) (cast (bitsOf w)).length k (E.map AL) (aB.mk [] (e1 w)) (((bitsOf w).take k).map fun i=>(cI d).getD i [])=some r:=by
 have hal:=fq (d:=d);have rX:=sD w;intro xs
 induction xs with
 |nil=>
  intro k h hk;refine NY _ _ _ _ _ _ _ _ _ _ _ _ ?_;have e:(((bitsOf w).take k).map fun i=>(cI d).getD i [])=bn d w:=by rw [List.take_of_length_le (eG h)];rfl
  have hbnl:(bn d w).length≤64:=by unfold bn;simpa using rX
  have hml:=FT (d:=d) (l:=bn d w)
  rw [bS (yR h),cond_false,e,i46 z A (by omega) (CH D.lt) (MD D.lt),aj,aj,i45 _ (by omega) (fun x hx=>by
   obtain ⟨t,ht,rfl⟩:=List.mem_map.1 (CH D.lt x (FU hx))
   have:=Ia (A.name t ht);omega),aj,←Kq h64 D hout,eo _ (by simp;omega) (by simp) (by omega),cg (by omega)]
  rw [List.map_append] at hr;exact hr
 |cons j xs ih=>
  intro k h hk;refine NY _ _ _ _ _ _ _ _ _ _ _ _ ?_;have hlt:=cW h;have hj:j∈bitsOf w:=List.mem_of_getElem? (bU h);have hjl:=D.lt j (List.mem_filter.1 hj).2;have hd:(bitsOf w).take (k+1)=(bitsOf w).take k++[j]:=by
   rw [List.take_add_one,bU h];rfl
  have hg:(cI d)[j]? =some ((cI d).getD j []):=by
   rw [List.getD_eq_getElem?_getD,List.getElem?_eq_getElem hjl];rfl
  have:=ih (k+1) (bf h) (by omega);rw [hd,List.map_append] at this;rw [bR (iA h),cond_true,bW (iA h),jQ hg,eo _ (by simp;omega) (by simp) (by omega),bB (iA h) (by simp;omega)];exact this
theorem h14 {d:List af} (z:Sz d) (A:Acc d) (h64:d.length≤64) {F:List Nat} (hF:∀w∈F,w<18446744073709551616) (hD:∀w∈F,Dn d w) (h0:∀w∈F,w≠0) (hnd:F.Nodup) (hFl:F.length≤256):∀(xs:List Nat) (i:Nat),F.drop i=xs→i≤F.length→
  qb d (cI d) ((jr d).map e1) (F.map e1) (F.map e1).length i (((F.take i).map fun w=>((BS d w,w):rO)).map AL)=some ((dP xC (F.map fun w=>((BS d w,w):rO))).map AL,0):=by
 have hal:=fq (d:=d);have CY:=uk (d:=d);intro xs
 induction xs with
 |nil=>
  intro i h hi;refine NW _ _ _ _ _ _ _ ?_;have hm:(F.map e1).drop i=[]:=by rw [←List.map_drop,h];rfl
  rw [bS hm,cond_false,List.take_of_length_le (eG h),i47 (fun p hp=>by
   obtain ⟨w,hw,rfl⟩:=List.mem_map.1 hp
   exact hF w hw) (by simp;omega) (by
   rw [List.pairwise_map];refine List.Pairwise.imp_of_mem ?_ hnd;intro a b ha hb hab;rw [pg,pg];show (pc a>pc b∨pc a=pc b∧Op.bytesLess (BS d a) (BS d b)=true)∨(pc b>pc a∨pc b=pc a∧Op.bytesLess (BS d b) (BS d a)=true);by_cases h1:pc a=pc b
   ·have hne:BS d a≠BS d b:=fun e=>hab (Kp A h64 (hF a ha) (hF b hb) (h0 a ha) (h0 b hb) (hD a ha) (hD b hb) e)
    cases hb':Op.bytesLess (BS d a) (BS d b) with
    |true=>exact .inl (.inr ⟨h1,rfl⟩)
    |false=>exact .inr (.inr ⟨h1.symm,kX _ _ hb' hne⟩)
   ·rcases Nat.lt_or_gt_of_ne h1 with h2|h2
    ·exact .inr (.inl h2)
    ·exact .inl (.inl h2)),jo]
 |cons w xs ih=>
  intro i h hi;refine NW _ _ _ _ _ _ _ ?_;have hlt:=cW h;have hm:(F.map e1).drop i=e1 w::xs.map e1:=by rw [←List.map_drop,h];rfl
  have hwF:w∈F:=List.mem_of_getElem? (bU h);have hw:=hF w hwF;have hd:F.take (i+1)=F.take i++[w]:=by
   rw [List.take_add_one,bU h];rfl
  have hnext:=ih (i+1) (bf h) (by omega);rw [hd,List.map_append] at hnext;rw [bR hm,cond_true,bW hm,i42 (s6 h64) (by omega) hw,aj];by_cases hn:bX (fun c=>c==w) (jr d) 0<0
  ·have hout:∀c∈jr d,c≠w:=fun c hc=>by simpa using (C4 _ _ _).1 hn c hc
   rw [cond_neg (by simp;omega),i44 hw,aj];exact h14b z A h64 hw (hD w hwF) hout (by simp;omega) (by omega) hnext _ 0 rfl (by omega)
  ·obtain ⟨k,hk⟩:∃k:Nat,bX (fun c=>c==w) (jr d) 0=(k:Int):=⟨(bX (fun c=>c==w) (jr d) 0).toNat,by omega⟩
   obtain ⟨_,e⟩:=xF (d:=d) (cI d) (jr d) 0 [] k (by simp [jr]) hk;rw [Nat.sub_zero] at e;rw [hk,cond_pos (by simp),jQ e,eo _ (by simp;omega) (by simp) (by omega),bB hm (by simp;omega)];rw [List.map_append] at hnext;exact hnext
theorem i14s {d:List af} (z:Sz d) (h64:d.length≤64):f14 d=some (if AI d≠0 then ([],AI d) else if (qA (jr d)).length>256 then ([],7) else ((bz d).map AL,0)):=by
 have hl:=z.len;refine e14 _ ?_;rw [i39 z,aj];by_cases h0:AI d=0
 ·have A:=yH h0
  have BI:∀t∈d,t.aA.Nodup:=Jz h0;have hlen:(jr d).length≤256:=by have:=uk (d:=d);omega
  obtain ⟨F,_,_⟩:=ur (nN A) yV hlen;rw [if_neg (by simpa using h0),h0,cond_neg (by simp),i40 z A.nd BI h64,aj,i41 (s6 h64) (nN A) yV hlen,aj];by_cases h1:(qA (jr d)).length≤256
  ·rw [if_pos h1,if_neg (by omega),cond_neg (by simp)]
   have hD:∀w∈qA (jr d),Dn d w:=F.gen (Dn d) (fun c hc=>by
    obtain ⟨x,_,rfl⟩:=List.mem_map.1 hc
    exact JW x) (fun a b=>MS)
   exact h14 z A h64 (EA F (s6 h64)) hD F.nz F.nd h1 _ 0 rfl (by omega)
  ·rw [if_neg h1,if_pos (by omega),cond_pos (by simp)]
 ·rw [if_pos h0,cond_pos (by simpa using h0)]
end Go.Proofs.YtfoddgpndoeeaaaGreatDoor.cl
