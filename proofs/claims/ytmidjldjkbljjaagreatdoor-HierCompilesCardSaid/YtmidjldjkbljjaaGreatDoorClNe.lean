/- The Closure laws. -/
import Derived.Test.YtmidjldjkbljjaaGreatDoorClNd
import Derived.Test.YtmidjldjkbljjaaGreatDoorClL
set_option linter.unusedVariables false
set_option linter.unusedSimpArgs false
set_option linter.unusedSectionVars false
namespace Go.Proofs.YtmidjldjkbljjaaGreatDoor.cl
open Go Go.AM
theorem U8:∀(n w:Nat),0<w→w<2^ n→tz n w<n∧∃m,w=2^ (tz n w) *(2 *m+1):=by
 intro n
 induction n with
 |zero=>intro w h0 h1;simp at h1;omega
 |succ n ih=>
  intro w h0 h1;unfold tz;by_cases h:w % 2=1
  ·rw [show Nat.beq (w % 2) 1=true by rw [h];rfl,cond_true]
   exact ⟨by omega,w / 2,by rw [Nat.pow_zero,Nat.one_mul];omega⟩
  ·have h2:Nat.beq (w % 2) 1=false:=by
    have:w % 2=0:=by omega
    rw [this];rfl
   rw [h2,cond_false];rw [Nat.pow_succ] at h1;obtain ⟨a,m,e⟩:=ih (w / 2) (by omega) (by omega);refine ⟨by omega,m,?_⟩;rw [Nat.add_comm,Nat.pow_succ,Nat.mul_comm _ 2,Nat.mul_assoc,←e];omega
theorem AD {k m:Nat} (j:Nat):(2^ k *(2 *m+1)).testBit j=(decide (k≤j)&&(2 *m+1).testBit (j-k)):=by
 have:=Nat.testBit_two_pow_mul_add (2 *m+1) (Nat.two_pow_pos k) j;rw [Nat.add_zero] at this;rw [this];by_cases h:j<k
 ·rw [if_pos h];simp;omega
 ·rw [if_neg h];simp;omega
theorem yh {k m:Nat} (j:Nat):((2^ k *(2 *m+1))&&&(2^ k *(2 *m+1)-1)).testBit j=((2^ k *(2 *m+1)).testBit j&& !decide (j=k)):=by
 have hp:=Nat.two_pow_pos k;have e:2^ k *(2 *m+1)-1=2^ k *(2 *m)+(2^ k-1):=by
  rw [Nat.mul_add,Nat.mul_one];omega
 rw [Nat.testBit_and,AD,e,Nat.testBit_two_pow_mul_add _ (by omega)];by_cases h:k≤j
 ·rw [if_neg (by omega)]
  by_cases h2:j=k
  ·subst h2;simp
  ·obtain ⟨i,hi⟩:∃i,j-k=i+1:=⟨j-k-1,by omega⟩
   rw [hi,Nat.testBit_succ,Nat.testBit_succ];have e1:(2 *m+1) / 2=m:=by omega
   have e2:(2 *m) / 2=m:=by omega
   rw [e1,e2];simp [h2]
 ·simp [h]
theorem P7 {w:Nat} (h0:0<w) (hw:w<18446744073709551616):tz 64 w<64∧bitsOf w=tz 64 w::bitsOf (w&&&(w-1)):=by
 obtain ⟨h1,m,e⟩:=U8 64 w h0 (by omega);refine ⟨h1,?_⟩;generalize tz 64 w=k at h1 e;subst e;unfold bitsOf;have hr:List.range 64=List.range k++k::(List.range (63-k)).map (· +(k+1)):=by
  have h3:=List.range_add (n:=k+1) (m:=63-k);rw [show k+1+(63-k)=64 by omega] at h3;rw [h3,List.range_succ];simp [Nat.add_comm]
 have hl:∀(p:Nat→Bool),(∀j,j<k→p j=false)→(List.range k).filter p=[]:=by
  intro p hp;rw [List.filter_eq_nil_iff];intro j hj;rw [hp j (List.mem_range.1 hj)];simp
 rw [hr,List.filter_append,List.filter_append,hl _ (fun j hj=>by rw [AD];simp;omega),hl _ (fun j hj=>by rw [yh,AD];simp;omega),List.filter_cons,List.filter_cons];rw [if_pos (by rw [AD];simp),if_neg (by rw [yh];simp),List.nil_append,List.nil_append]
 congr 1
 apply List.filter_congr;intro j hj;obtain ⟨i,_,rfl⟩:=List.mem_map.1 hj;rw [yh];have:decide (i+(k+1)=k)=false:=by rw [decide_eq_false_iff_not];omega
 rw [this];simp
theorem uy (w:Nat):(bitsOf w).length≤64:=by
 have:=List.length_filter_le w.testBit (List.range 64);simpa [bitsOf] using this
theorem i86 {w:Nat} (hw:w<18446744073709551616):f86 (w:Int)=some ((tz 64 w:Nat):Int):=by
 refine sC ?_;refine oZ ?_;have hb:Nat.blt w 18446744073709551616=true:=Nat.ble_eq_true_of_le hw;show (bif Nat.blt w 18446744073709551616 then some (AV.int .i64 (tz 64 w:Nat),[]) else none)=_;rw [hb];rfl
theorem h44 {W0:Nat} (hW:W0<18446744073709551616) {r:List Int}:∀(w:Nat),w<18446744073709551616→∀(o:List Nat),o.length+(bitsOf w).length≤64→Jt [(W0:Int)] 1 1 (cast (o++bitsOf w))=some r→Ju 0 w [(W0:Int)] 1 0 (cast o)=some r:=by
 intro w
 induction w using Nat.strongRecOn with
 |_ w ih=>
  intro hw o ho hr;refine k44_5 _ _ _ _ _ _ ?_;by_cases h0:w=0
  ·subst h0
   have e0:bitsOf 0=[]:=by simp [bitsOf]
   rw [e0,List.append_nil] at hr;rw [cond_neg (by decide)];exact hr
  ·obtain ⟨h1,e⟩:=P7 (by omega) hw
   have e1:IntKind.wrap .i64 (IntKind.wrap .i64 (64 *0)+((tz 64 w:Nat):Int))=((tz 64 w:Nat):Int):=by
    rw [show IntKind.wrap .i64 (64 *0)=0 from rfl,Int.zero_add,eC (by omega) (by omega)]
   have e2:IntKind.wrap .u64 ((w:Int)-1)=((w-1:Nat):Int):=by
    rw [show (w:Int)-1=((w-1:Nat):Int) by omega,kg (by omega)]
   have e3:IntKind.wrap .u64 ((BitVec.ofInt (IntKind.bits .u64) (w:Int)&&&BitVec.ofInt (IntKind.bits .u64) ((w-1:Nat):Int)).toNat:Int)=((w&&&(w-1):Nat):Int):=tO hw (by omega);have hlt:w&&&(w-1)<w:=Nat.lt_of_le_of_lt Nat.and_le_right (by omega);rw [e] at ho hr;simp only [List.length_cons] at ho;rw [cond_pos (by simp;omega),i86 hw,ah,e1,e2,e3,cg _ (by simp;omega) (by simp) (by omega)];have:=ih (w&&&(w-1)) hlt (by omega) (o++[tz 64 w]) (by simp;omega) (by rw [List.append_assoc];exact hr);rw [show cast (o++[tz 64 w])=cast o++[((tz 64 w:Nat):Int)] from List.map_append] at this;exact this
theorem i44 {w:Nat} (hw:w<18446744073709551616):f44 (e1 w)=some (cast (bitsOf w)):=by
 refine e44 _ ?_;by_cases h0:w=0
 ·subst h0
  have e0:bitsOf 0=[]:=by simp [bitsOf]
  rw [e0,show e1 0=[] from rfl];refine SP _ _ _ _ ?_;rw [cond_neg (by decide)];rfl
 ·have hl:e1 w=[(w:Int)]:=by simp [e1,h0]
  rw [hl];refine SP _ _ _ _ ?_;rw [cond_pos (by simp),show (0:Int)=((0:Nat):Int) from rfl,dQ (x:=(w:Int)) (by simp)];refine h44 hw w hw [] (by have:=uy w;simp;omega) ?_;refine SP _ _ _ _ ?_;rw [cond_neg (by simp)];rfl
theorem i43 {w v:Nat} (hw:w<18446744073709551616) (hv:v<18446744073709551616):f43 (e1 w) (e1 v)=some (w==v):=by
 refine e43 _ _ ?_;have h1:=dI w;have h2:=dI v;rw [c31 _ _ (by omega) (by omega),yQ (zj hv) (zj hw),oR,oR,ah]
 congr 1
 rw [Bool.eq_iff_iff,decide_eq_true_iff,beq_iff_eq];exact ⟨fun h=>(Fl h).symm,fun h=>by rw [h]⟩
theorem h42 {cs:List Nat} (hcs:∀c∈cs,c<18446744073709551616) (hlen:cs.length≤1048576) {w:Nat} (hw:w<18446744073709551616):∀(xs:List Nat) (i:Nat),cs.drop i=xs→Js (e1 w) (cs.map e1) (cs.map e1).length i=some (bI (fun c=>c==w) xs i):=by
 intro xs
 induction xs with
 |nil=>
  intro i h;refine VT _ _ _ _ ?_;have hm:(cs.map e1).drop i=[]:=by rw [←List.map_drop,h];rfl
  rw [aP hm];rfl
 |cons x xs ih=>
  intro i h;refine VT _ _ _ _ ?_;have hm:(cs.map e1).drop i=e1 x::xs.map e1:=by rw [←List.map_drop,h];rfl
  rw [aU hm,cond_true,aL hm,i43 (hcs x (List.mem_of_getElem? (aW h))) hw,ah,aM hm (by simp;omega),ih (i+1) (az h),bI];cases x==w<;>rfl
theorem i42 {cs:List Nat} (hcs:∀c∈cs,c<18446744073709551616) (hlen:cs.length≤1048576) {w:Nat} (hw:w<18446744073709551616):f42 (cs.map e1) (e1 w)=some (bI (fun c=>c==w) cs 0):=e42 _ _ (h42 hcs hlen hw cs 0 rfl)
theorem FG (l:List aT) {n:Nat} (h:∀x∈l,x.length≤n):(jg [38] l).length≤(n+1) *l.length:=by
 cases l with
 |nil=>simp [jg]
 |cons x l=>
  rw [qX];have key:∀l:List aT,(∀x∈l,x.length≤n)→(jj l).length≤(n+1) *l.length:=by
   intro l
   induction l with
   |nil=>intro _;simp [jj]
   |cons y l ih=>
    intro h;have h1:=h y (by simp);have h2:=ih fun z hz=>h z (by simp [hz])
    have e:jj (y::l)=38::(y++jj l):=by simp [jj]
    rw [e];simp only [List.length_cons,List.length_append,Nat.mul_add,Nat.mul_one];omega
  have h1:=h x (by simp);have h2:=key l fun z hz=>h z (by simp [hz])
  simp only [List.length_cons,List.length_append,Nat.mul_add,Nat.mul_one];omega
theorem i45 (l:List aT) (hl:l.length≤1048576) (hx:∀x∈l,x.length≤1000):f45 l [38]=some (jg [38] l):=by
 refine sC ?_;refine oZ ?_;have h0:=FG l hx;have hb:(Nat.ble (jg [38] l).length 140737488355328&&Nat.ble l.length 140737488355328)=true:=by
  rw [Bool.and_eq_true];exact ⟨Nat.ble_eq_true_of_le (by omega),Nat.ble_eq_true_of_le (by omega)⟩
 simp only [dg,Ey,Jp,hb,cond_true];rfl
noncomputable def bn (d:List af) (w:Nat):List aT:=(bitsOf w).map fun i=>(cH d).getD i []
noncomputable def Eo (d:List af) (w:Nat):aT:=sW d (cH d) (fI d) w
theorem zO {d:List af} {w:Nat}:∀(ss:List aT) (cs:List Nat) (i:Nat) (acc:List aT) (k:Nat),ss.length=cs.length→bI (fun c=>c==w) cs i=(k:Int)→i≤k∧ss[k-i]? =some (eT d w ss cs i acc):=by
 intro ss
 induction ss with
 |nil=>
  intro cs i acc k hl h;have:cs=[]:=List.length_eq_zero_iff.1 hl.symm;subst this;have h':(-1:Int)=(k:Int):=h;omega
 |cons s ss ih=>
  intro cs i acc k hl h;cases cs with
  |nil=>simp at hl
  |cons c cs=>
   rw [bI] at h;simp only [eT];by_cases e:c=w
   ·subst e
    rw [show (c==c)=true by simp,if_pos rfl] at h;obtain rfl:i=k:=by omega
    simp
   ·rw [show (c==w)=false by simpa using e,if_neg (by simp)] at h
    rw [if_neg e];obtain ⟨h1,h2⟩:=ih cs (i+1) (if w.testBit i=true then acc++[s] else acc) k (by simpa using hl) h;refine ⟨by omega,?_⟩;rw [show k-i=(k-(i+1))+1 by omega,List.getElem?_cons_succ];exact h2
theorem FP {d:List af} {w:Nat}:∀(ss:List aT) (cs:List Nat) (i:Nat) (acc:List aT),ss.length=cs.length→(∀c∈cs,c≠w)→eT d w ss cs i acc=jg [38] (kN d (acc++((List.range ss.length).filter fun j=>w.testBit (i+j)).map fun j=>ss.getD j [])):=by
 intro ss
 induction ss with
 |nil=>
  intro cs i acc hl h;cases cs<;>simp [eT]
 |cons s ss ih=>
  intro cs i acc hl h;cases cs with
  |nil=>simp at hl
  |cons c cs=>
   simp only [eT];rw [if_neg (h c (by simp)),ih cs (i+1) _ (by simpa using hl) fun c hc=>h c (by simp [hc])]
   congr 2
   rw [List.length_cons,List.range_succ_eq_map,List.filter_cons,List.filter_map,Nat.add_zero];have e:((List.range ss.length).filter ((fun j=>w.testBit (i+j))∘Nat.succ)).map ((fun j=>(s::ss).getD j [])∘Nat.succ)=((List.range ss.length).filter fun j=>w.testBit (i+1+j)).map fun j=>ss.getD j []:=by
    have e1:((fun j=>w.testBit (i+j))∘Nat.succ)=fun j=>w.testBit (i+1+j):=by
     funext j;simp only [Function.comp];congr 1;omega
    have e2:((fun j=>(s::ss).getD j [])∘Nat.succ)=fun j=>ss.getD j []:=by
     funext j;simp
    rw [e1,e2]
   cases hb:w.testBit i with
   |true=>simp only [if_true,List.map_cons,List.map_map,e];simp
   |false=>simp only [Bool.false_eq_true,if_false,List.map_map,e]
theorem Fb {w n:Nat} (hn:n≤64) (h:∀i,w.testBit i=true→i<n):bitsOf w=(List.range n).filter w.testBit:=by
 unfold bitsOf;have h3:=List.range_add (n:=n) (m:=64-n);rw [show n+(64-n)=64 by omega] at h3;rw [h3,List.filter_append];have:List.filter w.testBit (List.map (n+ ·) (List.range (64-n)))=[]:=by
  rw [List.filter_eq_nil_iff];intro j hj hc;obtain ⟨i,_,rfl⟩:=List.mem_map.1 hj;have:=h _ hc;omega
 rw [this,List.append_nil]
structure Dn (d:List af) (w:Nat):Prop where
 lt:∀i,w.testBit i=true→i<(cH d).length
 dn:∀i j,i<(cH d).length→j<(cH d).length→w.testBit i=true→Le d ((cH d).getD i []) ((cH d).getD j [])→w.testBit j=true
theorem ME {d:List af} (x:aT):Dn d (cw d (cH d) x):=
 ⟨fun i h=>(pQ.1 h).1,fun i j hi hj h hl=>pQ.2 ⟨hj,Ae.trans (pQ.1 h).2 hl⟩⟩
theorem Qr {d:List af} {a b:Nat} (ha:Dn d a) (hb:Dn d b):Dn d (a&&&b):=by
 refine ⟨fun i h=> ?_,fun i j hi hj h hl=> ?_⟩
 ·rw [Nat.testBit_and,Bool.and_eq_true] at h;exact ha.lt i h.1
 ·rw [Nat.testBit_and,Bool.and_eq_true] at h⊢
  exact ⟨ha.dn i j hi hj h.1 hl,hb.dn i j hi hj h.2 hl⟩
theorem q8 {w i:Nat} (hw:w<18446744073709551616):i∈bitsOf w↔w.testBit i=true:=by
 unfold bitsOf;rw [List.mem_filter,List.mem_range];refine ⟨fun h=>h.2,fun h=>⟨?_,h⟩⟩;apply Classical.byContradiction;intro hc;rw [Nat.testBit_lt_two_pow (Nat.lt_of_lt_of_le hw (Nat.pow_le_pow_right (n:=2) (i:=64) (j:=i) (by omega) (by omega)))] at h;cases h
theorem Qe {d:List af} {w:Nat} (h:∀i,w.testBit i=true→i<(cH d).length):SS (bn d w):=by
 have hs:=List.pairwise_iff_getElem.1 (cT (cO d));unfold bn SS;rw [List.pairwise_map];have hr:(bitsOf w).Pairwise (· < ·):=(List.pairwise_lt_range (n:=64)).sublist List.filter_sublist;refine hr.imp_of_mem ?_;intro a b ha hb hab;have ha':=h a (List.mem_filter.1 ha).2;have hb':=h b (List.mem_filter.1 hb).2;have:=hs a b ha' hb' hab;rw [List.getD_eq_getElem?_getD,List.getD_eq_getElem?_getD,List.getElem?_eq_getElem ha',List.getElem?_eq_getElem hb'];exact this
theorem Fc {d:List af} {w:Nat} (h:∀i,w.testBit i=true→i<(cH d).length):∀x∈bn d w,x∈cO d:=by
 intro x hx;obtain ⟨i,hi,rfl⟩:=List.mem_map.1 hx;exact H6 (h i (List.mem_filter.1 hi).2)
theorem AG {d:List af} {w:Nat} (h:∀i,w.testBit i=true→i<(cH d).length):kN d (bn d w)=(bn d w).filter (gQ d (bn d w)):=by
 have hf:(bn d w).filter (fun s=>decide (s∈cO d))=bn d w:=List.filter_eq_self.2 fun x hx=>by simpa using Fc h x hx
 have hs:fo (bn d w)=bn d w:=SS.ext (cT _) (Qe h) fun y=>cL
 simp only [kN,hf,hs]
theorem nq {d:List af} {l:List aT} {x:aT}:gQ d l x=true↔∀y∈l,Le d y x→y=x:=by
 unfold gQ;rw [List.all_eq_true];constructor
 ·intro h y hy hl
  have:=h y hy;simp only [Bool.or_eq_true,decide_eq_true_eq,Bool.not_eq_true',decide_eq_false_iff_not] at this;rcases this with h|h
  ·exact h
  ·exact absurd hl h
 ·intro h y hy
  simp only [Bool.or_eq_true,decide_eq_true_eq,Bool.not_eq_true',decide_eq_false_iff_not];by_cases hl:Le d y x
  ·exact .inl (h y hy hl)
  ·exact .inr hl
theorem yq {d:List af} (A:Acc d) {l:List aT}:∀x∈l,∃m∈l.filter (gQ d l),Le d m x:=by
 obtain ⟨r,hr⟩:=A.rk;have key:∀(n:Nat) (x:aT),r x=n→x∈l→∃m∈l.filter (gQ d l),Le d m x:=by
  intro n
  induction n using Nat.strongRecOn with
  |_ n ih=>
   intro x e hx;by_cases hf:gQ d l x=true
   ·exact ⟨x,List.mem_filter.2 ⟨hx,hf⟩, .refl⟩
   ·rw [nq] at hf
    obtain ⟨y,hy⟩:=Classical.not_forall.1 hf;obtain ⟨hy1,hy2⟩:=Classical.not_imp.1 hy;obtain ⟨hy3,hy4⟩:=Classical.not_imp.1 hy2;have:r y<r x:=by
     rcases FK hr hy3 with h|h
     ·exact absurd h hy4
     ·exact h
    obtain ⟨m,hm,hl⟩:=ih (r y) (by omega) y rfl hy1;exact ⟨m,hm,Ae.trans hl hy3⟩
 exact fun x hx=>key _ x rfl hx
theorem J7 {d:List af} {w:Nat} (hw:w<18446744073709551616) (D:Dn d w) {i:Nat} (hi:i<(cH d).length):w.testBit i=true↔(cH d).getD i []∈bn d w:=by
 unfold bn;rw [List.mem_map];constructor
 ·intro h;exact ⟨i,(q8 hw).2 h,rfl⟩
 ·rintro ⟨j,hj,e⟩
  have hj':=(q8 hw).1 hj;have hjl:=D.lt j hj';rw [List.getD_eq_getElem?_getD,List.getD_eq_getElem?_getD,List.getElem?_eq_getElem hi,List.getElem?_eq_getElem hjl] at e;have:=(List.getElem_inj (cT (cO d)).nodup).1 e;rw [←this];exact hj'
theorem Ta {d:List af} (A:Acc d) {w v:Nat} (hw:w<18446744073709551616) (hv:v<18446744073709551616) (Dw:Dn d w) (Dv:Dn d v) (h:kN d (bn d w)=kN d (bn d v)):w=v:=by
 have key:∀{w v:Nat},w<18446744073709551616→v<18446744073709551616→Dn d w→Dn d v→kN d (bn d w)=kN d (bn d v)→∀i,w.testBit i=true→v.testBit i=true:=by
  intro w v hw hv Dw Dv h i hi;have hil:=Dw.lt i hi;obtain ⟨m,hm,hl⟩:=yq A _ ((J7 hw Dw hil).1 hi);rw [←AG Dw.lt,h,AG Dv.lt] at hm;have mK:=(List.mem_filter.1 hm).1;obtain ⟨j,hj,rfl⟩:=List.mem_map.1 mK;have hj':=(q8 hv).1 hj;exact Dv.dn j i (Dv.lt j hj') hil hj' hl
 apply Nat.eq_of_testBit_eq;intro i;rw [Bool.eq_iff_iff];exact ⟨key hw hv Dw Dv h i,key hv hw Dv Dw h.symm i⟩
theorem Ns {d:List af} (A:Acc d) (h64:d.length≤64) {x:aT} (hx:x∈cO d):kN d (bn d (cw d (cH d) x))=[x]:=by
 have hal:=eY (d:=d);have hw:cw d (cH d) x<18446744073709551616:=Qp (by omega);have D:=ME (d:=d) x;rw [AG D.lt];have hmem:∀y,y∈(bn d (cw d (cH d) x)).filter (gQ d (bn d (cw d (cH d) x)))↔y∈[x]:=by
  intro y;have hx':x∈bn d (cw d (cH d) x):=by
   obtain ⟨i,hi,e⟩:=FD hx;have h:=(J7 hw D hi).1 (pQ.2 ⟨hi,by rw [e];exact .refl⟩);rw [e] at h;exact h
  have hle:∀z∈bn d (cw d (cH d) x),Le d x z:=by
   intro z hz;obtain ⟨j,hj,rfl⟩:=List.mem_map.1 hz;exact (pQ.1 ((q8 hw).1 hj)).2
  rw [List.mem_filter,nq,List.mem_singleton];constructor
  ·rintro ⟨h1,h2⟩
   exact (h2 x hx' (hle y h1)).symm
  ·rintro rfl
   exact ⟨hx',fun z hz hl=>le_antisymm A hl (hle z hz)⟩
 refine SS.ext ?_ (by simp [SS]) hmem;exact (Qe D.lt).sublist List.filter_sublist
theorem Ix {s:aT} (h:isName s=true):(38:UInt8)∉s:=by
 unfold isName at h;simp only [Bool.and_eq_true] at h;intro hm;have:=List.all_eq_true.1 h.2 _ hm;revert this;simp [dN,lowerB]
theorem Vk:∀{x x' t t':aT},(38:UInt8)∉x→(38:UInt8)∉x'→(t=[]∨∃u,t=38::u)→(t'=[]∨∃u,t'=38::u)→x++t=x'++t'→x=x'∧t=t':=by
 intro x
 induction x with
 |nil=>
  intro x' t t' h1 h2 h3 h4 h;cases x' with
  |nil=>exact ⟨rfl,by simpa using h⟩
  |cons c x'=>
   rcases h3 with rfl|⟨u,rfl⟩
   ·simp at h
   ·simp only [List.nil_append,List.cons_append,List.cons.injEq] at h
    exact absurd (h.1▸List.mem_cons_self) h2
 |cons c x ih=>
  intro x' t t' h1 h2 h3 h4 h;cases x' with
  |nil=>
   rcases h4 with rfl|⟨u,rfl⟩
   ·simp at h
   ·simp only [List.nil_append,List.cons_append,List.cons.injEq] at h
    exact absurd (h.1▸List.mem_cons_self) h1
  |cons c' x'=>
   simp only [List.cons_append,List.cons.injEq] at h;simp only [List.mem_cons,not_or] at h1 h2;obtain ⟨a,b⟩:=ih h1.2 h2.2 h3 h4 h.2;exact ⟨by rw [h.1,a],b⟩
theorem xH (l:List aT):jj l=[]∨∃u,jj l=38::u:=by
 cases l with
 |nil=>exact .inl rfl
 |cons x l=>exact .inr ⟨x++jj l,by simp [jj]⟩
theorem Pq:∀{l l':List aT},(∀x∈l,(38:UInt8)∉x)→(∀x∈l',(38:UInt8)∉x)→jj l=jj l'→l=l':=by
 intro l
 induction l with
 |nil=>
  intro l' _ _ h;cases l' with
  |nil=>rfl
  |cons x l'=>simp [jj] at h
 |cons x l ih=>
  intro l' h1 h2 h;cases l' with
  |nil=>simp [jj] at h
  |cons x' l'=>
   have e:∀(y:aT) (m:List aT),jj (y::m)=38::(y++jj m):=fun y m=>by simp [jj]
   rw [e,e,List.cons.injEq] at h;obtain ⟨a,b⟩:=Vk (h1 x (by simp)) (h2 x' (by simp)) (xH l) (xH l') h.2;rw [a,ih (fun y hy=>h1 y (by simp [hy])) (fun y hy=>h2 y (by simp [hy])) b]
theorem OU {l l':List aT} (hl:l≠[]) (hl':l'≠[]) (h1:∀x∈l,(38:UInt8)∉x) (h2:∀x∈l',(38:UInt8)∉x) (h:jg [38] l=jg [38] l'):l=l':=by
 cases l with
 |nil=>exact absurd rfl hl
 |cons x l=>
  cases l' with
  |nil=>exact absurd rfl hl'
  |cons x' l'=>
   rw [qX,qX] at h;obtain ⟨a,b⟩:=Vk (h1 x (by simp)) (h2 x' (by simp)) (xH l) (xH l') h;rw [a,Pq (fun y hy=>h1 y (by simp [hy])) (fun y hy=>h2 y (by simp [hy])) b]
theorem QW {d:List af} {i:Nat} (hi:i<(cH d).length):(fI d)[i]? =some (cw d (cH d) ((cH d).getD i [])):=by
 unfold fI;rw [List.getElem?_map,List.getD_eq_getElem?_getD,List.getElem?_eq_getElem hi];rfl
theorem RE {α:Type} (p:α→Bool):∀(xs:List α) (i k:Nat),bI p xs i=(k:Int)→i≤k∧∃x,xs[k-i]? =some x∧p x=true:=by
 intro xs
 induction xs with
 |nil=>intro i k h;have h':(-1:Int)=(k:Int):=h;omega
 |cons x xs ih=>
  intro i k h;rw [bI] at h;cases hp:p x with
  |true=>
   rw [hp,if_pos rfl] at h;obtain rfl:i=k:=by omega
   exact ⟨Nat.le_refl _,x,by simp,hp⟩
  |false=>
   rw [hp,if_neg (by simp)] at h;obtain ⟨h1,y,h2,h3⟩:=ih (i+1) k h;refine ⟨by omega,y,?_,h3⟩;rw [show k-i=(k-(i+1))+1 by omega,List.getElem?_cons_succ];exact h2
theorem Nz {d:List af} (h64:d.length≤64) {w:Nat} (D:Dn d w) (h:∀c∈fI d,c≠w):Eo d w=jg [38] (kN d (bn d w)):=by
 have hal:=eY (d:=d);unfold Eo sW;rw [FP _ _ _ _ (by simp [fI]) h,List.nil_append,bn,Fb (n:=(cH d).length) (by omega) D.lt]
 congr 4
 funext j
 rw [Nat.zero_add]
theorem LL {d:List af} (A:Acc d) (h64:d.length≤64) {w:Nat} (D:Dn d w):Eo d w=jg [38] (kN d (bn d w)):=by
 by_cases h:∀c∈fI d,c≠w
 ·exact Nz h64 D h
 ·have vG:¬bI (fun c=>c==w) (fI d) 0<0:=by
   rw [Bs];intro hc;exact h fun c hcm=>by simpa using hc c hcm
  obtain ⟨k,hk⟩:∃k:Nat,bI (fun c=>c==w) (fI d) 0=(k:Int):=⟨(bI (fun c=>c==w) (fI d) 0).toNat,by omega⟩
  obtain ⟨_,e⟩:=zO (d:=d) (cH d) (fI d) 0 [] k (by simp [fI]) hk;obtain ⟨_,c,e2,e3⟩:=RE _ _ _ _ hk;rw [Nat.sub_zero] at e e2;have YK:=(List.getElem?_eq_some_iff.1 e).1;rw [QW YK] at e2;have e4:cw d (cH d) ((cH d).getD k [])=w:=by
   rw [←(beq_iff_eq.1 e3)];exact Option.some.inj e2
  have e5:(cH d).getD k []=Eo d w:=by
   rw [List.getD_eq_getElem?_getD,e];rfl
  rw [e5] at e4;have hx:Eo d w∈cO d:=by rw [←e5];exact H6 YK
  have:=Ns A h64 hx;rw [e4] at this;rw [this];rfl
theorem Ny {d:List af} (A:Acc d) (h64:d.length≤64) {w v:Nat} (hw:w<18446744073709551616) (hv:v<18446744073709551616) (hw0:w≠0) (hv0:v≠0) (Dw:Dn d w) (Dv:Dn d v) (h:Eo d w=Eo d v):w=v:=by
 rw [LL A h64 Dw,LL A h64 Dv] at h;have ne:∀{w:Nat},w<18446744073709551616→w≠0→Dn d w→kN d (bn d w)≠[]:=by
  intro w hw h0 D hc;obtain ⟨i,hi⟩:=Nat.exists_testBit_of_ne_zero h0;obtain ⟨m,hm,_⟩:=yq A _ ((J7 hw D (D.lt i hi)).1 hi);rw [←AG D.lt,hc] at hm;cases hm
 have fr:∀{w:Nat},Dn d w→∀x∈kN d (bn d w),(38:UInt8)∉x:=by
  intro w D x hx;obtain ⟨t,ht,rfl⟩:=List.mem_map.1 (Fc D.lt x (BJ hx));exact Ix (A.name t ht)
 exact Ta A hw hv Dw Dv (OU (ne hw hw0 Dw) (ne hv hv0 Dv) (fr Dw) (fr Dv) h)
theorem Px {w:Nat} (hw:w<18446744073709551616):CW ((e1 w).map (aB .u64))=some w:=by
 unfold e1;by_cases h0:w=0
 ·rw [if_pos h0,h0];rfl
 ·rw [if_neg h0]
  have hb:Nat.blt w 18446744073709551616=true:=Nat.ble_eq_true_of_le hw;have hb':Nat.blt 0 w=true:=Nat.ble_eq_true_of_le (by omega);show (bif Nat.blt 0 w&&Nat.blt w 18446744073709551616 then some w else none)=_;rw [hb,hb'];rfl
theorem Ko:∀(E:List vF),(∀p∈E,p.2<18446744073709551616)→u5 ((E.map qJ).map aq.enc)=some E:=by
 intro E
 induction E with
 |nil=>intro _;rfl
 |cons p E ih=>
  intro h;have hp:=h p (by simp);have KN:=ih fun q hq=>h q (by simp [hq])
  have e:aq.enc (qJ p)=[.str p.1, .cm 1 ((e1 p.2).map (aB .u64))]:=rfl;rw [List.map_cons,List.map_cons,e]
  show (match CW ((e1 p.2).map (aB .u64)),u5 ((E.map qJ).map aq.enc) with
   |some w,some r=>some ((p.1,w)::r)
   |_,_=>none)=_
  rw [Px hp,KN]
theorem Oi:∀(n w:Nat),c4 n w=((List.range n).filter w.testBit).length:=by
 intro n
 induction n with
 |zero=>intro w;rfl
 |succ n ih=>
  intro w;rw [c4,ih,List.range_succ_eq_map,List.filter_cons,List.filter_map];have e1:(w.testBit∘Nat.succ)=(w / 2).testBit:=by
   funext j;simp only [Function.comp];rw [Nat.testBit_succ]
  rw [e1];by_cases h:w % 2=1
  ·rw [if_pos (by rw [Nat.testBit_zero];simpa using h),h];simp;omega
  ·rw [if_neg (by rw [Nat.testBit_zero];simpa using h),show w % 2=0 by omega];simp
theorem A8 (w:Nat):c4 64 w=pc w:=Oi 64 w
theorem S7:zK=oO:=by
 funext p q
 unfold zK oO;rw [A8,A8];have e1:Nat.blt (pc q.2) (pc p.2)=decide (pc p.2>pc q.2):=by
  rw [Bool.eq_iff_iff,decide_eq_true_iff];exact ⟨Nat.le_of_ble_eq_true,Nat.ble_eq_true_of_le⟩
 have e2:Nat.beq (pc p.2) (pc q.2)=decide (pc p.2=pc q.2):=by
  rw [Bool.eq_iff_iff,decide_eq_true_iff];exact ⟨Nat.eq_of_beq_eq_true,fun h=>by rw [h];exact Nat.beq_refl _⟩
 rw [e1,e2]
theorem L7:∀{E:List vF},E.Pairwise (fun p q=>oO p q=true∨oO q p=true)→ni E=true:=by
 intro E
 induction E with
 |nil=>intro _;rfl
 |cons p E ih=>
  intro h;rw [List.pairwise_cons] at h;unfold ni;rw [Bool.and_eq_true];refine ⟨?_,ih h.2⟩;rw [List.all_eq_true];intro q hq;rw [S7,Bool.or_eq_true];exact h.1 q hq
theorem Uj:iC.enc=(aq.enc∘qJ):=by
 funext p
 show [AV.str p.1,AV.cm 1 (bif Nat.beq p.2 0 then [] else [[.int .u64 (p.2:Int)]])]=[AV.str p.1,AV.cm 1 ((e1 p.2).map (aB .u64))]
 unfold e1;by_cases h0:p.2=0
 ·rw [if_pos h0,h0];rfl
 ·have hb:Nat.beq p.2 0=false:=by
   cases hc:Nat.beq p.2 0 with
   |false=>rfl
   |true=>exact absurd (Nat.eq_of_beq_eq_true hc) h0
  rw [if_neg h0,hb];rfl
theorem i47 {E:List vF} (hlt:∀p∈E,p.2<18446744073709551616) (hlen:E.length≤1048576) (hs:E.Pairwise (fun p q=>oO p q=true∨oO q p=true)):f47 (E.map qJ)=some ((),(eA oO E).map qJ):=by
 refine sC (E:=JU) ?_;refine oZ ?_;have hb:(ni E&&Nat.ble E.length 1073741824)=true:=by
  rw [Bool.and_eq_true];exact ⟨L7 hs,Nat.ble_eq_true_of_le (by omega)⟩
 have hp:dg 89 [(.row 10000),(.pv (.fn 90 []))] [(10000,(.row 108 2 (List.map aq.enc (E.map qJ))))]=some (.fG [],[(10000, .row 108 2 ((eA zK E).map iC.enc))]):=by
  simp only [dg,Ko E hlt,hb,cond_true]
 show dg 89 [(.row 10000),(.pv (.fn 90 []))] [(10000,(.row 108 2 (List.map aq.enc (E.map qJ))))]=some (JU ((),(eA oO E).map qJ));rw [hp,S7,Uj,←List.map_map];rfl
theorem Mb {d:List af} (h:tP d=0):∀t∈d,t.aD.Nodup:=by
 unfold tP at h;split at h
 ·cases h
 split at h
 ·rename_i h1;exact absurd h h1
 split at h
 ·rename_i h1;exact absurd h h1
 rename_i h0 h1 h2;have Df:kZ (cO d) d=0:=Classical.byContradiction h2;exact fun t ht=>((jX _ d).1 Df t ht).2
theorem h14b {d:List af} (z:Sz d) (A:Acc d) (h64:d.length≤64) {F:List Nat} {i:Nat} {w:Nat} (hw:w<18446744073709551616) (D:Dn d w) (hout:∀c∈fI d,c≠w) {E:List vF} (hE:E.length≤1000) {r:R14.T} (hi:i≤1000)
  (hr:rL d (cH d) ((fI d).map e1) (F.map e1) (F.map e1).length (i+1:Nat) ((E++[(Eo d w,w)]).map qJ)=some r):∀(xs:List Nat) (k:Nat),(bitsOf w).drop k=xs→k≤64→
  yY d (cH d) ((fI d).map e1) (F.map e1) (F.map e1).length i (cast (bitsOf w)) (cast (bitsOf w)).length k (E.map qJ) (aq.mk [] (e1 w)) (((bitsOf w).take k).map fun i=>(cH d).getD i [])=some r:=by
 have hal:=eY (d:=d);have tV:=uy w;intro xs
 induction xs with
 |nil=>
  intro k h hk;refine RX _ _ _ _ _ _ _ _ _ _ _ _ ?_;have e:(((bitsOf w).take k).map fun i=>(cH d).getD i [])=bn d w:=by rw [List.take_of_length_le (dM h)];rfl
  have hbnl:(bn d w).length≤64:=by unfold bn;simpa using tV
  have hml:=zM (d:=d) (l:=bn d w)
  rw [aP (nG h),cond_false,e,i46 z A (by omega) (Fc D.lt) (Qe D.lt),ah,ah,i45 _ (by omega) (fun x hx=>by
   obtain ⟨t,ht,rfl⟩:=List.mem_map.1 (Fc D.lt x (BJ hx))
   have:=Bq (A.name t ht);omega),ah,←Nz h64 D hout,cg _ (by simp;omega) (by simp) (by omega),bh (by omega)]
  rw [List.map_append] at hr;exact hr
 |cons j xs ih=>
  intro k h hk;refine RX _ _ _ _ _ _ _ _ _ _ _ _ ?_;have hlt:=bL h;have hj:j∈bitsOf w:=List.mem_of_getElem? (aW h);have hjl:=D.lt j (List.mem_filter.1 hj).2;have hd:(bitsOf w).take (k+1)=(bitsOf w).take k++[j]:=by
   rw [List.take_add_one,aW h];rfl
  have hg:(cH d)[j]? =some ((cH d).getD j []):=by
   rw [List.getD_eq_getElem?_getD,List.getElem?_eq_getElem hjl];rfl
  have:=ih (k+1) (az h) (by omega);rw [hd,List.map_append] at this;rw [aU (dw h),cond_true,aL (dw h),dQ hg,cg _ (by simp;omega) (by simp) (by omega),aM (dw h) (by simp;omega)];exact this
theorem h14 {d:List af} (z:Sz d) (A:Acc d) (h64:d.length≤64) {F:List Nat} (hF:∀w∈F,w<18446744073709551616) (hD:∀w∈F,Dn d w) (h0:∀w∈F,w≠0) (kq:F.Nodup) (hFl:F.length≤256):∀(xs:List Nat) (i:Nat),F.drop i=xs→i≤F.length→
  rL d (cH d) ((fI d).map e1) (F.map e1) (F.map e1).length i (((F.take i).map fun w=>((Eo d w,w):vF)).map qJ)=some ((eA oO (F.map fun w=>((Eo d w,w):vF))).map qJ,0):=by
 have hal:=eY (d:=d);have xS:=tQ (d:=d);intro xs
 induction xs with
 |nil=>
  intro i h hi;refine RW _ _ _ _ _ _ _ ?_;have hm:(F.map e1).drop i=[]:=by rw [←List.map_drop,h];rfl
  rw [aP hm,cond_false,List.take_of_length_le (dM h),i47 (fun p hp=>by
   obtain ⟨w,hw,rfl⟩:=List.mem_map.1 hp
   exact hF w hw) (by simp;omega) (by
   rw [List.pairwise_map];refine List.Pairwise.imp_of_mem ?_ kq;intro a b ha hb hab;rw [q6,q6];show (pc a>pc b∨pc a=pc b∧Op.bytesLess (Eo d a) (Eo d b)=true)∨(pc b>pc a∨pc b=pc a∧Op.bytesLess (Eo d b) (Eo d a)=true);by_cases h1:pc a=pc b
   ·have hne:Eo d a≠Eo d b:=fun e=>hab (Ny A h64 (hF a ha) (hF b hb) (h0 a ha) (h0 b hb) (hD a ha) (hD b hb) e)
    cases hb':Op.bytesLess (Eo d a) (Eo d b) with
    |true=>exact .inl (.inr ⟨h1,rfl⟩)
    |false=>exact .inr (.inr ⟨h1.symm,me _ _ hb' hne⟩)
   ·rcases Nat.lt_or_gt_of_ne h1 with h2|h2
    ·exact .inr (.inl h2)
    ·exact .inl (.inl h2)),jN]
 |cons w xs ih=>
  intro i h hi;refine RW _ _ _ _ _ _ _ ?_;have hlt:=bL h;have hm:(F.map e1).drop i=e1 w::xs.map e1:=by rw [←List.map_drop,h];rfl
  have hwF:w∈F:=List.mem_of_getElem? (aW h);have hw:=hF w hwF;have hd:F.take (i+1)=F.take i++[w]:=by
   rw [List.take_add_one,aW h];rfl
  have hnext:=ih (i+1) (az h) (by omega);rw [hd,List.map_append] at hnext;rw [aU hm,cond_true,aL hm,i42 (pR h64) (by omega) hw,ah];by_cases hn:bI (fun c=>c==w) (fI d) 0<0
  ·have hout:∀c∈fI d,c≠w:=fun c hc=>by simpa using (Bs _ _ _).1 hn c hc
   rw [cond_neg (by simp;omega),i44 hw,ah];exact h14b z A h64 hw (hD w hwF) hout (by simp;omega) (by omega) hnext _ 0 rfl (by omega)
  ·obtain ⟨k,hk⟩:∃k:Nat,bI (fun c=>c==w) (fI d) 0=(k:Int):=⟨(bI (fun c=>c==w) (fI d) 0).toNat,by omega⟩
   obtain ⟨_,e⟩:=zO (d:=d) (cH d) (fI d) 0 [] k (by simp [fI]) hk;rw [Nat.sub_zero] at e;rw [hk,cond_pos (by simp),dQ e,cg _ (by simp;omega) (by simp) (by omega),aM hm (by simp;omega)];rw [List.map_append] at hnext;exact hnext
theorem i14 {d:List af} (z:Sz d) (h64:d.length≤64):f14 d=f15 d:=by
 rw [Vh z h64];have hl:=z.len;refine e14 _ ?_;rw [i39 z,ah];by_cases h0:tP d=0
 ·have A:=qM h0
  have Ec:∀t∈d,t.aD.Nodup:=Mb h0;have hlen:(fI d).length≤256:=by have:=tQ (d:=d);omega
  obtain ⟨F,_,_⟩:=sG (nj A) x6 hlen;rw [if_neg (by simpa using h0),h0,cond_neg (by simp),i40 z A.nd Ec h64,ah,i41 (pR h64) (nj A) x6 hlen,ah];by_cases h1:(qi (fI d)).length≤256
  ·rw [if_pos h1,if_neg (by omega),cond_neg (by simp)]
   have hD:∀w∈qi (fI d),Dn d w:=F.gen (Dn d) (fun c hc=>by
    obtain ⟨x,_,rfl⟩:=List.mem_map.1 hc
    exact ME x) (fun a b=>Qr)
   exact h14 z A h64 (DO F (pR h64)) hD F.nz F.nd h1 _ 0 rfl (by omega)
  ·rw [if_neg h1,if_pos (by omega),cond_pos (by simp)]
 ·rw [if_pos h0,cond_pos (by simpa using h0)]
end Go.Proofs.YtmidjldjkbljjaaGreatDoor.cl
