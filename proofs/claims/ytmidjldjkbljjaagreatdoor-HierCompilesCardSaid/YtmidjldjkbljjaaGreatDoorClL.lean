/- The Closure laws. -/
import Derived.Test.YtmidjldjkbljjaaGreatDoorClJ
set_option linter.unusedVariables false
set_option linter.unusedSimpArgs false
set_option linter.unusedSectionVars false
namespace Go.Proofs.YtmidjldjkbljjaaGreatDoor.cl
open Go Go.AM
def mk (w:Nat):List Nat→Nat
 |[]=>w
 |j::l=>mk (w|||2^ j) l
theorem Te:∀(l:List Nat) (w i:Nat),(mk w l).testBit i=(w.testBit i||decide (i∈l)):=by
 intro l
 induction l with
 |nil=>intro w i;simp [mk]
 |cons j l ih=>
  intro w i;rw [mk,ih,Nat.testBit_or,Nat.testBit_two_pow];by_cases h:j=i
  ·subst h;simp
  ·have:¬i=j:=fun e=>h e.symm
   simp [h,this]
theorem nZ {j:Nat} (h:j<64):2^ j<18446744073709551616:=by
 have:=Nat.pow_lt_pow_right (a:=2) (by omega) h;simpa using this
theorem mk_lt:∀(l:List Nat) (w:Nat),w<18446744073709551616→(∀j∈l,j<64)→mk w l<18446744073709551616:=by
 intro l
 induction l with
 |nil=>intro w h _;exact h
 |cons j l ih=>intro w h hj;exact ih _ (BQ h (nZ (hj j (by simp)))) fun k hk=>hj k (by simp [hk])
abbrev TA (w:Nat):W:=(w:Int)::List.replicate 63 0
theorem LM (w:Nat):norm (TA w)=e1 w:=by
 rw [←oR w];apply IT;intro j;cases j with
 |zero=>rw [ou];rfl
 |succ j=>
  rw [Ml];unfold wd TA;rw [List.getD_cons_succ,List.getD_eq_getElem?_getD,List.getElem?_replicate];split<;>rfl
theorem Md {x:Nat} (h:x<64):Int.tdiv (x:Int) 64=0:=by
 rw [Int.tdiv_eq_ediv_of_nonneg (by omega)];omega
theorem Me {x:Nat} (h:x<64):Int.tmod (x:Int) 64=(x:Int):=by
 rw [Int.tmod_eq_emod_of_nonneg (by omega)];omega
theorem kg {p:Nat} (h:p<18446744073709551616):IntKind.wrap .u64 (p:Int)=(p:Int):=lH (by omega) (by omega)
theorem h100 {l:List Nat} (hl:l.length≤1048576) (h64:∀j∈l,j<64):∀(xs:List Nat) (i w:Nat),l.drop i=xs→w<18446744073709551616→yS (cast l) i (TA w)=some (e1 (mk w xs),0):=by
 intro xs
 induction xs with
 |nil=>
  intro i w h hw;refine RF _ _ _ ?_;rw [aP (nG h),cond_false,Zg _ (by simp),LM];rfl
 |cons x xs ih=>
  intro i w h hw;refine RF _ _ _ ?_;have hx:x<64:=h64 x (List.mem_of_getElem? (aW h));have Qt:IntKind.wrap .i64 (Int.tdiv (x:Int) 64)=0:=by
   rw [Md hx];rfl
  have e2:IntKind.wrap .u64 (Int.tmod (x:Int) 64)=(x:Int):=by
   rw [Me hx,kg (by omega)]
  have e3:min x (IntKind.bits .u64)=x:=by
   show min x 64=x;omega
  have e4:IntKind.wrap .u64 (1 *2^ x)=((2^ x:Nat):Int):=by
   have hp:=nZ hx;have:(1 *2^ x:Int)=((2^ x:Nat):Int):=by simp
   rw [this,kg hp]
  have e5:IntKind.wrap .u64 ((BitVec.ofInt (IntKind.bits .u64) (w:Int)|||BitVec.ofInt (IntKind.bits .u64) ((2^ x:Nat):Int)).toNat:Int)=((w|||2^ x:Nat):Int):=wS hw (nZ hx);simp only [aL (dw h),aU (dw h),cond_true,Qt,e2,e3,e4,Int.toNat_zero,Int.toNat_natCast,aM (dw h) (by simp;omega)];rw [cond_neg (by simp),cond_neg (by simp;omega),aV (by decide),aV (by decide),aV (by simp),gv (x:=(w:Int)) (by simp),aV (by decide),aV (by omega),aV (by simp),gv (x:=(w:Int)) (by simp),e5];exact ih (i+1) _ (az h) (BQ hw (nZ hx))
theorem c100 {l:List Nat} (hl:l.length≤1048576) (h64:∀j∈l,j<64):f100 (cast l)=some (e1 (mk 0 l),0):=by
 refine e100 _ ?_;rw [aV (by decide)];exact h100 hl h64 l 0 0 rfl (by omega)
theorem Y7 {w i:Nat} (hw:w<18446744073709551616) (hi:i<64):f103 (e1 w) i=some (w.testBit i):=by
 refine e103 _ _ ?_;have Qt:IntKind.wrap .i64 (Int.tdiv (i:Int) 64)=0:=by
  rw [Md hi];rfl
 have e2:IntKind.wrap .u64 (Int.tmod (i:Int) 64)=(i:Int):=by
  rw [Me hi,kg (by omega)]
 have e3:min i (IntKind.bits .u64)=i:=by
  show min i 64=i;omega
 simp only [Qt,e2,e3,Int.toNat_natCast];rw [cond_neg (by simp),aV (by decide)];by_cases h0:w=0
 ·subst h0
  rw [cond_pos (by simp [e1])];simp
 ·have hl:e1 w=[(w:Int)]:=by simp [e1,h0]
  rw [hl,cond_neg (by simp),aV (by decide),H7 (x:=(w:Int)) (by omega) (by simp),aV (by decide),aV (by omega)];have e4:Int.fdiv (w:Int) (2^ i)=((w / 2^ i:Nat):Int):=by
   rw [show (2^ i:Int)=((2^ i:Nat):Int) by simp,Int.fdiv_eq_ediv_of_nonneg _ (Int.natCast_nonneg _)];simp
  have hq:w / 2^ i<18446744073709551616:=Nat.lt_of_le_of_lt (Nat.div_le_self _ _) hw;have e5:=tO hq (v:=1) (by omega);unfold vJ at e5;rw [e4];have e6:((1:Nat):Int)=1:=rfl;rw [e6] at e5;rw [e5,Nat.and_one_is_mod,Nat.testBit_eq_decide_div_mod_eq]
  congr 1
  generalize w / 2^ i % 2=q;rw [Bool.eq_iff_iff,beq_iff_eq,decide_eq_true_iff];omega
def bitsOf (w:Nat):List Nat:=(List.range 64).filter w.testBit
theorem h139 {w:Nat} (hw:w<18446744073709551616) (h0:w≠0):∀(n i:Nat),64-i=n→i≤64→yW (e1 w) i (cast ((List.range i).filter w.testBit))=some (cast (bitsOf w)):=by
 have hl:e1 w=[(w:Int)]:=by simp [e1,h0]
 have hlen:IntKind.wrap .i64 (64 *((e1 w).length:Int))=64:=by rw [hl];rfl
 intro n
 induction n with
 |zero=>
  intro i hi hle;obtain rfl:i=64:=by omega
  refine KU _ _ _ ?_;rw [hlen,cond_neg (by simp)];rfl
 |succ n ih=>
  intro i hi hle;refine KU _ _ _ ?_;have h1:=ih (i+1) (by omega) (by omega);rw [List.range_succ,List.filter_append] at h1;rw [hlen,cond_pos (by simp;omega),Y7 hw (by omega),ah,bh (by omega)];cases hb:w.testBit i with
  |true=>
   rw [show List.filter w.testBit [i]=[i] by simp [hb],cast,List.map_append] at h1
   rw [cond_true,cg _ (by
    simp only [List.length_map];refine Nat.le_trans (List.length_filter_le _ _) ?_
    simp;omega) (by simp) (by omega)]
   exact h1
  |false=>
   rw [show List.filter w.testBit [i]=[] by simp [hb],List.append_nil] at h1;rw [cond_false];exact h1
theorem c139 {w:Nat} (hw:w<18446744073709551616):f139 (e1 w)=some (cast (bitsOf w)):=by
 refine e139 _ ?_;by_cases h0:w=0
 ·subst h0
  refine KU _ _ _ ?_;rw [show e1 0=[] from rfl,cond_neg (by decide)];have:bitsOf 0=[]:=by simp [bitsOf]
  rw [this];rfl
 ·exact h139 hw h0 _ 0 rfl (by omega)
def pc (w:Nat):Nat:=(bitsOf w).length
theorem Y9 {w:Nat} (hw:w<18446744073709551616):f105 (e1 w)=some (pc w:Int):=by
 refine e105 _ ?_;rw [c139 hw,ah,List.length_map];rfl
theorem x8 {α:Type} {p q:α→Bool}:∀{l:List α},(∀x∈l,p x=true→q x=true)→(∃x∈l,p x=false∧q x=true)→(l.filter p).length<(l.filter q).length:=by
 intro l
 induction l with
 |nil=>rintro _ ⟨x,hx,_⟩;cases hx
 |cons y l ih=>
  intro h1 h2;have hle:∀{l:List α},(∀x∈l,p x=true→q x=true)→(l.filter p).length≤(l.filter q).length:=by
   intro l
   induction l with
   |nil=>intro _;simp
   |cons z l KN=>
    intro h;have:=KN fun x hx=>h x (by simp [hx])
    cases hp:p z with
    |true=>simp [List.filter_cons,hp,h z (by simp) hp];omega
    |false=>cases hq:q z<;>simp [List.filter_cons,hp,hq]<;>omega
  have hl:=hle (l:=l) fun x hx=>h1 x (by simp [hx])
  obtain ⟨x,hx,hpx,hqx⟩:=h2;rcases List.mem_cons.1 hx with rfl|hx
  ·simp [List.filter_cons,hpx,hqx];omega
  ·have:=ih (fun x hx=>h1 x (by simp [hx])) ⟨x,hx,hpx,hqx⟩
   cases hp:p y with
   |true=>simp [List.filter_cons,hp,h1 y (by simp) hp];omega
   |false=>cases hq:q y<;>simp [List.filter_cons,hp,hq]<;>omega
theorem Tq {a b:Nat} (hb:b<18446744073709551616) (h:sub a b=true) (hne:a≠b):pc a<pc b:=by
 apply x8
 ·intro i _ hi;exact eX.1 h i hi
 ·apply Classical.byContradiction
  intro hc;apply hne;refine rK h (eX.2 fun i hi=> ?_);have Xn:i<64:=by
   apply Classical.byContradiction;intro hc;have:b.testBit i=false:=Nat.testBit_lt_two_pow (Nat.lt_of_lt_of_le (by simpa using hb:b<2^ 64) (Nat.pow_le_pow_right (by omega) (by omega)));rw [this] at hi;cases hi
  cases ha:a.testBit i with
  |true=>rfl
  |false=>exact absurd ⟨i,by simpa using Xn,ha,hi⟩ hc
open Classical in
noncomputable def idxs (d:List af) (all:List aT) (x:aT):List Nat:=(List.range all.length).filter fun i=>decide (Le d x (all.getD i []))
noncomputable def cw (d:List af) (all:List aT) (x:aT):Nat:=mk 0 (idxs d all x)
theorem pQ {d:List af} {all:List aT} {x:aT} {i:Nat}:(cw d all x).testBit i=true↔i<all.length∧Le d x (all.getD i []):=by
 rw [cw,Te,Nat.zero_testBit,Bool.false_or,decide_eq_true_iff,idxs,List.mem_filter,List.mem_range];simp only [decide_eq_true_eq]
theorem Qp {d:List af} {all:List aT} {x:aT} (h:all.length≤64):cw d all x<18446744073709551616:=mk_lt _ _ (by omega) fun j hj=>by
 have:=List.mem_range.1 (List.mem_filter.1 hj).1;omega
theorem h53 {d:List af} {all low:List aT} {x:aT} (hall:all.length≤64) (hlow:low.length≤1048576) (hL:∀y,y∈low↔Le d x y):∀(n i:Nat),all.length-i=n→i≤all.length→
  EL all low i (cast (open Classical in (List.range i).filter fun i=>decide (Le d x (all.getD i []))))=some (e1 (cw d all x)):=by
 intro n
 induction n with
 |zero=>
  intro i hi hle;obtain rfl:i=all.length:=by omega
  refine VW _ _ _ _ ?_;have h1:(idxs d all x).length≤64:=by
   refine Nat.le_trans (List.length_filter_le _ _) ?_;simpa using hall
  have:=c100 (l:=idxs d all x) (by omega) fun j hj=>by
   have:=List.mem_range.1 (List.mem_filter.1 hj).1;omega
  unfold idxs at this;rw [cond_neg (by simp),this];rfl
 |succ n ih=>
  intro i hi hle;refine VW _ _ _ _ ?_;have h1:=ih (i+1) (by omega) (by omega);rw [List.range_succ,List.filter_append] at h1;have hlt:i<all.length:=by omega
  have e0:all[i]=all.getD i []:=by rw [List.getD_eq_getElem?_getD,List.getElem?_eq_getElem hlt];rfl
  rw [cond_pos (by simp;omega),bG hlt,Qi _ _ (by omega),ah,bh (by omega)];by_cases hb:Le d x (all.getD i [])
  ·have hm:all[i]∈low:=by rw [e0];exact (hL _).2 hb
   rw [cond_pos (by simpa using hm),cg _ (by
    simp only [List.length_map];refine Nat.le_trans (List.length_filter_le _ _) ?_
    simp;omega) (by simp) (by omega)]
   rw [show (List.filter (open Classical in fun i=>decide (Le d x (all.getD i []))) [i])=[i] by rw [List.filter_cons,if_pos (by simpa using hb)];rfl,cast,List.map_append] at h1;exact h1
  ·have hm:all[i]∉low:=by rw [e0];exact fun h=>hb ((hL _).1 h)
   rw [cond_neg (by simpa using hm)];rw [show (List.filter (open Classical in fun i=>decide (Le d x (all.getD i []))) [i])=[] by rw [List.filter_cons,if_neg (by simpa using hb)];rfl,List.append_nil] at h1;exact h1
theorem c53 {d:List af} (z:Sz d) {all:List aT} (hall:all.length≤64) {x:aT} (hx:x∈cO d):f53 d all x=some (e1 (cw d all x)):=by
 refine e53 _ _ _ ?_;obtain ⟨l,h1,_,h2,h3⟩:=c99 z hx;have:=z.len;rw [h1,ah];exact h53 hall (by omega) h2 _ 0 rfl (by omega)
theorem h101 {cs:List Nat} (hcs:∀c∈cs,c<18446744073709551616) (hlen:cs.length≤1048576) {w:Nat} (hw:w<18446744073709551616):∀(xs:List Nat) (i:Nat),cs.drop i=xs→GA (cs.map e1) (e1 w) i=some (decide (w∈xs)):=by
 intro xs
 induction xs with
 |nil=>
  intro i h;refine RG _ _ _ ?_;have h':(cs.map e1).drop i=[]:=by rw [←List.map_drop,h];rfl
  rw [aP h'];simp
 |cons x xs ih=>
  intro i h;refine RG _ _ _ ?_;have h':(cs.map e1).drop i=e1 x::xs.map e1:=by rw [←List.map_drop,h];rfl
  rw [aU h',cond_true,aL h',o57 (hcs x (List.mem_of_getElem? (aW h))) hw,ah,aM h' (by simp;omega),ih (i+1) (az h)];by_cases e:x=w
  ·subst e;simp
  ·have:¬w=x:=fun h=>e h.symm
   simp [e,this]
theorem c101 {cs:List Nat} (hcs:∀c∈cs,c<18446744073709551616) (hlen:cs.length≤1048576) {w:Nat} (hw:w<18446744073709551616):f101 (cs.map e1) (e1 w)=some (decide (w∈cs)):=e101 _ _ (h101 hcs hlen hw cs 0 rfl)
def lY (l:List Nat) (b:Nat):List Nat:=if b=0∨b∈l then l else l++[b]
def gr (i:Nat):Nat→Nat→List Nat→List Nat
 |0,_,l=>l
 |n+1,k,l=>if l.length≤256 then gr i n (k+1) (lY l (l.getD i 0&&&l.getD k 0)) else l
def fK:Nat→Nat→List Nat→List Nat
 |0,_,l=>l
 |n+1,i,l=>if i<l.length∧l.length≤256 then fK n (i+1) (gr i i 0 l) else l
def qi (cs:List Nat):List Nat:=fK 258 0 cs
theorem vI (l:List Nat) (b:Nat):∃e,lY l b=l++e∧e.length≤1:=by
 unfold lY;split
 ·exact ⟨[],by simp,by simp⟩
 ·exact ⟨[b],rfl,by simp⟩
theorem D0 (i:Nat):∀(n k:Nat) (l:List Nat),l.length≤257→∃e,gr i n k l=l++e∧(l++e).length≤257:=by
 intro n
 induction n with
 |zero=>intro k l h;exact ⟨[],by simp [gr],by simpa using h⟩
 |succ n ih=>
  intro k l h;unfold gr;split
  ·obtain ⟨e,he,hle⟩:=vI l (l.getD i 0&&&l.getD k 0)
   obtain ⟨e',he',hle'⟩:=ih (k+1) (lY l (l.getD i 0&&&l.getD k 0)) (by rw [he];simp;omega);rw [he'];rw [he] at hle'⊢;exact ⟨e++e',by simp,by simpa using hle'⟩
  ·exact ⟨[],by simp,by simpa using h⟩
theorem E8 {l:List Nat} {b:Nat} (hl:∀c∈l,c<18446744073709551616) (hb:b<18446744073709551616):∀c∈lY l b,c<18446744073709551616:=by
 intro c hc;unfold lY at hc;split at hc
 ·exact hl c hc
 ·rcases List.mem_append.1 hc with h|h
  ·exact hl c h
  ·simp only [List.mem_singleton] at h;subst h;exact hb
theorem getD_map {l:List Nat} {i:Nat} (h:i<l.length):(l.map e1)[i]? =some (e1 (l.getD i 0)):=by
 rw [List.getElem?_map,List.getD_eq_getElem?_getD,List.getElem?_eq_getElem h];rfl
theorem vY {l:List Nat} {i:Nat} (hl:∀c∈l,c<18446744073709551616) (h:i<l.length):l.getD i 0<18446744073709551616:=hl _ (dO h)
theorem h54b {i:Nat}:∀(n k:Nat) (l:List Nat),i-k=n→k≤i→i<l.length→l.length≤257→(∀c∈l,c<18446744073709551616)→∀r,
  CN (i+1:Nat) ((gr i n k l).map e1)=some r→CO i k (l.map e1)=some r:=by
 intro n
 induction n with
 |zero=>
  intro k l hn hk hi hlen hlt r hr;refine VY _ _ _ ?_;rw [cond_neg (by simp;omega),bh (by omega)];exact hr
 |succ n ih=>
  intro k l hn hk hi hlen hlt r hr;refine VY _ _ _ ?_;rw [cond_pos (by simp;omega),bh (by omega),bh (by omega)];unfold gr at hr;by_cases h256:l.length≤256
  ·rw [if_pos h256] at hr
   have hik:=vY hlt hi;have hkk:=vY hlt (show k<l.length by omega);have hand:l.getD i 0&&&l.getD k 0<18446744073709551616:=Nat.lt_of_le_of_lt Nat.and_le_left hik;rw [cond_pos (by simp;omega),aV (by simp;omega),Int.toNat_natCast,gv (getD_map hi),aV (by simp;omega),Int.toNat_natCast,gv (getD_map (by omega)),o61 hik hkk,ah];have hpre:=vI l (l.getD i 0&&&l.getD k 0);have hlen':(lY l (l.getD i 0&&&l.getD k 0)).length≤257∧i<(lY l (l.getD i 0&&&l.getD k 0)).length:=by
    obtain ⟨e,he,hle⟩:=hpre;rw [he];simp;omega
   have hnext:=ih (k+1) (lY l (l.getD i 0&&&l.getD k 0)) (by omega) (by omega) hlen'.2 hlen'.1 (E8 hlt hand) r hr;by_cases h0:l.getD i 0&&&l.getD k 0=0
   ·rw [h0] at hnext⊢
    rw [cond_neg (by simp [e1])];have:lY l 0=l:=by simp [lY]
    rw [this] at hnext;exact hnext
   ·have hlen1:(e1 (l.getD i 0&&&l.getD k 0)).length=1:=by
     unfold e1;rw [if_neg h0];rfl
    rw [cond_pos (by rw [hlen1];decide),c101 hlt (by omega) hand,ah];by_cases hm:l.getD i 0&&&l.getD k 0∈l
    ·rw [cond_neg (by simpa using hm)]
     have:lY l (l.getD i 0&&&l.getD k 0)=l:=if_pos (.inr hm);rw [this] at hnext;exact hnext
    ·rw [cond_pos (by simpa using hm),cg _ (by simp;omega) (by simp) (by omega)]
     have:lY l (l.getD i 0&&&l.getD k 0)=l++[l.getD i 0&&&l.getD k 0]:=if_neg (by simp only [not_or];exact ⟨h0,hm⟩);rw [this,List.map_append] at hnext;exact hnext
  ·rw [if_neg h256] at hr
   rw [cond_neg (by simp;omega)];exact hr
theorem HJ (i:Nat):∀(n k:Nat) (l:List Nat),(∀c∈l,c<18446744073709551616)→∀c∈gr i n k l,c<18446744073709551616:=by
 intro n
 induction n with
 |zero=>intro k l h;exact h
 |succ n ih=>
  intro k l h;unfold gr;split
  ·refine ih _ _ (E8 h ?_)
   by_cases hi:i<l.length
   ·exact Nat.lt_of_le_of_lt Nat.and_le_left (vY h hi)
   ·rw [List.getD_eq_getElem?_getD,List.getElem?_eq_none (by omega)];simp
  ·exact h
theorem h54:∀(n i:Nat) (l:List Nat),258≤i+n→l.length≤257→(∀c∈l,c<18446744073709551616)→CN i (l.map e1)=some ((fK n i l).map e1):=by
 intro n
 induction n with
 |zero=>
  intro i l hn hlen hlt;refine VX _ _ ?_;rw [cond_neg (by simp;omega)];rfl
 |succ n ih=>
  intro i l hn hlen hlt;refine VX _ _ ?_;unfold fK;by_cases h1:i<l.length
  ·rw [cond_pos (by simp;omega)]
   by_cases h2:l.length≤256
   ·rw [cond_pos (by simp;omega),if_pos ⟨h1,h2⟩]
    obtain ⟨e,he,hle⟩:=D0 i i 0 l hlen;refine h54b i 0 l rfl (by omega) h1 hlen hlt _ ?_;exact ih (i+1) _ (by omega) (by rw [he];exact hle) (HJ i i 0 l hlt)
   ·rw [cond_neg (by simp;omega),if_neg (fun h=>h2 h.2)]
  ·rw [cond_neg (by simp;omega),if_neg (fun h=>h1 h.1)]
theorem c54 {cs:List Nat} (hcs:∀c∈cs,c<18446744073709551616) (hlen:cs.length≤256):f54 (cs.map e1)=some ((qi cs).map e1):=by
 refine e54 _ ?_;rw [cg _ (by simp) (by simp;omega) (by omega),List.nil_append];exact h54 258 0 cs (by omega) (by omega) hcs
structure Fm (cs l:List Nat):Prop where
 nd:l.Nodup
 nz:∀c∈l,c≠0
 gen:∀P:Nat→Prop,(∀c∈cs,P c)→(∀a b,P a→P b→P (a&&&b))→∀c∈l,P c
 pre:∃e,l=cs++e
theorem Fm.add {cs l:List Nat} (h:Fm cs l) {i k:Nat} (hi:i<l.length) (hk:k<l.length):Fm cs (lY l (l.getD i 0&&&l.getD k 0)):=by
 unfold lY;split
 ·exact h
 ·rename_i hc
  simp only [not_or] at hc;refine ⟨?_,?_,?_,?_⟩
  ·rw [List.nodup_append]
   exact ⟨h.nd,by simp,fun a ha b hb=>by simp only [List.mem_singleton] at hb;subst hb;exact fun e=>hc.2 (e▸ha)⟩
  ·intro c rV
   rcases List.mem_append.1 rV with h'|h'
   ·exact h.nz c h'
   ·simp only [List.mem_singleton] at h';subst h';exact hc.1
  ·intro P h1 h2 c rV
   rcases List.mem_append.1 rV with h'|h'
   ·exact h.gen P h1 h2 c h'
   ·simp only [List.mem_singleton] at h';subst h'
    exact h2 _ _ (h.gen P h1 h2 _ (dO hi)) (h.gen P h1 h2 _ (dO hk))
  ·obtain ⟨e,he⟩:=h.pre
   exact ⟨e++[l.getD i 0&&&l.getD k 0],by rw [he];simp⟩
theorem qj {l e:List Nat} {i:Nat} (h:i<l.length):(l++e).getD i 0=l.getD i 0:=by
 rw [List.getD_eq_getElem?_getD,List.getD_eq_getElem?_getD,List.getElem?_append_left h]
theorem TY (l:List Nat) (b:Nat):b=0∨b∈lY l b:=by
 unfold lY;split
 ·assumption
 ·simp
theorem Kp {cs:List Nat} (i:Nat):∀(n k:Nat) (l:List Nat),Fm cs l→i<l.length→k+n≤i→Fm cs (gr i n k l)∧((gr i n k l).length≤256→∀j,k≤j→j<k+n→l.getD i 0&&&l.getD j 0=0∨l.getD i 0&&&l.getD j 0∈gr i n k l)∧∃e,gr i n k l=l++e:=by
 intro n
 induction n with
 |zero=>intro k l h hi hk;exact ⟨h,fun _ j h1 h2=>by omega,[],by simp [gr]⟩
 |succ n ih=>
  intro k l h hi hk;unfold gr;split
  ·obtain ⟨e,he,_⟩:=vI l (l.getD i 0&&&l.getD k 0)
   have hil:i<(lY l (l.getD i 0&&&l.getD k 0)).length:=by rw [he];simp;omega
   obtain ⟨a1,a2,e',a3⟩:=ih (k+1) _ (h.add hi (by omega)) hil (by omega);refine ⟨a1,fun hlen j h1 h2=> ?_,e++e',by rw [a3,he];simp⟩;by_cases hj:j=k
   ·subst hj
    rcases TY l (l.getD i 0&&&l.getD j 0) with h0|h0
    ·exact .inl h0
    ·right;rw [a3];exact List.mem_append_left _ h0
   ·have:=a2 hlen j (by omega) (by omega)
    rw [he,qj hi,qj (by omega)] at this;rw [he];exact this
  ·rename_i hc
   refine ⟨h,fun hlen=>absurd hlen hc,[],by simp⟩
theorem HK {cs:List Nat}:∀(n i:Nat) (l:List Nat),258≤i+n→l.length≤257→Fm cs l→(∀a b,a<i→b<a→a<l.length→l.getD a 0&&&l.getD b 0=0∨l.getD a 0&&&l.getD b 0∈l)→
  Fm cs (fK n i l)∧(fK n i l).length≤257∧((fK n i l).length≤256→∀a b,b<a→a<(fK n i l).length→(fK n i l).getD a 0&&&(fK n i l).getD b 0=0∨(fK n i l).getD a 0&&&(fK n i l).getD b 0∈fK n i l):=by
 intro n
 induction n with
 |zero=>
  intro i l hn hlen h hc;exact ⟨h,hlen,fun _ a b h1 h2=>hc a b (by have Df:a<l.length:=h2;omega) h1 h2⟩
 |succ n ih=>
  intro i l hn hlen h hc;unfold fK;split
  ·rename_i hi
   obtain ⟨a1,a2,e,a3⟩:=Kp (cs:=cs) i i 0 l h hi.1 (by omega);obtain ⟨e',he',hle'⟩:=D0 i i 0 l hlen;have hlen':(gr i i 0 l).length≤257:=by rw [he'];exact hle'
   by_cases Rl:(gr i i 0 l).length≤256
   ·refine ih (i+1) _ (by omega) hlen' a1 ?_
    intro a b hai hba hal;by_cases hai':a=i
    ·subst hai'
     rw [a3,qj hi.1,qj (by omega),←a3];exact a2 Rl b (by omega) (by omega)
    ·rw [a3,qj (by omega),qj (by omega)]
     rcases hc a b (by omega) hba (by omega) with h0|h0
     ·exact .inl h0
     ·exact .inr (List.mem_append_left _ h0)
   ·have hstop:∀n,fK n (i+1) (gr i i 0 l)=gr i i 0 l:=by
     intro n;cases n with
     |zero=>rfl
     |succ n=>unfold fK;rw [if_neg (fun h=>Rl h.2)]
    rw [hstop];exact ⟨a1,hlen',fun h=>absurd h Rl⟩
  ·rename_i hi
   refine ⟨h,hlen,fun h256 a b h1 h2=> ?_⟩;have:¬i<l.length:=fun hh=>hi ⟨hh,h256⟩
   exact hc a b (by omega) h1 h2
theorem sG {cs:List Nat} (kq:cs.Nodup) (hnz:∀c∈cs,c≠0) (hlen:cs.length≤256):Fm cs (qi cs)∧(qi cs).length≤257∧((qi cs).length≤256→∀a∈qi cs,∀b∈qi cs,a&&&b≠0→a&&&b∈qi cs):=by
 obtain ⟨h1,h2,h3⟩:=HK (cs:=cs) 258 0 cs (by omega) (by omega) ⟨kq,hnz,fun P h1 _=>h1,[],by simp⟩ (fun a b h=>by omega);refine ⟨h1,h2,fun hle a ha b hb hne=> ?_⟩;obtain ⟨i,hi,rfl⟩:=List.mem_iff_getElem.1 ha;obtain ⟨j,hj,rfl⟩:=List.mem_iff_getElem.1 hb;have Qt:(qi cs)[i]=(qi cs).getD i 0:=by rw [List.getD_eq_getElem?_getD,List.getElem?_eq_getElem hi];rfl
 have e2':(qi cs)[j]=(qi cs).getD j 0:=by rw [List.getD_eq_getElem?_getD,List.getElem?_eq_getElem hj];rfl
 rw [Qt,e2'] at hne⊢;by_cases e:i=j
 ·subst e;rw [Nat.and_self];exact dO hi
 ·by_cases hlt:j<i
  ·exact (h3 hle i j hlt hi).resolve_left hne
  ·rw [Nat.and_comm] at hne⊢
   exact (h3 hle j i (by omega) hj).resolve_left hne
end Go.Proofs.YtmidjldjkbljjaaGreatDoor.cl
set_option linter.unusedVariables false
set_option linter.unusedSimpArgs false
set_option linter.unusedSectionVars false
namespace Go.Proofs.YtmidjldjkbljjaaGreatDoor.cl
open Go Go.AM
def jj (l:List aT):aT:=(l.map fun x=>38::x).flatten
theorem qX (x:aT) (l:List aT):jg [38] (x::l)=x++jj l:=by
 induction l generalizing x with
 |nil=>simp [jg,jj]
 |cons y l ih=>
  rw [show jg [38] (x::y::l)=x++[38]++jg [38] (y::l) from rfl,ih y];simp [jj]
theorem h55c (l:List aT) (hl:l.length≤1048576) (hx:∀x∈l,x.length≤1000):∀(xs:List aT) (i:Nat) (s:aT),l.drop i=xs→0<i→s.length≤1001 *i→tF l s i=some (s++jj xs):=by
 intro xs
 induction xs with
 |nil=>intro i s h hi hs;refine KZ _ _ _ ?_;rw [aP h];simp [jj]
 |cons x xs ih=>
  intro i s h hi hs;refine KZ _ _ _ ?_;have hlt:=bL h;have hxl:=hx x (List.mem_of_getElem? (aW h));rw [aU h,cond_true,cond_pos (by simp;omega),aV (by simp;omega),aL h,aV (by simp;omega),aM h (by omega),ih (i+1) _ (az h) (by omega) (by simp;omega)];simp [jj]
theorem c55c (l:List aT) (hl:l.length≤1048576) (hx:∀x∈l,x.length≤1000):tF l [] 0=some (jg [38] l):=by
 refine KZ _ _ _ ?_;cases hl':l with
 |nil=>rfl
 |cons x xs=>
  have h:l.drop 0=x::xs:=hl';rw [←hl'];have h0:((0:Nat):Int)=0:=rfl;have h1:=aU h;have h2:= @aL _ R55.T _ _ _ _ h;rw [h0] at h1 h2;rw [h1,cond_true,cond_neg (by simp),h2,aV (by have:=hx x (by rw [hl'];simp);simp;omega)];have:=h55c l hl hx xs 1 ([]++x) (az h) (by omega) (by have:=hx x (by rw [hl'];simp);simp;omega);rw [hl',qX,←hl'];exact this
noncomputable def eT (d:List af) (w:Nat):List aT→List Nat→Nat→List aT→aT
 |s::ss,c::cs,i,acc=>if c=w then s else eT d w ss cs (i+1) (if w.testBit i=true then acc++[s] else acc)
 |_,_,_,acc=>jg [38] (kN d acc)
theorem BJ {d:List af} {l:List aT} {x:aT} (h:x∈kN d l):x∈l:=by
 have:=(List.mem_filter.1 h).1;exact (List.mem_filter.1 (cL.1 this)).1
theorem zM {d:List af} {l:List aT}:(kN d l).length≤l.length:=by
 refine Nat.le_trans (List.length_filter_le _ _) (Nat.le_trans (jc _) (List.length_filter_le _ _))
theorem U5 {c w:Nat} (hc:c<18446744073709551616) (hw:w<18446744073709551616):f102 (e1 c) (e1 w)=some (decide (c=w)):=by
 have h1:=dI c;have h2:=dI w;rw [c102 _ _ (by omega) (by omega),yQ (zj hc) (zj hw),oR,oR]
 congr 1
 rw [decide_eq_decide];exact ⟨Fl,fun h=>by rw [h]⟩
theorem h55 {d:List af} (z:Sz d) (A:Acc d) {all:List aT} {fI:List Nat} (hlen:fI.length=all.length) (h64:all.length≤64) (hnm:∀x∈all,x.length≤1000) (hlt:∀c∈fI,c<18446744073709551616) {w:Nat} (hw:w<18446744073709551616):
  ∀(xs:List aT) (ys:List Nat) (i:Nat) (acc:List aT),all.drop i=xs→fI.drop i=ys→i≤all.length→acc.length≤i→(∀x∈acc,x.length≤1000)→EM d all (fI.map e1) (e1 w) i acc=some (eT d w xs ys i acc):=by
 intro xs
 induction xs with
 |nil=>
  intro ys i acc h h' hile hacc hx;refine VZ _ _ _ _ _ _ ?_;have hge:=dM h;have hys:ys=[]:=by rw [←h'];exact List.drop_eq_nil_of_le (by omega)
  subst hys;rw [aP h,cond_false,Y8 z A acc (by omega)];simp only [ah];rw [c55c _ (by have:=zM (d:=d) (l:=acc);omega) (fun x hm=>hx x (BJ hm))];rfl
 |cons x xs ih=>
  intro ys i acc h h' hile hacc hx;refine VZ _ _ _ _ _ _ ?_;have hlt':=bL h;cases ys with
  |nil=>have:=dM h';omega
  |cons c ys=>
   have hm:(fI.map e1).drop i=e1 c::ys.map e1:=by rw [←List.map_drop,h'];rfl
   rw [aU h,cond_true,aL hm,U5 (hlt c (List.mem_of_getElem? (aW h'))) hw,ah,aL h,Y7 hw (by omega),ah,aL h,aM h (by omega)];show _=some (if c=w then x else eT d w xs ys (i+1) (if w.testBit i=true then acc++[x] else acc));by_cases e:c=w
   ·rw [cond_pos (by simpa using e),if_pos e]
   ·rw [cond_neg (by simpa using e),if_neg e]
    cases hb:w.testBit i with
    |true=>
     rw [cond_true,cg _ (by omega) (by simp) (by omega),ih ys (i+1) (acc++[x]) (az h) (az h') (by omega) (by simp;omega) (fun y hy=>by
      rcases List.mem_append.1 hy with hy|hy
      ·exact hx y hy
      ·simp only [List.mem_singleton] at hy;subst hy;exact hnm y (List.mem_of_getElem? (aW h)))]
     simp
    |false=>
     rw [cond_false,ih ys (i+1) acc (az h) (az h') (by omega) (by omega) hx];simp
noncomputable def sW (d:List af) (all:List aT) (fI:List Nat) (w:Nat):aT:=eT d w all fI 0 []
theorem c55 {d:List af} (z:Sz d) (A:Acc d) {all:List aT} {fI:List Nat} (hlen:fI.length=all.length) (h64:all.length≤64) (hnm:∀x∈all,x.length≤1000) (hlt:∀c∈fI,c<18446744073709551616) {w:Nat} (hw:w<18446744073709551616):
  f55 d all (fI.map e1) (e1 w)=some (sW d all fI w):=e55 _ _ _ _ (h55 z A hlen h64 hnm hlt hw all fI 0 [] rfl rfl (by omega) (by simp) (fun x hx=>by cases hx))
abbrev vF:=aT×Nat
def qJ (p:vF):aq:=⟨p.1,e1 p.2⟩
def oO (p q:vF):Bool:=decide (pc p.2>pc q.2)||(decide (pc p.2=pc q.2)&&Op.bytesLess p.1 q.1)
theorem c56 {p q:vF} (hp:p.2<18446744073709551616) (hq:q.2<18446744073709551616):f56 (qJ p) (qJ q)=some (oO p q):=by
 refine e56 _ _ ?_;show Option.bind (f105 (e1 p.2)) _=_;rw [Y9 hp,ah];show Option.bind (f105 (e1 q.2)) _=_;rw [Y9 hq,ah];unfold oO;by_cases h1:pc p.2>pc q.2
 ·rw [cond_pos (by simp;omega)];simp [h1]
 ·rw [cond_neg (by simp;omega)]
  by_cases h2:pc p.2=pc q.2
  ·rw [cond_pos (by rw [beq_iff_eq,h2])]
   simp [h2,qJ]
  ·rw [cond_neg (by rw [beq_eq_false_iff_ne];exact fun h=>h2 (Int.ofNat.inj h))];simp [h1,h2]
theorem q6 {p q:vF}:oO p q=true↔pc p.2>pc q.2∨(pc p.2=pc q.2∧Op.bytesLess p.1 q.1=true):=by
 simp [oO]
theorem Ei (p q:vF) (h:oO p q=true):oO q p=false:=by
 apply Classical.byContradiction;intro hc;rw [Bool.not_eq_false,q6] at hc;rw [q6] at h;rcases h with h|⟨h1,h2⟩
 ·rcases hc with h'|⟨KA,_⟩<;>omega
 ·rcases hc with h'|⟨KA,Df⟩
  ·omega
  ·rw [jt h2] at Df;cases Df
theorem Lz (x y z:vF) (h:oO x y=true) (h':oO z y=false):oO x z=true:=by
 rw [q6] at h⊢;have hn:¬(pc z.2>pc y.2∨(pc z.2=pc y.2∧Op.bytesLess z.1 y.1=true)):=fun hc=>by
  rw [←q6,h'] at hc;cases hc
 simp only [not_or,not_and] at hn;rcases h with h|⟨h1,h2⟩
 ·left;omega
 ·by_cases e:pc z.2=pc y.2
  ·right
   refine ⟨by omega,?_⟩;have hz:=hn.2 e;have YU:Op.bytesLess z.1 y.1=false:=by simpa using hz
   by_cases e2:z.1=y.1
   ·rw [e2];exact h2
   ·exact sr _ _ _ h2 (me _ _ YU e2)
  ·left;omega
theorem Ed {α:Type} (lt:α→α→Bool) (x:α):∀l:List α,(kC lt x l).Perm (x::l):=by
 intro l
 induction l with
 |nil=>exact .refl _
 |cons y l ih=>
  unfold kC;split
  ·exact .refl _
  ·exact (ih.cons y).trans (.swap x y l)
theorem h15c {d:List af} {all:List aT} {codes f:List (List Int)} {E:List vF} {p:vF} {i:Nat} (hE:fq oO E) (hlt:∀q∈E,q.2<18446744073709551616) (hp:p.2<18446744073709551616) (hEl:E.length≤1048576) (hi:i≤1048576):
  ∀(v:Nat),v≤E.length→(∀q∈E.drop v,oO p q=true)→∀r,rM d all codes f ((kC oO p E).map qJ) (i+1:Nat)=some r→Cs d all codes f (E.map qJ) i v (qJ p)=some r:=by
 have fin:∀(v:Nat),v≤E.length→(∀q∈E.take v,oO p q=false)→(∀q∈E.drop v,oO p q=true)→
   (((([]:List aq)++(((E.map qJ).take (Int.toNat (v:Int))).drop 0))++[qJ p])++(((E.map qJ).take (List.length (E.map qJ))).drop (Int.toNat (v:Int))))=(kC oO p E).map qJ:=by
  intro v hv h1 h2;have:=KP oO h1 h2;rw [List.take_append_drop] at this;rw [this,List.take_length];simp
 intro v
 induction v with
 |zero=>
  intro hv h r hr;refine RZ _ _ _ _ _ _ _ _ ?_;rw [←fin 0 (by omega) (by simp) h] at hr;rw [cond_neg (by simp),aV (by simp),aV (by simp),aV (by simp),aV (by simp),aV (by simp;omega),bh (by omega)];exact hr
 |succ v ih=>
  intro hv h r hr;refine RZ _ _ _ _ _ _ _ _ ?_;have hvl:v<E.length:=by omega
  have iW:(E.map qJ)[v]? =some (qJ E[v]):=by rw [List.getElem?_map,List.getElem?_eq_getElem hvl];rfl
  rw [cond_pos (by simp),uk (by omega),dQ iW,c56 hp (hlt _ (List.getElem_mem hvl)),ah];cases hb:oO p E[v] with
  |true=>
   rw [cond_true];refine ih (by omega) ?_ r hr;intro q hq;rw [List.drop_eq_getElem_cons hvl] at hq;rcases List.mem_cons.1 hq with rfl|hq
   ·exact hb
   ·exact h q hq
  |false=>
   have hpre:∀q∈E.take (v+1),oO p q=false:=by
    intro q hq;rw [List.mem_take_iff_getElem] at hq;obtain ⟨k,hk,rfl⟩:=hq;by_cases hkv:k=v
    ·subst hkv;exact hb
    ·have hs:oO E[v] E[k]=false:=by
      have:=List.pairwise_iff_getElem.1 hE k v (by omega) hvl (by omega);exact this
     cases hc:oO p E[k] with
     |false=>rfl
     |true=>
      have:=Lz _ _ _ hc hs;rw [hb] at this;cases this
   rw [←fin (v+1) (by omega) hpre h] at hr;rw [cond_false,aV (by simp;omega),aV (by simp;omega),aV (by simp;omega),aV (by simp;omega),aV (by simp;omega),bh (by omega)];exact hr
theorem OB {E:List vF} {l:List vF} (hE:fq oO E):fq oO (l.foldl (fun E p=>kC oO p E) E)∧(l.foldl (fun E p=>kC oO p E) E).Perm (E++l):=by
 induction l generalizing E with
 |nil=>exact ⟨hE,by simp⟩
 |cons p l ih=>
  obtain ⟨h1,h2⟩:=ih (oN oO Ei Lz hE (x:=p));refine ⟨h1,h2.trans ?_⟩;refine ((Ed oO p E).append_right l).trans ?_;exact (List.perm_middle (a:=p) (l₁:=E) (l₂:=l)).symm
theorem h15b {d:List af} (z:Sz d) (A:Acc d) {all:List aT} {fI F:List Nat} (hlen:fI.length=all.length) (h64:all.length≤64) (hnm:∀x∈all,x.length≤1000) (hlt:∀c∈fI,c<18446744073709551616)
  (hF:∀w∈F,w<18446744073709551616) (hFl:F.length≤1000):∀(xs:List Nat) (i:Nat) (E:List vF),F.drop i=xs→E.length≤i→i≤F.length→fq oO E→(∀q∈E,q.2<18446744073709551616)→
  rM d all (fI.map e1) (F.map e1) (E.map qJ) i=some (((xs.map fun w=>((sW d all fI w,w):vF)).foldl (fun E p=>kC oO p E) E).map qJ,0):=by
 intro xs
 induction xs with
 |nil=>
  intro i E h hEl hi hE hq;refine RY _ _ _ _ _ _ ?_;have hm:(F.map e1).drop i=[]:=by rw [←List.map_drop,h];rfl
  rw [aP hm];rfl
 |cons w xs ih=>
  intro i E h hEl hi hE hq;refine RY _ _ _ _ _ _ ?_;have hlt':=bL h;have hm:(F.map e1).drop i=e1 w::xs.map e1:=by rw [←List.map_drop,h];rfl
  have hw:=hF w (List.mem_of_getElem? (aW h));rw [aU hm,cond_true,aL hm,c55 z A hlen h64 hnm hlt hw,ah,aL hm];have hlen':((E.map qJ).length:Int)=((E.length:Nat):Int):=by simp
  rw [hlen'];refine h15c (p:=(sW d all fI w,w)) hE hq hw (by omega) (by omega) E.length (Nat.le_refl _) (by simp) _ ?_;refine ih (i+1) (kC oO (sW d all fI w,w) E) (az h) (by rw [Iu];omega) (by omega) (oN oO Ei Lz hE) ?_;intro q KH;rcases (Iv oO).1 KH with rfl|KH
  ·exact hw
  ·exact hq q KH
abbrev cH (d:List af):List aT:=fo (cO d)
noncomputable def fI (d:List af):List Nat:=(cH d).map (cw d (cH d))
noncomputable def bK (d:List af):List vF:=((qi (fI d)).map fun w=>((sW d (cH d) (fI d) w,w):vF)).foldl (fun E p=>kC oO p E) []
theorem eY {d:List af}:(cH d).length≤d.length:=by
 have:=jc (cO d);simpa using this
theorem pR {d:List af} (h:d.length≤64):∀c∈fI d,c<18446744073709551616:=by
 intro c hc;obtain ⟨x,_,rfl⟩:=List.mem_map.1 hc;exact Qp (by have:=eY (d:=d);omega)
theorem h15a {d:List af} (z:Sz d) (h:d.length≤64) {r:R15.T}
  (hr:(bif (decide ((((qi (fI d)).map e1).length:Int)>256)) then (some (([]:List aq),(7:Int))) else (rM d (cH d) ((fI d).map e1) ((qi (fI d)).map e1) ([]:List aq) 0))=some r):
  ∀(xs:List aT) (i:Nat),(cH d).drop i=xs→i≤(cH d).length→Jq d (cH d) i ((((cH d).take i).map (cw d (cH d))).map e1)=some r:=by
 have hal:=eY (d:=d);have hz:=z.len;intro xs
 induction xs with
 |nil=>
  intro i h' hi;refine VG _ _ _ _ ?_;have hge:=dM h';have e:(((cH d).take i).map (cw d (cH d)))=fI d:=by rw [List.take_of_length_le hge];rfl
  rw [e,aP h',cond_false,c54 (pR h) (by simp [fI];omega)];exact hr
 |cons x xs ih=>
  intro i h' hi;refine VG _ _ _ _ ?_;have hlt:=bL h';have hx:x∈cO d:=cL.1 (List.mem_of_getElem? (aW h'));have hd:(cH d).take (i+1)=(cH d).take i++[x]:=by
   rw [List.take_add_one,aW h'];rfl
  have:=ih (i+1) (az h') (by omega);rw [hd,List.map_append,List.map_append] at this;rw [aU h',cond_true,aL h',c53 z (by omega) hx,ah,cg _ (by simp;omega) (by simp) (by omega),aM h' (by omega)];exact this
theorem Bq {s:aT} (h:isName s=true):s.length≤32:=by
 unfold isName at h;simp only [Bool.and_eq_true,decide_eq_true_eq] at h;exact h.1.1.1.2
theorem DO {cs l:List Nat} (hF:Fm cs l) (h:∀c∈cs,c<18446744073709551616):∀c∈l,c<18446744073709551616:=
 hF.gen (fun c=>c<18446744073709551616) h fun a b ha _=>Nat.lt_of_le_of_lt Nat.and_le_left ha
theorem H6 {d:List af} {i:Nat} (h:i<(cH d).length):(cH d).getD i []∈cO d:=by
 rw [List.getD_eq_getElem?_getD,List.getElem?_eq_getElem h];exact cL.1 (List.getElem_mem h)
theorem FD {d:List af} {x:aT} (h:x∈cO d):∃i,i<(cH d).length∧(cH d).getD i []=x:=by
 obtain ⟨i,hi,e⟩:=List.mem_iff_getElem.1 (cL.2 h);exact ⟨i,hi,by rw [List.getD_eq_getElem?_getD,List.getElem?_eq_getElem hi];exact e⟩
theorem x5 {d:List af} {x y:aT} (hy:y∈cO d):sub (cw d (cH d) y) (cw d (cH d) x)=true↔Le d x y:=by
 rw [eX];constructor
 ·intro h
  obtain ⟨i,hi,e⟩:=FD hy;have:=h i (pQ.2 ⟨hi,by rw [e];exact .refl⟩);rw [pQ,e] at this;exact this.2
 ·intro h i hi
  rw [pQ] at hi⊢;exact ⟨hi.1,Ae.trans h hi.2⟩
theorem W2 {d:List af} (A:Acc d) {x y:aT} (hx:x∈cO d) (hy:y∈cO d) (h:cw d (cH d) x=cw d (cH d) y):x=y:=
 le_antisymm A ((x5 hy).1 (by rw [h];exact qH _)) ((x5 hx).1 (by rw [h];exact qH _))
theorem Ep {α β:Type} {f:α→β}:∀{l:List α},l.Nodup→(∀x∈l,∀y∈l,f x=f y→x=y)→(l.map f).Nodup:=by
 intro l
 induction l with
 |nil=>intro _ _;simp
 |cons x l ih=>
  intro hn hi;have hn':=List.nodup_cons.1 hn;rw [List.map_cons,List.nodup_cons];refine ⟨fun hm=> ?_,ih hn'.2 fun a ha b hb=>hi a (by simp [ha]) b (by simp [hb])⟩;obtain ⟨y,hy,e⟩:=List.mem_map.1 hm;exact hn'.1 (hi y (by simp [hy]) x (by simp) e▸hy)
theorem nj {d:List af} (A:Acc d):(fI d).Nodup:=Ep (cT _).nodup fun x hx y hy h=>W2 A (cL.1 hx) (cL.1 hy) h
theorem x6 {d:List af}:∀c∈fI d,c≠0:=by
 intro c hc;obtain ⟨x,hx,rfl⟩:=List.mem_map.1 hc;intro e;obtain ⟨i,hi,e'⟩:=FD (cL.1 hx);have:(cw d (cH d) x).testBit i=true:=pQ.2 ⟨hi,by rw [e'];exact .refl⟩;rw [e] at this;simp at this
theorem tQ {d:List af}:(fI d).length≤d.length:=by
 have:=eY (d:=d);simpa [fI] using this
theorem tT {d:List af}:fq oO (bK d)∧(bK d).Perm ((qi (fI d)).map fun w=>((sW d (cH d) (fI d) w,w):vF)):=by
 have:=OB (E:=[]) (l:=(qi (fI d)).map fun w=>((sW d (cH d) (fI d) w,w):vF)) (by simp [fq]);simpa [bK] using this
theorem tS {d:List af}:((bK d).map (·.2)).Perm (qi (fI d)):=by
 have:=(tT (d:=d)).2.map (·.2);simpa [Function.comp_def] using this
theorem wh {d:List af} (A:Acc d) (h64:d.length≤64) (hle:(qi (fI d)).length≤256):PL ((bK d).map (·.2)):=by
 have hlen:(fI d).length≤256:=by have:=tQ (d:=d);omega
 obtain ⟨F,_,F3⟩:=sG (nj A) x6 hlen;have hP:=tS (d:=d);have hmem:∀c,c∈(bK d).map (·.2)↔c∈qi (fI d):=fun c=>hP.mem_iff
 have hlt:=DO F (pR h64);have kq:((bK d).map (·.2)).Nodup:=hP.nodup_iff.2 F.nd;have Vt:∀(i:Nat) (hi:i<((bK d).map (·.2)).length),((bK d).map (·.2)).getD i 0=((bK d)[i]'(by simpa using hi)).2:=by
  intro i hi;rw [List.getD_eq_getElem?_getD,List.getElem?_eq_getElem hi];simp
 have hsrt:∀i j,i<((bK d).map (·.2)).length→j<((bK d).map (·.2)).length→sub (((bK d).map (·.2)).getD j 0) (((bK d).map (·.2)).getD i 0)=true→i≤j:=by
  intro i j hi hj hs;apply Classical.byContradiction;intro hc;have hji:j<i:=by omega
  have hpw:=List.pairwise_iff_getElem.1 (tT (d:=d)).1 j i (by simpa using hj) (by simpa using hi) hji;have hne:((bK d).map (·.2)).getD j 0≠((bK d).map (·.2)).getD i 0:=fun e=>by
   have:=getD_inj kq hj hi e;omega
  have hp:=Tq (hlt _ ((hmem _).1 (dO hi))) hs hne;rw [Vt i hi,Vt j hj] at hp;have:oO ((bK d)[i]'(by simpa using hi)) ((bK d)[j]'(by simpa using hj))=true:=q6.2 (.inl hp);rw [this] at hpw;cases hpw
 obtain ⟨t,ht,hroot⟩:=root A;have hr:cw d (cH d) t∈qi (fI d):=by
  obtain ⟨e,he⟩:=F.pre;rw [he];exact List.mem_append_left _ (List.mem_map_of_mem (cL.2 ht))
 have hsub:∀c∈qi (fI d),sub c (cw d (cH d) t)=true:=F.gen (fun c=>sub c (cw d (cH d) t)=true) (fun c hc=>by
  obtain ⟨x,hx,rfl⟩:=List.mem_map.1 hc
  exact (x5 (cL.1 hx)).2 (hroot x (cL.1 hx))) (fun a b ha _=>nA (rJ a b) ha)
 have hpos:0<((bK d).map (·.2)).length:=List.length_pos_of_mem ((hmem _).2 hr);obtain ⟨k,hk,hke⟩:∃k,k<((bK d).map (·.2)).length∧((bK d).map (·.2)).getD k 0=cw d (cH d) t:=by
  obtain ⟨k,hk,h1,_⟩:=qR ((hmem _).2 hr);exact ⟨k,hk,h1⟩
 have hk0:k=0:=by
  have:=hsrt k 0 hk hpos (by rw [hke];exact hsub _ ((hmem _).1 (dO hpos)));omega
 subst hk0;refine ⟨kq,fun c hc=>F.nz c ((hmem c).1 hc),fun a ha b hb hne=>(hmem _).2 (F3 hle a ((hmem a).1 ha) b ((hmem b).1 hb) hne),fun c hc=>by rw [hke];exact hsub c ((hmem c).1 hc),hpos,hsrt⟩
theorem Uc {d:List af} (A:Acc d) (h64:d.length≤64) (hle:(qi (fI d)).length≤256):Cd ((bK d).map qJ) ((bK d).map (·.2)):=by
 have hlen:(fI d).length≤256:=by have:=tQ (d:=d);omega
 obtain ⟨F,_,F3⟩:=sG (nj A) x6 hlen;have hP:=tS (d:=d);refine ⟨by simp [Function.comp_def,qJ],fun c hc=>DO F (pR h64) c (hP.mem_iff.1 hc),?_⟩;rw [hP.length_eq];omega
theorem Vh {d:List af} (z:Sz d) (h64:d.length≤64):f15 d=some (if tP d≠0 then ([],tP d) else if (qi (fI d)).length>256 then ([],7) else ((bK d).map qJ,0)):=by
 have hl:=z.len;have hal:=eY (d:=d);refine e15 _ ?_;rw [c32 z,ah];by_cases h0:tP d=0
 ·have A:=qM h0
  rw [if_neg (by simpa using h0),h0,cond_neg (by simp),c52 d (by omega),ah];refine h15a z h64 ?_ _ 0 rfl (by omega);by_cases h1:(qi (fI d)).length>256
  ·rw [cond_pos (by simp;omega),if_pos h1]
  ·rw [cond_neg (by simp;omega),if_neg h1]
   have hlen:(fI d).length≤256:=by have:=tQ (d:=d);omega
   obtain ⟨F,_,_⟩:=sG (nj A) x6 hlen
   exact h15b z A (by simp [fI]) (by omega) (fun x hx=>by
    obtain ⟨t,ht,rfl⟩:=List.mem_map.1 (cL.1 hx)
    have:=Bq (A.name t ht);omega) (pR h64) (DO F (pR h64)) (by omega) _ 0 [] rfl (by simp) (by omega) (by simp [fq]) (fun q hq=>by cases hq)
 ·rw [if_pos h0,cond_pos (by simpa using h0)]
end Go.Proofs.YtmidjldjkbljjaaGreatDoor.cl
