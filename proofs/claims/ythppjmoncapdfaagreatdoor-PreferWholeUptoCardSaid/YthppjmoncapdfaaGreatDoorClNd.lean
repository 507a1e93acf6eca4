/- The Closure laws. -/
import Derived.Test.YthppjmoncapdfaaGreatDoorClNb
set_option linter.all false
open Go.IntKind (wrap)
namespace Go.Proofs.YthppjmoncapdfaaGreatDoor.cl
open Go Go.AM
def mk (w:Nat):List Nat→Nat
 |[]=>w
 |j::l=>mk (w|||2^ j) l
theorem mk_bit:∀(l:List Nat) (w i:Nat),(mk w l).testBit i=(w.testBit i||decide (i∈l)):=by
 intro l
 induction l with
 |nil=>intro w i;simp [mk]
 |cons j l ih=>
  intro w i;rw [mk,ih,Nat.testBit_or,Nat.testBit_two_pow];by_cases h:j=i
  ·subst h;simp
  ·have:¬i=j:=fun e=>h e.symm
   simp [h,this]
theorem D8 {j:Nat} (h:j<64):2^ j<18446744073709551616:=by
 have:=Nat.pow_lt_pow_right (a:=2) (by omega) h;simpa using this
theorem mk_lt:∀(l:List Nat) (w:Nat),w<18446744073709551616→(∀j∈l,j<64)→mk w l<18446744073709551616:=by
 intro l
 induction l with
 |nil=>intro w h _;exact h
 |cons j l ih=>intro w h hj;exact ih _ (acj h (D8 (hj j (by simp)))) fun k hk=>hj k (by simp [hk])
abbrev acw (w:Nat):W:=(w:Int)::List.replicate 63 0
theorem Ui (w:Nat):norm (acw w)=e1 w:=by
 rw [←Hu w];apply Rc;intro j;cases j with
 |zero=>rw [AP];rfl
 |succ j=>
  rw [UQ];unfold wd acw;rw [List.getD_cons_succ,aQ,jD];split<;>rfl
theorem acG {x:Nat} (h:x<64):Int.tdiv (x:Int) 64=0:=by
 rw [Int.tdiv_eq_ediv_of_nonneg (by omega)];omega
theorem acH {x:Nat} (h:x<64):Int.tmod (x:Int) 64=(x:Int):=by
 rw [Int.tmod_eq_emod_of_nonneg (by omega)];omega
theorem AQ {p:Nat} (h:p<18446744073709551616):wrap .u64 (p:Int)=(p:Int):=sM (by omega) (by omega)
theorem h100 {l:List Nat} (hl:l.length≤1048576) (h64:∀j∈l,j<64):∀(xs:List Nat) (i w:Nat),l.drop i=xs→w<18446744073709551616→N4 (cast l) i (acw w)=some (e1 (mk w xs),0):=by
 intro xs
 induction xs with
 |nil=>
  intro i w h hw;refine aaD ?_;rw [bI (Zw h),aj,c60 _ (by simp),Ui];rfl
 |cons x xs ih=>
  intro i w h hw;refine aaD ?_;have hx:x<64:=h64 x (aT (b9 h));have e1':wrap .i64 (Int.tdiv (x:Int) 64)=0:=by
   rw [acG hx];rfl
  have e2:wrap .u64 (Int.tmod (x:Int) 64)=(x:Int):=by
   rw [acH hx,AQ (by omega)]
  have e3:min x (IntKind.bits .u64)=x:=by
   show min x 64=x;omega
  have e4:wrap .u64 (1 *2^ x)=((2^ x:Nat):Int):=by
   have hp:=D8 hx;have:(1 *2^ x:Int)=((2^ x:Nat):Int):=by simp
   rw [this,AQ hp]
  have e5:wrap .u64 ((BitVec.ofInt (IntKind.bits .u64) (w:Int)|||BitVec.ofInt (IntKind.bits .u64) ((2^ x:Nat):Int)).toNat:Int)=((w|||2^ x:Nat):Int):=aci hw (D8 hx);simp only [aX (EV h),bH (EV h),ai,e1',e2,e3,e4,Int.toNat_zero,aR,bJ (EV h) (by simp;omega)];rw [cond_neg (by simp),cond_neg (by simp;omega),bp (by decide),bp (by decide),bp (by simp),iD (x:=(w:Int)) (by simp),bp (by decide),bp (by omega),bp (by simp),iD (x:=(w:Int)) (by simp),e5];exact ih (i+1) _ (aN h) (acj hw (D8 hx))
theorem c100 {l:List Nat} (hl:l.length≤1048576) (h64:∀j∈l,j<64):f100 (cast l)=some (e1 (mk 0 l),0):=by
 refine e100 ?_;rw [bp (by decide)];exact h100 hl h64 l 0 0 rfl (by omega)
theorem c103 {w i:Nat} (hw:w<18446744073709551616) (hi:i<64):f103 (e1 w) i=some (w.testBit i):=by
 refine e103 ?_;have e1':wrap .i64 (Int.tdiv (i:Int) 64)=0:=by
  rw [acG hi];rfl
 have e2:wrap .u64 (Int.tmod (i:Int) 64)=(i:Int):=by
  rw [acH hi,AQ (by omega)]
 have e3:min i (IntKind.bits .u64)=i:=by
  show min i 64=i;omega
 simp only [e1',e2,e3,aR];rw [cond_neg (by simp),bp (by decide)];by_cases h0:w=0
 ·subst h0
  rw [cond_pos (by simp [e1])];simp
 ·have hl:e1 w=[(w:Int)]:=by simp [e1,h0]
  rw [hl,cond_neg (by simp),bp (by decide),IU (x:=(w:Int)) (by omega) (by simp),bp (by decide),bp (by omega)];have e4:Int.fdiv (w:Int) (2^ i)=((w / 2^ i:Nat):Int):=by
   rw [show (2^ i:Int)=((2^ i:Nat):Int) by simp,Da _ (xR _)];simp
  have hq:w / 2^ i<18446744073709551616:=jw (Nat.div_le_self _ _) hw;have e5:=EK hq (v:=1) (by omega);unfold Dl at e5;rw [e4];have e6:((1:Nat):Int)=1:=rfl;rw [e6] at e5;rw [e5,Nat.and_one_is_mod,Nat.testBit_eq_decide_div_mod_eq]
  congr 1
  generalize w / 2^ i % 2=q;rw [iH,fu,bB];omega
def bitsOf (w:Nat):List Nat:=(List.range 64).filter w.testBit
theorem h139 {w:Nat} (hw:w<18446744073709551616) (h0:w≠0):∀(n i:Nat),64-i=n→i≤64→J6 (e1 w) i (cast ((List.range i).filter w.testBit))=some (cast (bitsOf w)):=by
 have hl:e1 w=[(w:Int)]:=by simp [e1,h0]
 have hlen:wrap .i64 (64 *((e1 w).length:Int))=64:=by rw [hl];rfl
 intro n
 induction n with
 |zero=>
  intro i hi hle;obtain rfl:i=64:=by omega
  refine TC ?_;rw [hlen,cond_neg (by simp)];rfl
 |succ n ih=>
  intro i hi hle;refine TC ?_;have h1:=ih (i+1) (by omega) (by omega);rw [jC,x8] at h1;rw [hlen,cond_pos (by simp;omega),c103 hw (by omega),aA,bG (by omega)];cases hb:w.testBit i with
  |true=>
   rw [show List.filter w.testBit [i]=[i] by simp [hb],cast,bT] at h1
   rw [ai,cz _ (by
    simp only [aW];refine dB (kn _ _) ?_
    simp;omega) (by simp) (by omega)]
   exact h1
  |false=>
   rw [show List.filter w.testBit [i]=[] by simp [hb],eU] at h1;rw [aj];exact h1
theorem c139 {w:Nat} (hw:w<18446744073709551616):f139 (e1 w)=some (cast (bitsOf w)):=by
 refine e139 ?_;by_cases h0:w=0
 ·subst h0
  refine TC ?_;rw [show e1 0=[] from rfl,cond_neg (by decide)];have:bitsOf 0=[]:=by simp [bitsOf]
  rw [this];rfl
 ·exact h139 hw h0 _ 0 rfl (by omega)
def pc (w:Nat):Nat:=(bitsOf w).length
theorem c105 {w:Nat} (hw:w<18446744073709551616):f105 (e1 w)=some (pc w:Int):=by
 refine e105 ?_;rw [c139 hw,aA,aW];rfl
theorem EY {α:Type} {p q:α→Bool}:∀{l:List α},(∀x∈l,p x=true→q x=true)→(∃x∈l,p x=false∧q x=true)→(l.filter p).length<(l.filter q).length:=by
 intro l
 induction l with
 |nil=>rintro _ ⟨x,hx,_⟩;cases hx
 |cons y l ih=>
  intro h1 h2;have hle:∀{l:List α},(∀x∈l,p x=true→q x=true)→(l.filter p).length≤(l.filter q).length:=by
   intro l
   induction l with
   |nil=>intro _;simp
   |cons z l ih'=>
    intro h;have:=ih' fun x hx=>h x (by simp [hx])
    cases hp:p z with
    |true=>simp [fH,hp,h z (by simp) hp];omega
    |false=>cases hq:q z<;>simp [fH,hp,hq]<;>omega
  have hl:=hle (l:=l) fun x hx=>h1 x (by simp [hx])
  obtain ⟨x,hx,hpx,hqx⟩:=h2;rcases aD.1 hx with rfl|hx
  ·simp [fH,hpx,hqx];omega
  ·have:=ih (fun x hx=>h1 x (by simp [hx])) ⟨x,hx,hpx,hqx⟩
   cases hp:p y with
   |true=>simp [fH,hp,h1 y (by simp) hp];omega
   |false=>cases hq:q y<;>simp [fH,hp,hq]<;>omega
theorem pc_lt {a b:Nat} (hb:b<18446744073709551616) (h:sub a b=true) (hne:a≠b):pc a<pc b:=by
 apply EY
 ·intro i _ hi;exact jY.1 h i hi
 ·apply dA
  intro hc;apply hne;refine rY h (jY.2 fun i hi=> ?_);have hi64:i<64:=by
   apply dA;intro hc;have:b.testBit i=false:=xW (eX (by simpa using hb:b<2^ 64) (xX (by omega) (by omega)));rw [this] at hi;cases hi
  cases ha:a.testBit i with
  |true=>rfl
  |false=>exact absurd ⟨i,by simpa using hi64,ha,hi⟩ hc
open Classical in
noncomputable def idxs (d:List aq) (all:List cG) (x:cG):List Nat:=(List.range all.length).filter fun i=>decide (Le d x (all.getD i []))
noncomputable def cw (d:List aq) (all:List cG) (x:cG):Nat:=mk 0 (idxs d all x)
theorem yA {d:List aq} {all:List cG} {x:cG} {i:Nat}:(cw d all x).testBit i=true↔i<all.length∧Le d x (all.getD i []):=by
 rw [cw,mk_bit,xY,iY,bB,idxs,cL,eT];simp only [iZ]
theorem ZF {d:List aq} {all:List cG} {x:cG} (h:all.length≤64):cw d all x<18446744073709551616:=mk_lt _ _ (by omega) fun j hj=>by
 have:=eT.1 (cL.1 hj).1;omega
theorem h53 {d:List aq} {all low:List cG} {x:cG} (hall:all.length≤64) (hlow:low.length≤1048576) (hL:∀y,y∈low↔Le d x y):∀(n i:Nat),all.length-i=n→i≤all.length→
  RT all low i (cast (open Classical in (List.range i).filter fun i=>decide (Le d x (all.getD i []))))=some (e1 (cw d all x)):=by
 intro n
 induction n with
 |zero=>
  intro i hi hle;obtain rfl:i=all.length:=by omega
  refine k53_4 ?_;have h1:(idxs d all x).length≤64:=by
   refine dB (kn _ _) ?_;simpa using hall
  have:=c100 (l:=idxs d all x) (by omega) fun j hj=>by
   have:=eT.1 (cL.1 hj).1;omega
  unfold idxs at this;rw [cond_neg (by simp),this];rfl
 |succ n ih=>
  intro i hi hle;refine k53_4 ?_;have h1:=ih (i+1) (by omega) (by omega);rw [jC,x8] at h1;have hlt:i<all.length:=by omega
  have e0:all[i]=all.getD i []:=by rw [aQ,aH hlt];rfl
  rw [cond_pos (by simp;omega),cn hlt,Zt _ _ (by omega),aA,bG (by omega)];by_cases hb:Le d x (all.getD i [])
  ·have hm:all[i]∈low:=by rw [e0];exact (hL _).2 hb
   rw [cond_pos (by simpa using hm),cz _ (by
    simp only [aW];refine dB (kn _ _) ?_
    simp;omega) (by simp) (by omega)]
   rw [show (List.filter (open Classical in fun i=>decide (Le d x (all.getD i []))) [i])=[i] by rw [fH,au (by simpa using hb)];rfl,cast,bT] at h1;exact h1
  ·have hm:all[i]∉low:=by rw [e0];exact fun h=>hb ((hL _).1 h)
   rw [cond_neg (by simpa using hm)];rw [show (List.filter (open Classical in fun i=>decide (Le d x (all.getD i []))) [i])=[] by rw [fH,ak (by simpa using hb)];rfl,eU] at h1;exact h1
theorem c53 {d:List aq} (z:Sz d) {all:List cG} (hall:all.length≤64) {x:cG} (hx:x∈jQ d):f53 d all x=some (e1 (cw d all x)):=by
 refine e53 ?_;obtain ⟨l,h1,_,h2,h3⟩:=c99 z hx;have:=z.len;rw [h1,aA];exact h53 hall (by omega) h2 _ 0 rfl (by omega)
theorem h101 {cs:List Nat} (hcs:∀c∈cs,c<18446744073709551616) (hlen:cs.length≤1048576) {w:Nat} (hw:w<18446744073709551616):∀(xs:List Nat) (i:Nat),cs.drop i=xs→N5 (cs.map e1) (e1 w) i=some (decide (w∈xs)):=by
 intro xs
 induction xs with
 |nil=>
  intro i h;refine aaE ?_;have h':(cs.map e1).drop i=[]:=by rw [←lH,h];rfl
  rw [bI h'];simp
 |cons x xs ih=>
  intro i h;refine aaE ?_;have h':(cs.map e1).drop i=e1 x::xs.map e1:=by rw [←lH,h];rfl
  rw [bH h',ai,aX h',o57 (hcs x (aT (b9 h))) hw,aA,bJ h' (by simp;omega),ih (i+1) (aN h)];by_cases e:x=w
  ·subst e;simp
  ·have:¬w=x:=fun h=>e h.symm
   simp [e,this]
theorem c101 {cs:List Nat} (hcs:∀c∈cs,c<18446744073709551616) (hlen:cs.length≤1048576) {w:Nat} (hw:w<18446744073709551616):f101 (cs.map e1) (e1 w)=some (decide (w∈cs)):=e101 (h101 hcs hlen hw cs 0 rfl)
def zx (l:List Nat) (b:Nat):List Nat:=if b=0∨b∈l then l else l++[b]
def rH (i:Nat):Nat→Nat→List Nat→List Nat
 |0,_,l=>l
 |n+1,k,l=>if l.length≤256 then rH i n (k+1) (zx l (l.getD i 0&&&l.getD k 0)) else l
def qd:Nat→Nat→List Nat→List Nat
 |0,_,l=>l
 |n+1,i,l=>if i<l.length∧l.length≤256 then qd n (i+1) (rH i i 0 l) else l
def zA (cs:List Nat):List Nat:=qd 258 0 cs
theorem H6 (l:List Nat) (b:Nat):∃e,zx l b=l++e∧e.length≤1:=by
 unfold zx;split
 ·exact ⟨[],by simp,by simp⟩
 ·exact ⟨[b],rfl,by simp⟩
theorem Lq (i:Nat):∀(n k:Nat) (l:List Nat),l.length≤257→∃e,rH i n k l=l++e∧(l++e).length≤257:=by
 intro n
 induction n with
 |zero=>intro k l h;exact ⟨[],by simp [rH],by simpa using h⟩
 |succ n ih=>
  intro k l h;unfold rH;split
  ·obtain ⟨e,he,hle⟩:=H6 l (l.getD i 0&&&l.getD k 0)
   obtain ⟨e',he',hle'⟩:=ih (k+1) (zx l (l.getD i 0&&&l.getD k 0)) (by rw [he];simp;omega);rw [he'];rw [he] at hle'⊢;exact ⟨e++e',by simp,by simpa using hle'⟩
  ·exact ⟨[],by simp,by simpa using h⟩
theorem U6 {l:List Nat} {b:Nat} (hl:∀c∈l,c<18446744073709551616) (hb:b<18446744073709551616):∀c∈zx l b,c<18446744073709551616:=by
 intro c hc;unfold zx at hc;split at hc
 ·exact hl c hc
 ·rcases bC.1 hc with h|h
  ·exact hl c h
  ·simp only [bP] at h;subst h;exact hb
theorem getD_map {l:List Nat} {i:Nat} (h:i<l.length):(l.map e1)[i]? =some (e1 (l.getD i 0)):=by
 rw [cZ,aQ,aH h];rfl
theorem MJ {l:List Nat} {i:Nat} (hl:∀c∈l,c<18446744073709551616) (h:i<l.length):l.getD i 0<18446744073709551616:=hl _ (kG h)
theorem h54b {i:Nat}:∀(n k:Nat) (l:List Nat),i-k=n→k≤i→i<l.length→l.length≤257→(∀c∈l,c<18446744073709551616)→∀r,
  L0 (i+1:Nat) ((rH i n k l).map e1)=some r→L2 i k (l.map e1)=some r:=by
 intro n
 induction n with
 |zero=>
  intro k l hn hk hi hlen hlt r hr;refine k54_6 ?_;rw [cond_neg (by simp;omega),bG (by omega)];exact hr
 |succ n ih=>
  intro k l hn hk hi hlen hlt r hr;refine k54_6 ?_;rw [cond_pos (by simp;omega),bG (by omega),bG (by omega)];unfold rH at hr;by_cases h256:l.length≤256
  ·rw [au h256] at hr
   have hik:=MJ hlt hi;have hkk:=MJ hlt (show k<l.length by omega);have hand:l.getD i 0&&&l.getD k 0<18446744073709551616:=jw ki hik;rw [cond_pos (by simp;omega),bp (by simp;omega),aR,iD (getD_map hi),bp (by simp;omega),aR,iD (getD_map (by omega)),o61 hik hkk,aA];have hpre:=H6 l (l.getD i 0&&&l.getD k 0);have hlen':(zx l (l.getD i 0&&&l.getD k 0)).length≤257∧i<(zx l (l.getD i 0&&&l.getD k 0)).length:=by
    obtain ⟨e,he,hle⟩:=hpre;rw [he];simp;omega
   have hnext:=ih (k+1) (zx l (l.getD i 0&&&l.getD k 0)) (by omega) (by omega) hlen'.2 hlen'.1 (U6 hlt hand) r hr;by_cases h0:l.getD i 0&&&l.getD k 0=0
   ·rw [h0] at hnext⊢
    rw [cond_neg (by simp [e1])];have:zx l 0=l:=by simp [zx]
    rw [this] at hnext;exact hnext
   ·have hlen1:(e1 (l.getD i 0&&&l.getD k 0)).length=1:=by
     unfold e1;rw [ak h0];rfl
    rw [cond_pos (by rw [hlen1];decide),c101 hlt (by omega) hand,aA];by_cases hm:l.getD i 0&&&l.getD k 0∈l
    ·rw [cond_neg (by simpa using hm)]
     have:zx l (l.getD i 0&&&l.getD k 0)=l:=au (.inr hm);rw [this] at hnext;exact hnext
    ·rw [cond_pos (by simpa using hm),cz _ (by simp;omega) (by simp) (by omega)]
     have:zx l (l.getD i 0&&&l.getD k 0)=l++[l.getD i 0&&&l.getD k 0]:=ak (by simp only [jx];exact ⟨h0,hm⟩);rw [this,bT] at hnext;exact hnext
  ·rw [ak h256] at hr
   rw [cond_neg (by simp;omega)];exact hr
theorem ZX (i:Nat):∀(n k:Nat) (l:List Nat),(∀c∈l,c<18446744073709551616)→∀c∈rH i n k l,c<18446744073709551616:=by
 intro n
 induction n with
 |zero=>intro k l h;exact h
 |succ n ih=>
  intro k l h;unfold rH;split
  ·refine ih _ _ (U6 h ?_)
   by_cases hi:i<l.length
   ·exact jw ki (MJ h hi)
   ·rw [aQ,fc (by omega)];simp
  ·exact h
theorem h54:∀(n i:Nat) (l:List Nat),258≤i+n→l.length≤257→(∀c∈l,c<18446744073709551616)→L0 i (l.map e1)=some ((qd n i l).map e1):=by
 intro n
 induction n with
 |zero=>
  intro i l hn hlen hlt;refine k54_3 ?_;rw [cond_neg (by simp;omega)];rfl
 |succ n ih=>
  intro i l hn hlen hlt;refine k54_3 ?_;unfold qd;by_cases h1:i<l.length
  ·rw [cond_pos (by simp;omega)]
   by_cases h2:l.length≤256
   ·rw [cond_pos (by simp;omega),au ⟨h1,h2⟩]
    obtain ⟨e,he,hle⟩:=Lq i i 0 l hlen;refine h54b i 0 l rfl (by omega) h1 hlen hlt _ ?_;exact ih (i+1) _ (by omega) (by rw [he];exact hle) (ZX i i 0 l hlt)
   ·rw [cond_neg (by simp;omega),ak (fun h=>h2 h.2)]
  ·rw [cond_neg (by simp;omega),ak (fun h=>h1 h.1)]
theorem c54 {cs:List Nat} (hcs:∀c∈cs,c<18446744073709551616) (hlen:cs.length≤256):f54 (cs.map e1)=some ((zA cs).map e1):=by
 refine e54 ?_;rw [cz _ (by simp) (by simp;omega) (by omega),dU];exact h54 258 0 cs (by omega) (by omega) hcs
structure Fm (cs l:List Nat):Prop where
 nd:l.Nodup
 nz:∀c∈l,c≠0
 gen:∀P:Nat→Prop,(∀c∈cs,P c)→(∀a b,P a→P b→P (a&&&b))→∀c∈l,P c
 pre:∃e,l=cs++e
theorem Fm.add {cs l:List Nat} (h:Fm cs l) {i k:Nat} (hi:i<l.length) (hk:k<l.length):Fm cs (zx l (l.getD i 0&&&l.getD k 0)):=by
 unfold zx;split
 ·exact h
 ·rename_i hc
  simp only [jx] at hc;refine ⟨?_,?_,?_,?_⟩
  ·rw [jq]
   exact ⟨h.nd,by simp,fun a ha b hb=>by simp only [bP] at hb;subst hb;exact fun e=>hc.2 (e▸ha)⟩
  ·intro c uB
   rcases bC.1 uB with h'|h'
   ·exact h.nz c h'
   ·simp only [bP] at h';subst h';exact hc.1
  ·intro P h1 h2 c uB
   rcases bC.1 uB with h'|h'
   ·exact h.gen P h1 h2 c h'
   ·simp only [bP] at h';subst h'
    exact h2 _ _ (h.gen P h1 h2 _ (kG hi)) (h.gen P h1 h2 _ (kG hk))
  ·obtain ⟨e,he⟩:=h.pre
   exact ⟨e++[l.getD i 0&&&l.getD k 0],by rw [he];simp⟩
theorem wT {l e:List Nat} {i:Nat} (h:i<l.length):(l++e).getD i 0=l.getD i 0:=by
 rw [aQ,aQ,di h]
theorem addF_in (l:List Nat) (b:Nat):b=0∨b∈zx l b:=by
 unfold zx;split
 ·assumption
 ·simp
theorem Td {cs:List Nat} (i:Nat):∀(n k:Nat) (l:List Nat),Fm cs l→i<l.length→k+n≤i→Fm cs (rH i n k l)∧((rH i n k l).length≤256→∀j,k≤j→j<k+n→l.getD i 0&&&l.getD j 0=0∨l.getD i 0&&&l.getD j 0∈rH i n k l)∧∃e,rH i n k l=l++e:=by
 intro n
 induction n with
 |zero=>intro k l h hi hk;exact ⟨h,fun _ j h1 h2=>by omega,[],by simp [rH]⟩
 |succ n ih=>
  intro k l h hi hk;unfold rH;split
  ·obtain ⟨e,he,_⟩:=H6 l (l.getD i 0&&&l.getD k 0)
   have hil:i<(zx l (l.getD i 0&&&l.getD k 0)).length:=by rw [he];simp;omega
   obtain ⟨a1,a2,e',a3⟩:=ih (k+1) _ (h.add hi (by omega)) hil (by omega);refine ⟨a1,fun hlen j h1 h2=> ?_,e++e',by rw [a3,he];simp⟩;by_cases hj:j=k
   ·subst hj
    rcases addF_in l (l.getD i 0&&&l.getD j 0) with h0|h0
    ·exact .inl h0
    ·right;rw [a3];exact eC _ h0
   ·have:=a2 hlen j (by omega) (by omega)
    rw [he,wT hi,wT (by omega)] at this;rw [he];exact this
  ·rename_i hc
   refine ⟨h,fun hlen=>absurd hlen hc,[],by simp⟩
theorem P0 {cs:List Nat}:∀(n i:Nat) (l:List Nat),258≤i+n→l.length≤257→Fm cs l→(∀a b,a<i→b<a→a<l.length→l.getD a 0&&&l.getD b 0=0∨l.getD a 0&&&l.getD b 0∈l)→
  Fm cs (qd n i l)∧(qd n i l).length≤257∧((qd n i l).length≤256→∀a b,b<a→a<(qd n i l).length→(qd n i l).getD a 0&&&(qd n i l).getD b 0=0∨(qd n i l).getD a 0&&&(qd n i l).getD b 0∈qd n i l):=by
 intro n
 induction n with
 |zero=>
  intro i l hn hlen h hc;exact ⟨h,hlen,fun _ a b h1 h2=>hc a b (by have KH:a<l.length:=h2;omega) h1 h2⟩
 |succ n ih=>
  intro i l hn hlen h hc;unfold qd;split
  ·rename_i hi
   obtain ⟨a1,a2,e,a3⟩:=Td (cs:=cs) i i 0 l h hi.1 (by omega);obtain ⟨e',he',hle'⟩:=Lq i i 0 l hlen;have hlen':(rH i i 0 l).length≤257:=by rw [he'];exact hle'
   by_cases Vx:(rH i i 0 l).length≤256
   ·refine ih (i+1) _ (by omega) hlen' a1 ?_
    intro a b hai hba hal;by_cases hai':a=i
    ·subst hai'
     rw [a3,wT hi.1,wT (by omega),←a3];exact a2 Vx b (by omega) (by omega)
    ·rw [a3,wT (by omega),wT (by omega)]
     rcases hc a b (by omega) hba (by omega) with h0|h0
     ·exact .inl h0
     ·exact .inr (eC _ h0)
   ·have hstop:∀n,qd n (i+1) (rH i i 0 l)=rH i i 0 l:=by
     intro n;cases n with
     |zero=>rfl
     |succ n=>unfold qd;rw [ak (fun h=>Vx h.2)]
    rw [hstop];exact ⟨a1,hlen',fun h=>absurd h Vx⟩
  ·rename_i hi
   refine ⟨h,hlen,fun h256 a b h1 h2=> ?_⟩;have:¬i<l.length:=fun hh=>hi ⟨hh,h256⟩
   exact hc a b (by omega) h1 h2
theorem DI {cs:List Nat} (hnd:cs.Nodup) (hnz:∀c∈cs,c≠0) (hlen:cs.length≤256):Fm cs (zA cs)∧(zA cs).length≤257∧((zA cs).length≤256→∀a∈zA cs,∀b∈zA cs,a&&&b≠0→a&&&b∈zA cs):=by
 obtain ⟨h1,h2,h3⟩:=P0 (cs:=cs) 258 0 cs (by omega) (by omega) ⟨hnd,hnz,fun P h1 _=>h1,[],by simp⟩ (fun a b h=>by omega);refine ⟨h1,h2,fun hle a ha b hb hne=> ?_⟩;obtain ⟨i,hi,rfl⟩:=iL.1 ha;obtain ⟨j,hj,rfl⟩:=iL.1 hb;have e1':(zA cs)[i]=(zA cs).getD i 0:=by rw [aQ,aH hi];rfl
 have e2':(zA cs)[j]=(zA cs).getD j 0:=by rw [aQ,aH hj];rfl
 rw [e1',e2'] at hne⊢;by_cases e:i=j
 ·subst e;rw [Nat.and_self];exact kG hi
 ·by_cases hlt:j<i
  ·exact (h3 hle i j hlt hi).resolve_left hne
  ·rw [Nat.and_comm] at hne⊢
   exact (h3 hle j i (by omega) hj).resolve_left hne
end Go.Proofs.YthppjmoncapdfaaGreatDoor.cl
namespace Go.Proofs.YthppjmoncapdfaaGreatDoor.cl
open Go Go.AM
def tH (l:List cG):cG:=(l.map fun x=>38::x).flatten
theorem Cn (x:cG) (l:List cG):sd [38] (x::l)=x++tH l:=by
 induction l generalizing x with
 |nil=>simp [sd,tH]
 |cons y l ih=>
  rw [show sd [38] (x::y::l)=x++[38]++sd [38] (y::l) from rfl,ih y];simp [tH]
theorem h55c (l:List cG) (hl:l.length≤1048576) (hx:∀x∈l,x.length≤1000):∀(xs:List cG) (i:Nat) (s:cG),l.drop i=xs→0<i→s.length≤1001 *i→Fy l s i=some (s++tH xs):=by
 intro xs
 induction xs with
 |nil=>intro i s h hi hs;refine TR ?_;rw [bI h];simp [tH]
 |cons x xs ih=>
  intro i s h hi hs;refine TR ?_;have hlt:=eo h;have hxl:=hx x (aT (b9 h));rw [bH h,ai,cond_pos (by simp;omega),bp (by simp;omega),aX h,bp (by simp;omega),bJ h (by omega),ih (i+1) _ (aN h) (by omega) (by simp;omega)];simp [tH]
theorem c55c (l:List cG) (hl:l.length≤1048576) (hx:∀x∈l,x.length≤1000):Fy l [] 0=some (sd [38] l):=by
 refine TR ?_;cases hl':l with
 |nil=>rfl
 |cons x xs=>
  have h:l.drop 0=x::xs:=hl';rw [←hl'];have h0:((0:Nat):Int)=0:=rfl;have h1:=bH h;have h2:= @aX _ R55.T _ _ _ _ h;rw [h0] at h1 h2;rw [h1,ai,cond_neg (by simp),h2,bp (by have:=hx x (by rw [hl'];simp);simp;omega)];have:=h55c l hl hx xs 1 ([]++x) (aN h) (by omega) (by have:=hx x (by rw [hl'];simp);simp;omega);rw [hl',Cn,←hl'];exact this
noncomputable def mM (d:List aq) (w:Nat):List cG→List Nat→Nat→List cG→cG
 |s::ss,c::cs,i,acc=>if c=w then s else mM d w ss cs (i+1) (if w.testBit i=true then acc++[s] else acc)
 |_,_,_,acc=>sd [38] (vh d acc)
theorem QO {d:List aq} {l:List cG} {x:cG} (h:x∈vh d l):x∈l:=by
 have:=(cL.1 h).1;exact (cL.1 (gB.1 this)).1
theorem QN {d:List aq} {l:List cG}:(vh d l).length≤l.length:=by
 refine dB (kn _ _) (dB (pZ _) (kn _ _))
theorem subs_eq {c w:Nat} (hc:c<18446744073709551616) (hw:w<18446744073709551616):f102 (e1 c) (e1 w)=some (decide (c=w)):=by
 have h1:=lC c;have h2:=lC w;rw [c102 _ _ (by omega) (by omega),Yy (acS hc) (acS hw),Hu,Hu]
 congr 1
 rw [ny];exact ⟨S6,fun h=>by rw [h]⟩
theorem h55 {d:List aq} (z:Sz d) (A:Acc d) {all:List cG} {oA:List Nat} (hlen:oA.length=all.length) (h64:all.length≤64) (hnm:∀x∈all,x.length≤1000) (hlt:∀c∈oA,c<18446744073709551616) {w:Nat} (hw:w<18446744073709551616):
  ∀(xs:List cG) (ys:List Nat) (i:Nat) (acc:List cG),all.drop i=xs→oA.drop i=ys→i≤all.length→acc.length≤i→(∀x∈acc,x.length≤1000)→RU d all (oA.map e1) (e1 w) i acc=some (mM d w xs ys i acc):=by
 intro xs
 induction xs with
 |nil=>
  intro ys i acc h h' hile hacc hx;refine k55_3 ?_;have hge:=jU h;have hys:ys=[]:=by rw [←h'];exact rC (by omega)
  subst hys;rw [bI h,aj,c104 z A acc (by omega)];simp only [aA];rw [c55c _ (by have:=QN (d:=d) (l:=acc);omega) (fun x hm=>hx x (QO hm))];rfl
 |cons x xs ih=>
  intro ys i acc h h' hile hacc hx;refine k55_3 ?_;have hlt':=eo h;cases ys with
  |nil=>have:=jU h';omega
  |cons c ys=>
   have hm:(oA.map e1).drop i=e1 c::ys.map e1:=by rw [←lH,h'];rfl
   rw [bH h,ai,aX hm,subs_eq (hlt c (aT (b9 h'))) hw,aA,aX h,c103 hw (by omega),aA,aX h,bJ h (by omega)];show _=some (if c=w then x else mM d w xs ys (i+1) (if w.testBit i=true then acc++[x] else acc));by_cases e:c=w
   ·rw [cond_pos (by simpa using e),au e]
   ·rw [cond_neg (by simpa using e),ak e]
    cases hb:w.testBit i with
    |true=>
     rw [ai,cz _ (by omega) (by simp) (by omega),ih ys (i+1) (acc++[x]) (aN h) (aN h') (by omega) (by simp;omega) (fun y hy=>by
      rcases bC.1 hy with hy|hy
      ·exact hx y hy
      ·simp only [bP] at hy;subst hy;exact hnm y (aT (b9 h)))]
     simp
    |false=>
     rw [aj,ih ys (i+1) acc (aN h) (aN h') (by omega) (by omega) hx];simp
noncomputable def BJ (d:List aq) (all:List cG) (oA:List Nat) (w:Nat):cG:=mM d w all oA 0 []
theorem c55 {d:List aq} (z:Sz d) (A:Acc d) {all:List cG} {oA:List Nat} (hlen:oA.length=all.length) (h64:all.length≤64) (hnm:∀x∈all,x.length≤1000) (hlt:∀c∈oA,c<18446744073709551616) {w:Nat} (hw:w<18446744073709551616):
  f55 d all (oA.map e1) (e1 w)=some (BJ d all oA w):=e55 (h55 z A hlen h64 hnm hlt hw all oA 0 [] rfl rfl (by omega) (by simp) (fun x hx=>by cases hx))
abbrev G5:=cG×Nat
def Ky (p:G5):dR:=⟨p.1,e1 p.2⟩
def Af (p q:G5):Bool:=decide (pc p.2>pc q.2)||(decide (pc p.2=pc q.2)&&Op.bytesLess p.1 q.1)
theorem c56 {p q:G5} (hp:p.2<18446744073709551616) (hq:q.2<18446744073709551616):f56 (Ky p) (Ky q)=some (Af p q):=by
 refine e56 ?_;show Option.bind (f105 (e1 p.2)) _=_;rw [c105 hp,aA];show Option.bind (f105 (e1 q.2)) _=_;rw [c105 hq,aA];unfold Af;by_cases h1:pc p.2>pc q.2
 ·rw [cond_pos (by simp;omega)];simp [h1]
 ·rw [cond_neg (by simp;omega)]
  by_cases h2:pc p.2=pc q.2
  ·rw [cond_pos (by rw [fu,h2])]
   simp [h2,Ky]
  ·rw [cond_neg (by rw [gv];exact fun h=>h2 (Int.ofNat.inj h))];simp [h1,h2]
theorem DW {p q:G5}:Af p q=true↔pc p.2>pc q.2∨(pc p.2=pc q.2∧Op.bytesLess p.1 q.1=true):=by
 simp [Af]
theorem LD (p q:G5) (h:Af p q=true):Af q p=false:=by
 apply dA;intro hc;rw [x7,DW] at hc;rw [DW] at h;rcases h with h|⟨h1,h2⟩
 ·rcases hc with h'|⟨MO,_⟩<;>omega
 ·rcases hc with h'|⟨MO,KH⟩
  ·omega
  ·rw [td h2] at KH;cases KH
theorem T7 (x y z:G5) (h:Af x y=true) (h':Af z y=false):Af x z=true:=by
 rw [DW] at h⊢;have hn:¬(pc z.2>pc y.2∨(pc z.2=pc y.2∧Op.bytesLess z.1 y.1=true)):=fun hc=>by
  rw [←DW,h'] at hc;cases hc
 simp only [jx,not_and] at hn;rcases h with h|⟨h1,h2⟩
 ·left;omega
 ·by_cases e:pc z.2=pc y.2
  ·right
   refine ⟨by omega,?_⟩;have hz:=hn.2 e;have hz':Op.bytesLess z.1 y.1=false:=by simpa using hz
   by_cases e2:z.1=y.1
   ·rw [e2];exact h2
   ·exact Ds _ _ _ h2 (zW _ _ hz' e2)
  ·left;omega
theorem XW {α:Type} (lt:α→α→Bool) (x:α):∀l:List α,(qV lt x l).Perm (x::l):=by
 intro l
 induction l with
 |nil=>exact .refl _
 |cons y l ih=>
  unfold qV;split
  ·exact .refl _
  ·exact (ih.cons y).trans (.swap x y l)
theorem h15c {d:List aq} {all:List cG} {codes f:List (List Int)} {E:List G5} {p:G5} {i:Nat} (hE:mH Af E) (hlt:∀q∈E,q.2<18446744073709551616) (hp:p.2<18446744073709551616) (hEl:E.length≤1048576) (hi:i≤1048576):
  ∀(v:Nat),v≤E.length→(∀q∈E.drop v,Af p q=true)→∀r,CF d all codes f ((qV Af p E).map Ky) (i+1:Nat)=some r→Oc d all codes f (E.map Ky) i v (Ky p)=some r:=by
 have fin:∀(v:Nat),v≤E.length→(∀q∈E.take v,Af p q=false)→(∀q∈E.drop v,Af p q=true)→
   (((([]:List dR)++(((E.map Ky).take (Int.toNat (v:Int))).drop 0))++[Ky p])++(((E.map Ky).take (List.length (E.map Ky))).drop (Int.toNat (v:Int))))=(qV Af p E).map Ky:=by
  intro v hv h1 h2;have:=Tx Af h1 h2;rw [kj] at this;rw [this,gw];simp
 intro v
 induction v with
 |zero=>
  intro hv h r hr;refine aaO ?_;rw [←fin 0 (by omega) (by simp) h] at hr;rw [cond_neg (by simp),bp (by simp),bp (by simp),bp (by simp),bp (by simp),bp (by simp;omega),bG (by omega)];exact hr
 |succ v ih=>
  intro hv h r hr;refine aaO ?_;have hvl:v<E.length:=by omega
  have og:(E.map Ky)[v]? =some (Ky E[v]):=by rw [cZ,aH hvl];rfl
  rw [cond_pos (by simp),xF (by omega),gW og,c56 hp (hlt _ (bF hvl)),aA];cases hb:Af p E[v] with
  |true=>
   rw [ai];refine ih (by omega) ?_ r hr;intro q hq;rw [um hvl] at hq;rcases aD.1 hq with rfl|hq
   ·exact hb
   ·exact h q hq
  |false=>
   have hpre:∀q∈E.take (v+1),Af p q=false:=by
    intro q hq;rw [ur] at hq;obtain ⟨k,hk,rfl⟩:=hq;by_cases hkv:k=v
    ·subst hkv;exact hb
    ·have hs:Af E[v] E[k]=false:=by
      have:=lK.1 hE k v (by omega) hvl (by omega);exact this
     cases hc:Af p E[k] with
     |false=>rfl
     |true=>
      have:=T7 _ _ _ hc hs;rw [hb] at this;cases this
   rw [←fin (v+1) (by omega) hpre h] at hr;rw [aj,bp (by simp;omega),bp (by simp;omega),bp (by simp;omega),bp (by simp;omega),bp (by simp;omega),bG (by omega)];exact hr
theorem XC {E:List G5} {l:List G5} (hE:mH Af E):mH Af (l.foldl (fun E p=>qV Af p E) E)∧(l.foldl (fun E p=>qV Af p E) E).Perm (E++l):=by
 induction l generalizing E with
 |nil=>exact ⟨hE,by simp⟩
 |cons p l ih=>
  obtain ⟨h1,h2⟩:=ih (Ab Af LD T7 hE (x:=p));refine ⟨h1,h2.trans ?_⟩;refine ((XW Af p E).append_right l).trans ?_;exact (ya (a:=p) (l₁:=E) (l₂:=l)).symm
theorem h15b {d:List aq} (z:Sz d) (A:Acc d) {all:List cG} {oA F:List Nat} (hlen:oA.length=all.length) (h64:all.length≤64) (hnm:∀x∈all,x.length≤1000) (hlt:∀c∈oA,c<18446744073709551616)
  (hF:∀w∈F,w<18446744073709551616) (hFl:F.length≤1000):∀(xs:List Nat) (i:Nat) (E:List G5),F.drop i=xs→E.length≤i→i≤F.length→mH Af E→(∀q∈E,q.2<18446744073709551616)→
  CF d all (oA.map e1) (F.map e1) (E.map Ky) i=some (((xs.map fun w=>((BJ d all oA w,w):G5)).foldl (fun E p=>qV Af p E) E).map Ky,0):=by
 intro xs
 induction xs with
 |nil=>
  intro i E h hEl hi hE hq;refine aaN ?_;have hm:(F.map e1).drop i=[]:=by rw [←lH,h];rfl
  rw [bI hm];rfl
 |cons w xs ih=>
  intro i E h hEl hi hE hq;refine aaN ?_;have hlt':=eo h;have hm:(F.map e1).drop i=e1 w::xs.map e1:=by rw [←lH,h];rfl
  have hw:=hF w (aT (b9 h));rw [bH hm,ai,aX hm,c55 z A hlen h64 hnm hlt hw,aA,aX hm];have hlen':((E.map Ky).length:Int)=((E.length:Nat):Int):=by simp
  rw [hlen'];refine h15c (p:=(BJ d all oA w,w)) hE hq hw (by omega) (by omega) E.length (aS _) (by simp) _ ?_;refine ih (i+1) (qV Af (BJ d all oA w,w) E) (aN h) (by rw [Qv];omega) (by omega) (Ab Af LD T7 hE) ?_;intro q hq';rcases (Qw Af).1 hq' with rfl|hq'
  ·exact hw
  ·exact hq q hq'
abbrev iK (d:List aq):List cG:=mD (jQ d)
noncomputable def oA (d:List aq):List Nat:=(iK d).map (cw d (iK d))
noncomputable def cN (d:List aq):List G5:=((zA (oA d)).map fun w=>((BJ d (iK d) (oA d) w,w):G5)).foldl (fun E p=>qV Af p E) []
theorem oE {d:List aq}:(iK d).length≤d.length:=by
 have:=pZ (jQ d);simpa using this
theorem Ca {d:List aq} (h:d.length≤64):∀c∈oA d,c<18446744073709551616:=by
 intro c hc;obtain ⟨x,_,rfl⟩:=aB.1 hc;exact ZF (by have:=oE (d:=d);omega)
theorem h15a {d:List aq} (z:Sz d) (h:d.length≤64) {r:R15.T}
  (hr:(bif (decide ((((zA (oA d)).map e1).length:Int)>256)) then (some (([]:List dR),(7:Int))) else (CF d (iK d) ((oA d).map e1) ((zA (oA d)).map e1) ([]:List dR) 0))=some r):
  ∀(xs:List cG) (i:Nat),(iK d).drop i=xs→i≤(iK d).length→WC d (iK d) i ((((iK d).take i).map (cw d (iK d))).map e1)=some r:=by
 have hal:=oE (d:=d);have hz:=z.len;intro xs
 induction xs with
 |nil=>
  intro i h' hi;refine k15_7 ?_;have hge:=jU h';have e:(((iK d).take i).map (cw d (iK d)))=oA d:=by rw [jm hge];rfl
  rw [e,bI h',aj,c54 (Ca h) (by simp [oA];omega)];exact hr
 |cons x xs ih=>
  intro i h' hi;refine k15_7 ?_;have hlt:=eo h';have hx:x∈jQ d:=gB.1 (aT (b9 h'));have hd:(iK d).take (i+1)=(iK d).take i++[x]:=by
   rw [c8,b9 h'];rfl
  have:=ih (i+1) (aN h') (by omega);rw [hd,bT,bT] at this;rw [bH h',ai,aX h',c53 z (by omega) hx,aA,cz _ (by simp;omega) (by simp) (by omega),bJ h' (by omega)];exact this
theorem Tz {s:cG} (h:isName s=true):s.length≤32:=by
 unfold isName at h;simp only [aF,iZ] at h;exact h.1.1.1.2
theorem Pg {cs l:List Nat} (hF:Fm cs l) (h:∀c∈cs,c<18446744073709551616):∀c∈l,c<18446744073709551616:=
 hF.gen (fun c=>c<18446744073709551616) h fun a b ha _=>jw ki ha
theorem Qg {d:List aq} {i:Nat} (h:i<(iK d).length):(iK d).getD i []∈jQ d:=by
 rw [aQ,aH h];exact gB.1 (bF h)
theorem MZ {d:List aq} {x:cG} (h:x∈jQ d):∃i,i<(iK d).length∧(iK d).getD i []=x:=by
 obtain ⟨i,hi,e⟩:=iL.1 (gB.2 h);exact ⟨i,hi,by rw [aQ,aH hi];exact e⟩
theorem Mr {d:List aq} {x y:cG} (hy:y∈jQ d):sub (cw d (iK d) y) (cw d (iK d) x)=true↔Le d x y:=by
 rw [jY];constructor
 ·intro h
  obtain ⟨i,hi,e⟩:=MZ hy;have:=h i (yA.2 ⟨hi,by rw [e];exact .refl⟩);rw [yA,e] at this;exact this.2
 ·intro h i hi
  rw [yA] at hi⊢;exact ⟨hi.1,sN.trans h hi.2⟩
theorem cw_inj {d:List aq} (A:Acc d) {x y:cG} (hx:x∈jQ d) (hy:y∈jQ d) (h:cw d (iK d) x=cw d (iK d) y):x=y:=
 le_antisymm A ((Mr hy).1 (by rw [h];exact xC _)) ((Mr hx).1 (by rw [h];exact xC _))
theorem LK {α β:Type} {f:α→β}:∀{l:List α},l.Nodup→(∀x∈l,∀y∈l,f x=f y→x=y)→(l.map f).Nodup:=by
 intro l
 induction l with
 |nil=>intro _ _;simp
 |cons x l ih=>
  intro hn hi;have hn':=fE.1 hn;rw [aP,fE];refine ⟨fun hm=> ?_,ih hn'.2 fun a ha b hb=>hi a (by simp [ha]) b (by simp [hb])⟩;obtain ⟨y,hy,e⟩:=aB.1 hm;exact hn'.1 (hi y (by simp [hy]) x (by simp) e▸hy)
theorem AY {d:List aq} (A:Acc d):(oA d).Nodup:=LK (lZ _).nodup fun x hx y hy h=>cw_inj A (gB.1 hx) (gB.1 hy) h
theorem Ms {d:List aq}:∀c∈oA d,c≠0:=by
 intro c hc;obtain ⟨x,hx,rfl⟩:=aB.1 hc;intro e;obtain ⟨i,hi,e'⟩:=MZ (gB.1 hx);have:(cw d (iK d) x).testBit i=true:=yA.2 ⟨hi,by rw [e'];exact .refl⟩;rw [e] at this;simp at this
theorem G8 {d:List aq}:(oA d).length≤d.length:=by
 have:=oE (d:=d);simpa [oA] using this
theorem A5 {d:List aq}:mH Af (cN d)∧(cN d).Perm ((zA (oA d)).map fun w=>((BJ d (iK d) (oA d) w,w):G5)):=by
 have:=XC (E:=[]) (l:=(zA (oA d)).map fun w=>((BJ d (iK d) (oA d) w,w):G5)) (by simp [mH]);simpa [cN] using this
theorem A4 {d:List aq}:((cN d).map (·.2)).Perm (zA (oA d)):=by
 have:=(A5 (d:=d)).2.map (·.2);simpa [kD] using this
theorem Tr {d:List aq} (A:Acc d) (h64:d.length≤64) (hle:(zA (oA d)).length≤256):YZ ((cN d).map (·.2)):=by
 have hlen:(oA d).length≤256:=by have:=G8 (d:=d);omega
 obtain ⟨F,_,F3⟩:=DI (AY A) Ms hlen;have hP:=A4 (d:=d);have hmem:∀c,c∈(cN d).map (·.2)↔c∈zA (oA d):=fun c=>hP.mem_iff
 have hlt:=Pg F (Ca h64);have hnd:((cN d).map (·.2)).Nodup:=hP.nodup_iff.2 F.nd;have hgetD:∀(i:Nat) (hi:i<((cN d).map (·.2)).length),((cN d).map (·.2)).getD i 0=((cN d)[i]'(by simpa using hi)).2:=by
  intro i hi;rw [aQ,aH hi];simp
 have hsrt:∀i j,i<((cN d).map (·.2)).length→j<((cN d).map (·.2)).length→sub (((cN d).map (·.2)).getD j 0) (((cN d).map (·.2)).getD i 0)=true→i≤j:=by
  intro i j hi hj hs;apply dA;intro hc;have hji:j<i:=by omega
  have hpw:=lK.1 (A5 (d:=d)).1 j i (by simpa using hj) (by simpa using hi) hji;have hne:((cN d).map (·.2)).getD j 0≠((cN d).map (·.2)).getD i 0:=fun e=>by
   have:=getD_inj hnd hj hi e;omega
  have hp:=pc_lt (hlt _ ((hmem _).1 (kG hi))) hs hne;rw [hgetD i hi,hgetD j hj] at hp;have:Af ((cN d)[i]'(by simpa using hi)) ((cN d)[j]'(by simpa using hj))=true:=DW.2 (.inl hp);rw [this] at hpw;cases hpw
 obtain ⟨t,ht,hroot⟩:=root A;have hr:cw d (iK d) t∈zA (oA d):=by
  obtain ⟨e,he⟩:=F.pre;rw [he];exact eC _ (jc (gB.2 ht))
 have hsub:∀c∈zA (oA d),sub c (cw d (iK d) t)=true:=F.gen (fun c=>sub c (cw d (iK d) t)=true) (fun c hc=>by
  obtain ⟨x,hx,rfl⟩:=aB.1 hc
  exact (Mr (gB.1 hx)).2 (hroot x (gB.1 hx))) (fun a b ha _=>xD (Eo a b) ha)
 have hpos:0<((cN d).map (·.2)).length:=xQ ((hmem _).2 hr);obtain ⟨k,hk,hke⟩:∃k,k<((cN d).map (·.2)).length∧((cN d).map (·.2)).getD k 0=cw d (iK d) t:=by
  obtain ⟨k,hk,h1,_⟩:=ME ((hmem _).2 hr);exact ⟨k,hk,h1⟩
 have hk0:k=0:=by
  have:=hsrt k 0 hk hpos (by rw [hke];exact hsub _ ((hmem _).1 (kG hpos)));omega
 subst hk0;refine ⟨hnd,fun c hc=>F.nz c ((hmem c).1 hc),fun a ha b hb hne=>(hmem _).2 (F3 hle a ((hmem a).1 ha) b ((hmem b).1 hb) hne),fun c hc=>by rw [hke];exact hsub c ((hmem c).1 hc),hpos,hsrt⟩
theorem cd_ents {d:List aq} (A:Acc d) (h64:d.length≤64) (hle:(zA (oA d)).length≤256):Cd ((cN d).map Ky) ((cN d).map (·.2)):=by
 have hlen:(oA d).length≤256:=by have:=G8 (d:=d);omega
 obtain ⟨F,_,F3⟩:=DI (AY A) Ms hlen;have hP:=A4 (d:=d);refine ⟨by simp [kD,Ky],fun c hc=>Pg F (Ca h64) c (hP.mem_iff.1 hc),?_⟩;rw [hP.length_eq];omega
theorem c15 {d:List aq} (z:Sz d) (h64:d.length≤64):f15 d=some (if ID d≠0 then ([],ID d) else if (zA (oA d)).length>256 then ([],7) else ((cN d).map Ky,0)):=by
 have hl:=z.len;have hal:=oE (d:=d);refine e15 ?_;rw [c32 z,aA];by_cases h0:ID d=0
 ·have A:=HZ h0
  rw [ak (by simpa using h0),h0,cond_neg (by simp),c52 d (by omega),aA];refine h15a z h64 ?_ _ 0 rfl (by omega);by_cases h1:(zA (oA d)).length>256
  ·rw [cond_pos (by simp;omega),au h1]
  ·rw [cond_neg (by simp;omega),ak h1]
   have hlen:(oA d).length≤256:=by have:=G8 (d:=d);omega
   obtain ⟨F,_,_⟩:=DI (AY A) Ms hlen
   exact h15b z A (by simp [oA]) (by omega) (fun x hx=>by
    obtain ⟨t,ht,rfl⟩:=aB.1 (gB.1 hx)
    have:=Tz (A.name t ht);omega) (Ca h64) (Pg F (Ca h64)) (by omega) _ 0 [] rfl (by simp) (by omega) (by simp [mH]) (fun q hq=>by cases hq)
 ·rw [au h0,cond_pos (by simpa using h0)]
end Go.Proofs.YthppjmoncapdfaaGreatDoor.cl
namespace Go.Proofs.YthppjmoncapdfaaGreatDoor.cl
open Go Go.AM
end Go.Proofs.YthppjmoncapdfaaGreatDoor.cl
