/- The Closure laws. -/
import Derived.Test.YthppjmoncapdfaaGreatDoorClNb
set_option linter.all false
open Go.IntKind (wrap)
namespace Go.Proofs.YthppjmoncapdfaaGreatDoor.cl
open Go Go.AM
def mk (w:Nat):List Nat->Nat
 |[]=>w
 |j::l=>mk (w|||2^ j) l
def mk_bit:∀(l:List Nat) (w i:Nat),(mk w l).testBit i=(w.testBit i||decide (i∈l)):=by intro l;induction l with
 |nil=>intro w i;simp[mk]
 |cons j l q=>
  intro w i;rw[mk,q,Nat.testBit_or,Nat.testBit_two_pow];by_cases h:j=i
  .subst h;simp
  .have:¬i=j:=λe=>h e.symm
   simp[h,this]
def DM {j:Nat} (h:j<64):2^ j<18446744073709551616:=by have:=Nat.pow_lt_pow_right (a:=2) af h;simpa using this
def mk_lt:∀(l:List Nat) (w:Nat),w<18446744073709551616->(∀j∈l,j<64)->mk w l<18446744073709551616:=by intro l;induction l with
 |nil=>intro w h _;exact h
 |cons j l B=>intro w h q;exact B _ (acH h (DM (q j ah))) λk z=>q k (by simp[z])
abbrev acT (w:Nat):W:=(w:Int)::List.replicate 63 0
def Uu (w:Nat):norm (acT w)=e1 w:=by rw[<-GQ w];apply Rl;intro j;cases j with
 |zero=>rw[LS];rfl
 |succ j=>rw[U6];unfold wd acT;rw[List.getD_cons_succ,aX,jm];split<;>rfl
def ac1 {x:Nat} (h:x<64):Int.tdiv (x:Int) 64=0:=by rw[Int.tdiv_eq_ediv_of_nonneg af];omega
def ac2 {x:Nat} (h:x<64):Int.tmod (x:Int) 64=(x:Int):=by rw[Int.tmod_eq_emod_of_nonneg af];omega
def Az {p:Nat} (h:p<18446744073709551616):wrap .u64 (p:Int)=(p:Int):=su af af
def h100 {l:List Nat} (N:l.length<=1048576) (B:∀j∈l,j<64):∀(xs:List Nat) (i w:Nat),l.drop i=xs->w<18446744073709551616->NY (cast l) i (acT w)=some (e1 (mk w xs),0):=by intro xs;induction xs with
 |nil=>intro i w h D;refine aaz ?_;rw[bp (Zs h),az,c60 _ ah,Uu];rfl
 |cons x xs L=>
  intro i w h D;refine aaz ?_;have q:x<64:=B x (aH (bB h));have z:wrap .i64 (Int.tdiv (x:Int) 64)=0:=by rw[ac1 q];rfl
  have F:wrap .u64 (Int.tmod (x:Int) 64)=(x:Int):=by rw[ac2 q,Az af]
  have G:min x (IntKind.bits .u64)=x:=by show min x 64=x;omega
  have H:wrap .u64 (1 *2^ x)=((2^ x:Nat):Int):=by
   have K:=DM q
   have:(1 *2^ x:Int)=((2^ x:Nat):Int):=ah
   rw[this,Az K]
  have I:wrap .u64 ((BitVec.ofInt (IntKind.bits .u64) (w:Int)|||BitVec.ofInt (IntKind.bits .u64) ((2^ x:Nat):Int)).toNat:Int)=((w|||2^ x:Nat):Int):=acG D (DM q);simp only[aQ (Ez h),aZ (Ez h),ai,z,F,G,H,Int.toNat_zero,aP,aY (Ez h) aD];rw[cond_neg ah,cond_neg aD,bh (by decide),bh (by decide),bh ah,gE (x:=(w:Int)) ah,bh (by decide),bh af,bh ah,gE (x:=(w:Int)) ah,I];exact L (i+1) _ (aG h) (acH D (DM q))
def c100 {l:List Nat} (w:l.length<=1048576) (q:∀j∈l,j<64):f100 (cast l)=some (e1 (mk 0 l),0):=by refine e100 ?_;rw[bh (by decide)];exact h100 w q l 0 0 rfl af
def c103 {w i:Nat} (N:w<18446744073709551616) (D:i<64):f103 (e1 w) i=some (w.testBit i):=by
 refine e103 ?_;have l:wrap .i64 (Int.tdiv (i:Int) 64)=0:=by rw[ac1 D];rfl
 have F:wrap .u64 (Int.tmod (i:Int) 64)=(i:Int):=by rw[ac2 D,Az af]
 have G:min i (IntKind.bits .u64)=i:=by show min i 64=i;omega
 simp only[l,F,G,aP];rw[cond_neg ah,bh (by decide)];by_cases B:w=0
 .subst B;rw[cond_pos (by simp[e1])];simp
 .have K:e1 w=[(w:Int)]:=by simp[e1,B]
  rw[K,cond_neg ah,bh (by decide),zK (x:=(w:Int)) af ah,bh (by decide),bh af];have H:Int.fdiv (w:Int) (2^ i)=((w / 2^ i:Nat):Int):=by rw[show(2^ i:Int)=((2^ i:Nat):Int) by simp,CQ _ (xI _)];simp
  have L:w / 2^ i<18446744073709551616:=jg (Nat.div_le_self _ _) N;have z:=Es L (v:=1) af;unfold Fs at z;rw[H];have I:((1:Nat):Int)=1:=rfl;rw[I] at z;rw[z,Nat.and_one_is_mod,Nat.testBit_eq_decide_div_mod_eq];congr 1;generalize w / 2^ i % 2=q;rw[jk,ga,bF];omega
def bitsOf (w:Nat):List Nat:=(List.range 64).filter w.testBit
def h139 {w:Nat} (H:w<18446744073709551616) (D:w≠0):∀(n i:Nat),64-i=n->i<=64->JF (e1 w) i (cast ((List.range i).filter w.testBit))=some (cast (bitsOf w)):=by
 have G:e1 w=[(w:Int)]:=by simp[e1,D]
 have l:wrap .i64 (64 *((e1 w).length:Int))=64:=by rw[G];rfl
 intro n;induction n with
 |zero=>
  intro i F z;obtain rfl:i=64:=by omega
  refine TM ?_;rw[l,cond_neg ah];rfl
 |succ n I=>intro i F z;refine TM ?_;have q:=I (i+1) af af;rw[iN,CR] at q;rw[l,cond_pos aD,c103 H af,ak,bl af];cases B:w.testBit i with
  |true=>
   rw[show List.filter w.testBit [i]=[i] by simp[B],cast,bJ] at q
   rw[ai,bT _ (by
    simp only[aU];refine dz (kW _ _) ?_
    simp;omega) ah af]
   exact q
  |false=>rw[show List.filter w.testBit [i]=[] by simp[B],eW] at q;rw[az];exact q
def c139 {w:Nat} (q:w<18446744073709551616):f139 (e1 w)=some (cast (bitsOf w)):=by
 refine e139 ?_;by_cases l:w=0
 .subst l;refine TM ?_;rw[show e1 0=[] from rfl,cond_neg (by decide)]
  have:bitsOf 0=[]:=by simp[bitsOf]
  rw[this];rfl
 .exact h139 q l _ 0 rfl af
def pc (w:Nat):Nat:=(bitsOf w).length
def c105 {w:Nat} (l:w<18446744073709551616):f105 (e1 w)=some (pc w:Int):=by refine e105 ?_;rw[c139 l,ak,aU];rfl
def EC {L:Type} {p q:L->Bool}:∀{l:List L},(∀x∈l,p x=true->q x=true)->(∃x∈l,p x=false/\q x=true)->(l.filter p).length<(l.filter q).length:=by intro l;induction l with
 |nil=>rintro _ ⟨x,w,_⟩;cases w
 |cons y l O=>
  intro G N;have H:∀{l:List L},(∀x∈l,p x=true->q x=true)->(l.filter p).length<=(l.filter q).length:=by intro l;induction l with
   |nil=>intro _;simp
   |cons z l K=>
    intro h;have:=K λx w=>h x (by simp[w])
    cases B:p z with
    |true=>simp[fI,B,h z ah B];omega
    |false=>cases I:q z<;>simp[fI,B,I]<;>omega
  have P:=H (l:=l) λx w=>G x (by simp[w])
  obtain⟨x,w,D,F⟩:=N;rcases aF.1 w with rfl|w
  .simp[fI,D,F];omega
  .have:=O (λx w=>G x (by simp[w])) ⟨x,w,D,F⟩;cases B:p y with
   |true=>simp[fI,B,G y ah B];omega
   |false=>cases I:q y<;>simp[fI,B,I]<;>omega
def pc_lt {a b:Nat} (D:b<18446744073709551616) (h:sub a b=true) (w:a≠b):pc a<pc b:=by
 apply EC
 .intro i _ l;exact jJ.1 h i l
 .apply dm;intro z;apply w;refine rI h (jJ.2 λi l=> ?_);have q:i<64:=by
   apply dm;intro z
   have:b.testBit i=false:=xL (eM (by simpa using D:b<2^ 64) (xM af af))
   rw[this] at l;cases l
  cases B:a.testBit i with
  |true=>rfl
  |false=>exact absurd ⟨i,by simpa using q,B,l⟩ z
open Classical in
noncomputable def idxs (d:List aA) (all:List cK) (x:cK):List Nat:=(List.range all.length).filter λi=>decide (Le d x (all.getD i []))
noncomputable def cw (d:List aA) (all:List cK) (x:cK):Nat:=mk 0 (idxs d all x)
def ye {d:List aA} {all:List cK} {x:cK} {i:Nat}:(cw d all x).testBit i=true↔i<all.length/\Le d x (all.getD i []):=by rw[cw,mk_bit,Nat.zero_testBit,iJ,bF,idxs,cG,eH];simp only[jV]
def ZD {d:List aA} {all:List cK} {x:cK} (h:all.length<=64):cw d all x<18446744073709551616:=mk_lt _ _ af λj l=>by have:=eH.1 (cG.1 l).1;omega
def h53 {d:List aA} {all low:List cK} {x:cK} (q:all.length<=64) (H:low.length<=1048576) (G:∀y,y∈low↔Le d x y):∀(n i:Nat),all.length-i=n->i<=all.length->
  R4 all low i (cast (open Classical in (List.range i).filter λi=>decide (Le d x (all.getD i []))))=some (e1 (cw d all x)):=by
 intro n;induction n with
 |zero=>
  intro i I B;obtain rfl:i=all.length:=by omega
  refine k53_4 ?_;have l:(idxs d all x).length<=64:=by refine dz (kW _ _) ?_;simpa using q
  have:=c100 (l:=idxs d all x) af λj K=>by have:=eH.1 (cG.1 K).1;omega
  unfold idxs at this;rw[cond_neg ah,this];rfl
 |succ n L=>
  intro i I B;refine k53_4 ?_;have l:=L (i+1) af af;rw[iN,CR] at l;have w:i<all.length:=af;have F:all[i]=all.getD i []:=by rw[aX,aK w];rfl
  rw[cond_pos aD,bR w,Zp _ _ af,ak,bl af];by_cases z:Le d x (all.getD i [])
  .have D:all[i]∈low:=by rw[F];exact(G _).2 z
   rw[cond_pos (by simpa using D),bT _ (by
    simp only[aU];refine dz (kW _ _) ?_
    simp;omega) ah af]
   rw[show(List.filter (open Classical in λi=>decide (Le d x (all.getD i []))) [i])=[i] by rw[fI,au (by simpa using z)];rfl,cast,bJ] at l;exact l
  .have D:all[i]∉low:=by rw[F];exact λh=>z ((G _).1 h)
   rw[cond_neg (by simpa using D)];rw[show(List.filter (open Classical in λi=>decide (Le d x (all.getD i []))) [i])=[] by rw[fI,aq (by simpa using z)];rfl,eW] at l;exact l
def c53 {d:List aA} (z:Sz d) {all:List cK} (q:all.length<=64) {x:cK} (D:x∈jF d):f53 d all x=some (e1 (cw d all x)):=by refine e53 ?_;obtain⟨l,w,_,B,F⟩:=c99 z D;have:=z.len;rw[w,ak];exact h53 q af B _ 0 rfl af
def h101 {l:List Nat} (z:∀c∈l,c<18446744073709551616) (B:l.length<=1048576) {w:Nat} (D:w<18446744073709551616):∀(xs:List Nat) (i:Nat),l.drop i=xs->NZ (l.map e1) (e1 w) i=some (decide (w∈xs)):=by intro xs;induction xs with
 |nil=>
  intro i h;refine aaA ?_;have q:(l.map e1).drop i=[]:=by rw[<-kU,h];rfl
  rw[bp q];simp
 |cons x xs F=>
  intro i h;refine aaA ?_;have q:(l.map e1).drop i=e1 x::xs.map e1:=by rw[<-kU,h];rfl
  rw[aZ q,ai,aQ q,o57 (z x (aH (bB h))) D,ak,aY q aD,F (i+1) (aG h)];by_cases e:x=w
  .subst e;simp
  .have:¬w=x:=λh=>e h.symm
   simp[e,this]
def c101 {l:List Nat} (z:∀c∈l,c<18446744073709551616) (q:l.length<=1048576) {w:Nat} (B:w<18446744073709551616):f101 (l.map e1) (e1 w)=some (decide (w∈l)):=e101 (h101 z q B l 0 rfl)
def yY (l:List Nat) (b:Nat):List Nat:=if b=0\/b∈l then l else l++[b]
def q9 (i:Nat):Nat->Nat->List Nat->List Nat
 |0,_,l=>l
 |n+1,k,l=>if l.length<=256 then q9 i n (k+1) (yY l (l.getD i 0&&&l.getD k 0)) else l
def pJ:Nat->Nat->List Nat->List Nat
 |0,_,l=>l
 |n+1,i,l=>if i<l.length/\l.length<=256 then pJ n (i+1) (q9 i i 0 l) else l
def y8 (cs:List Nat):List Nat:=pJ 258 0 cs
def Hu (l:List Nat) (b:Nat):∃e,yY l b=l++e/\e.length<=1:=by
 unfold yY;split
 .exact⟨[],by simp,ah⟩
 .exact⟨[b],rfl,ah⟩
def K4 (i:Nat):∀(n k:Nat) (l:List Nat),l.length<=257->∃e,q9 i n k l=l++e/\(l++e).length<=257:=by intro n;induction n with
 |zero=>intro k l h;exact⟨[],by simp[q9],by simpa using h⟩
 |succ n F=>
  intro k l h;unfold q9;split
  .obtain⟨e,z,D⟩:=Hu l (l.getD i 0&&&l.getD k 0);obtain⟨B,w,q⟩:=F (k+1) (yY l (l.getD i 0&&&l.getD k 0)) (by rw[z];simp;omega);rw[w];rw[z] at q⊢;exact⟨e++B,by simp,by simpa using q⟩
  .exact⟨[],by simp,by simpa using h⟩
def Vh {l:List Nat} {b:Nat} (w:∀c∈l,c<18446744073709551616) (z:b<18446744073709551616):∀c∈yY l b,c<18446744073709551616:=by
 intro c q;unfold yY at q;split at q
 .exact w c q
 .rcases bu.1 q with h|h
  .exact w c h
  .simp only[bW] at h;subst h;exact z
def getD_map {l:List Nat} {i:Nat} (h:i<l.length):(l.map e1)[i]? =some (e1 (l.getD i 0)):=by rw[dB,aX,aK h];rfl
def MB {l:List Nat} {i:Nat} (q:∀c∈l,c<18446744073709551616) (h:i<l.length):l.getD i 0<18446744073709551616:=q _ (kj h)
def h54b {i:Nat}:∀(n k:Nat) (l:List Nat),i-k=n->k<=i->i<l.length->l.length<=257->(∀c∈l,c<18446744073709551616)->∀r,
  LM (i+1:Nat) ((q9 i n k l).map e1)=some r->LN i k (l.map e1)=some r:=by
 intro n;induction n with
 |zero=>intro k l U R O I z r G;refine k54_6 ?_;rw[cond_neg aD,bl af];exact G
 |succ n V=>
  intro k l U R O I z r G;refine k54_6 ?_;rw[cond_pos aD,bl af,bl af];unfold q9 at G;by_cases B:l.length<=256
  .rw[au B] at G;have H:=MB z O;have P:=MB z (show k<l.length by omega);have D:l.getD i 0&&&l.getD k 0<18446744073709551616:=jg jZ H;rw[cond_pos aD,bh aD,aP,gE (getD_map O),bh aD,aP,gE (getD_map af),o61 H P,ak];have K:=Hu l (l.getD i 0&&&l.getD k 0);have w:(yY l (l.getD i 0&&&l.getD k 0)).length<=257/\i<(yY l (l.getD i 0&&&l.getD k 0)).length:=by
    obtain⟨e,Q,S⟩:=K;rw[Q];simp;omega
   have q:=V (k+1) (yY l (l.getD i 0&&&l.getD k 0)) af af w.2 w.1 (Vh z D) r G;by_cases N:l.getD i 0&&&l.getD k 0=0
   .rw[N] at q⊢;rw[cond_neg (by simp[e1])]
    have:yY l 0=l:=by simp[yY]
    rw[this] at q;exact q
   .have F:(e1 (l.getD i 0&&&l.getD k 0)).length=1:=by
     unfold e1;rw[aq N];rfl
    rw[cond_pos (by rw[F];decide),c101 z af D,ak];by_cases L:l.getD i 0&&&l.getD k 0∈l
    .rw[cond_neg (by simpa using L)]
     have:yY l (l.getD i 0&&&l.getD k 0)=l:=au (.inr L)
     rw[this] at q;exact q
    .rw[cond_pos (by simpa using L),bT _ aD ah af]
     have:yY l (l.getD i 0&&&l.getD k 0)=l++[l.getD i 0&&&l.getD k 0]:=aq (by simp only[jS];exact⟨N,L⟩)
     rw[this,bJ] at q;exact q
  .rw[aq B] at G;rw[cond_neg aD];exact G
def ZW (i:Nat):∀(n k:Nat) (l:List Nat),(∀c∈l,c<18446744073709551616)->∀c∈q9 i n k l,c<18446744073709551616:=by intro n;induction n with
 |zero=>intro k l h;exact h
 |succ n w=>
  intro k l h;unfold q9;split
  .refine w _ _ (Vh h ?_);by_cases q:i<l.length
   .exact jg jZ (MB h q)
   .rw[aX,fA af];simp
  .exact h
def h54:∀(n i:Nat) (l:List Nat),258<=i+n->l.length<=257->(∀c∈l,c<18446744073709551616)->LM i (l.map e1)=some ((pJ n i l).map e1):=by intro n;induction n with
 |zero=>intro i l G q w;refine k54_3 ?_;rw[cond_neg aD];rfl
 |succ n H=>
  intro i l G q w;refine k54_3 ?_;unfold pJ;by_cases z:i<l.length
  .rw[cond_pos aD];by_cases D:l.length<=256
   .rw[cond_pos aD,au ⟨z,D⟩];obtain⟨e,F,B⟩:=K4 i i 0 l q;refine h54b i 0 l rfl af z q w _ ?_;exact H (i+1) _ af (by rw[F];exact B) (ZW i i 0 l w)
   .rw[cond_neg aD,aq (λh=>D h.2)]
  .rw[cond_neg aD,aq (λh=>z h.1)]
def c54 {l:List Nat} (q:∀c∈l,c<18446744073709551616) (w:l.length<=256):f54 (l.map e1)=some ((y8 l).map e1):=by refine e54 ?_;rw[bT _ ah aD af,dw];exact h54 258 0 l af af q
structure Fm (cs l:List Nat):Prop where
 nd:l.Nodup
 nz:∀c∈l,c≠0
 gen:∀P:Nat->Prop,(∀c∈cs,P c)->(∀a b,P a->P b->P (a&&&b))->∀c∈l,P c
 pre:∃e,l=cs++e
def Fm.add {F l:List Nat} (h:Fm F l) {i k:Nat} (K:i<l.length) (L:k<l.length):Fm F (yY l (l.getD i 0&&&l.getD k 0)):=by
 unfold yY;split
 .exact h
 .rename_i D;simp only[jS] at D;refine⟨?_,?_,?_,?_⟩
  .rw[gV];exact⟨h.nd,by simp,λa H b G=>by simp only[bW] at G;subst G;exact λe=>D.2 (e▸H)⟩
  .intro c w;rcases bu.1 w with q|q
   .exact h.nz c q
   .simp only[bW] at q;subst q;exact D.1
  .intro P B z c w;rcases bu.1 w with q|q
   .exact h.gen P B z c q
   .simp only[bW] at q;subst q;exact z _ _ (h.gen P B z _ (kj K)) (h.gen P B z _ (kj L))
  .obtain⟨e,I⟩:=h.pre;exact⟨e++[l.getD i 0&&&l.getD k 0],by rw[I];simp⟩
def wL {l e:List Nat} {i:Nat} (h:i<l.length):(l++e).getD i 0=l.getD i 0:=by rw[aX,aX,dA h]
def addF_in (l:List Nat) (b:Nat):b=0\/b∈yY l b:=by
 unfold yY;split
 .assumption
 .simp
def Tq {cs:List Nat} (i:Nat):∀(n k:Nat) (l:List Nat),Fm cs l->i<l.length->k+n<=i->Fm cs (q9 i n k l)/\((q9 i n k l).length<=256->∀j,k<=j->j<k+n->l.getD i 0&&&l.getD j 0=0\/l.getD i 0&&&l.getD j 0∈q9 i n k l)/\∃e,q9 i n k l=l++e:=by intro n;induction n with
 |zero=>intro k l h B P;exact⟨h,λ_ j K L=>by omega,[],by simp[q9]⟩
 |succ n Q=>
  intro k l h B P;unfold q9;split
  .obtain⟨e,w,_⟩:=Hu l (l.getD i 0&&&l.getD k 0);have D:i<(yY l (l.getD i 0&&&l.getD k 0)).length:=by rw[w];simp;omega
   obtain⟨G,H,I,F⟩:=Q (k+1) _ (h.add B af) D af;refine⟨G,λq j K L=> ?_,e++I,by rw[F,w];simp⟩;by_cases O:j=k
   .subst O;rcases addF_in l (l.getD i 0&&&l.getD j 0) with z|z
    .exact .inl z
    .right;rw[F];exact dU _ z
   .have:=H q j af af;rw[w,wL B,wL af] at this;rw[w];exact this
  .rename_i N;refine⟨h,λq=>absurd q N,[],ah⟩
def Qb {cs:List Nat}:∀(n i:Nat) (l:List Nat),258<=i+n->l.length<=257->Fm cs l->(∀a b,a<i->b<a->a<l.length->l.getD a 0&&&l.getD b 0=0\/l.getD a 0&&&l.getD b 0∈l)->
  Fm cs (pJ n i l)/\(pJ n i l).length<=257/\((pJ n i l).length<=256->∀a b,b<a->a<(pJ n i l).length->(pJ n i l).getD a 0&&&(pJ n i l).getD b 0=0\/(pJ n i l).getD a 0&&&(pJ n i l).getD b 0∈pJ n i l):=by
 intro n;induction n with
 |zero=>intro i l hn w h I;exact⟨h,w,λ_ a b O H=>I a b (by have U:a<l.length:=H;omega) O H⟩
 |succ n ih=>
  intro i l hn w h I;unfold pJ;split
  .rename_i K;obtain⟨R,S,e,L⟩:=Tq (cs:=cs) i i 0 l h K.1 af;obtain⟨e',Q,G⟩:=K4 i i 0 l w;have z:(q9 i i 0 l).length<=257:=by rw[Q];exact G
   by_cases q:(q9 i i 0 l).length<=256
   .refine ih (i+1) _ af z R ?_;intro a b V P hal;by_cases F:a=i
    .subst F;rw[L,wL K.1,wL af,<-L];exact S q b af af
    .rw[L,wL af,wL af];rcases I a b af P af with N|N
     .exact .inl N
     .exact .inr (dU _ N)
   .have B:∀n,pJ n (i+1) (q9 i i 0 l)=q9 i i 0 l:=by
     intro n;cases n with
     |zero=>rfl
     |succ n=>unfold pJ;rw[aq (λh=>q h.2)]
    rw[B];exact⟨R,z,λh=>absurd h q⟩
  .rename_i K;refine⟨h,w,λD a b O H=> ?_⟩
   have:¬i<l.length:=λhh=>K ⟨hh,D⟩
   exact I a b af O H
def Dp {cs:List Nat} (G:cs.Nodup) (H:∀c∈cs,c≠0) (L:cs.length<=256):Fm cs (y8 cs)/\(y8 cs).length<=257/\((y8 cs).length<=256->∀a∈y8 cs,∀b∈y8 cs,a&&&b≠0->a&&&b∈y8 cs):=by
 obtain⟨B,N,I⟩:=Qb (cs:=cs) 258 0 cs af af ⟨G,H,λP B _=>B,[],ah⟩ (λa b h=>by omega);refine⟨B,N,λq a O b Q l=> ?_⟩;obtain⟨i,D,rfl⟩:=iw.1 O;obtain⟨j,K,rfl⟩:=iw.1 Q;have w:(y8 cs)[i]=(y8 cs).getD i 0:=by rw[aX,aK D];rfl
 have z:(y8 cs)[j]=(y8 cs).getD j 0:=by rw[aX,aK K];rfl
 rw[w,z] at l⊢;by_cases e:i=j
 .subst e;rw[Nat.and_self];exact kj D
 .by_cases F:j<i
  .exact(I q i j F D).resolve_left l
  .rw[Nat.and_comm] at l⊢;exact(I q j i af K).resolve_left l
end Go.Proofs.YthppjmoncapdfaaGreatDoor.cl
namespace Go.Proofs.YthppjmoncapdfaaGreatDoor.cl
open Go Go.AM
def vj (l:List cK):cK:=(l.map λx=>38::x).flatten
def B3 (x:cK) (l:List cK):rT [38] (x::l)=x++vj l:=by induction l generalizing x with
 |nil=>simp[rT,vj]
 |cons y l q=>rw[show rT [38] (x::y::l)=x++[38]++rT [38] (y::l) from rfl,q y];simp[vj]
def h55c (l:List cK) (G:l.length<=1048576) (B:∀x∈l,x.length<=1000):∀(xs:List cK) (i:Nat) (s:cK),l.drop i=xs->0<i->s.length<=1001 *i->E8 l s i=some (s++vj xs):=by intro xs;induction xs with
 |nil=>intro i s h q z;refine Ua ?_;rw[bp h];simp[vj]
 |cons x xs F=>intro i s h q z;refine Ua ?_;have w:=c7 h;have D:=B x (aH (bB h));rw[aZ h,ai,cond_pos aD,bh aD,aQ h,bh aD,aY h af,F (i+1) _ (aG h) af aD];simp[vj]
def c55c (l:List cK) (F:l.length<=1048576) (w:∀x∈l,x.length<=1000):E8 l [] 0=some (rT [38] l):=by refine Ua ?_;cases q:l with
 |nil=>rfl
 |cons x xs=>have h:l.drop 0=x::xs:=q;rw[<-q];have D:((0:Nat):Int)=0:=rfl;have z:=aZ h;have B:= @aQ _ R55.T _ _ _ _ h;rw[D] at z B;rw[z,ai,cond_neg ah,B,bh (by have:=w x (by rw[q];simp);simp;omega)];have:=h55c l F w xs 1 ([]++x) (aG h) af (by have:=w x (by rw[q];simp);simp;omega);rw[q,B3,<-q];exact this
noncomputable def mj (d:List aA) (w:Nat):List cK->List Nat->Nat->List cK->cK
 |s::ss,c::q,i,l=>if c=w then s else mj d w ss q (i+1) (if w.testBit i=true then l++[s] else l)
 |_,_,_,l=>rT [38] (uX d l)
def Ra {d:List aA} {l:List cK} {x:cK} (h:x∈uX d l):x∈l:=by have:=(cG.1 h).1;exact(cG.1 (gu.1 this)).1
def QZ {d:List aA} {l:List cK}:(uX d l).length<=l.length:=by refine dz (kW _ _) (dz (pq _) (kW _ _))
def subs_eq {c w:Nat} (l:c<18446744073709551616) (q:w<18446744073709551616):f102 (e1 c) (e1 w)=some (decide (c=w)):=by have z:=mb c;have B:=mb w;rw[c102 _ _ af af,Yv (adi l) (adi q),GQ,GQ];congr 1;rw[mU];exact⟨Tj,λh=>by rw[h]⟩
def h55 {d:List aA} (z:Sz d) (A:Acc d) {all:List cK} {nW:List Nat} (O:nW.length=all.length) (S:all.length<=64) (L:∀x∈all,x.length<=1000) (I:∀c∈nW,c<18446744073709551616) {w:Nat} (Q:w<18446744073709551616):
  ∀(xs:List cK) (q:List Nat) (i:Nat) (l:List cK),all.drop i=xs->nW.drop i=q->i<=all.length->l.length<=i->(∀x∈l,x.length<=1000)->R5 d all (nW.map e1) (e1 w) i l=some (mj d w xs q i l):=by
 intro xs;induction xs with
 |nil=>
  intro q i l h B G F H;refine k55_3 ?_;have U:=iF h;have N:q=[]:=by rw[<-B];exact mS af
  subst N;rw[bp h,az,c104 z A l af];simp only[ak];rw[c55c _ (by have:=QZ (d:=d) (l:=l);omega) (λx K=>H x (Ra K))];rfl
 |cons x xs R=>intro q i l h B G F H;refine k55_3 ?_;have P:=c7 h;cases q with
  |nil=>have:=iF B;omega
  |cons c q=>
   have K:(nW.map e1).drop i=e1 c::q.map e1:=by rw[<-kU,B];rfl
   rw[aZ h,ai,aQ K,subs_eq (I c (aH (bB B))) Q,ak,aQ h,c103 Q af,ak,aQ h,aY h af];show _=some (if c=w then x else mj d w xs q (i+1) (if w.testBit i=true then l++[x] else l));by_cases e:c=w
   .rw[cond_pos (by simpa using e),au e]
   .rw[cond_neg (by simpa using e),aq e];cases V:w.testBit i with
    |true=>
     rw[ai,bT _ af ah af,R q (i+1) (l++[x]) (aG h) (aG B) af aD (λy D=>by
      rcases bu.1 D with D|D
      .exact H y D
      .simp only[bW] at D;subst D;exact L y (aH (bB h)))]
     simp
    |false=>rw[az,R q (i+1) l (aG h) (aG B) af af H];simp
noncomputable def Bt (d:List aA) (all:List cK) (nW:List Nat) (w:Nat):cK:=mj d w all nW 0 []
def c55 {d:List aA} (z:Sz d) (A:Acc d) {all:List cK} {nW:List Nat} (l:nW.length=all.length) (q:all.length<=64) (D:∀x∈all,x.length<=1000) (B:∀c∈nW,c<18446744073709551616) {w:Nat} (F:w<18446744073709551616):
  f55 d all (nW.map e1) (e1 w)=some (Bt d all nW w):=e55 (h55 z A l q D B F all nW 0 [] rfl rfl af ah (λx G=>by cases G))
abbrev Gy:=cK×Nat
def Kh (p:Gy):dX:=⟨p.1,e1 p.2⟩
def zQ (p q:Gy):Bool:=decide (pc p.2>pc q.2)||(decide (pc p.2=pc q.2)&&Op.bytesLess p.1 q.1)
def c56 {p q:Gy} (z:p.2<18446744073709551616) (B:q.2<18446744073709551616):f56 (Kh p) (Kh q)=some (zQ p q):=by
 refine e56 ?_;show Option.bind (f105 (e1 p.2)) _=_;rw[c105 z,ak];show Option.bind (f105 (e1 q.2)) _=_;rw[c105 B,ak];unfold zQ;by_cases w:pc p.2>pc q.2
 .rw[cond_pos aD];simp[w]
 .rw[cond_neg aD];by_cases l:pc p.2=pc q.2
  .rw[cond_pos (by rw[ga,l])];simp[l,Kh]
  .rw[cond_neg (by rw[iK];exact λh=>l (Int.ofNat.inj h))];simp[w,l]
def DB {p q:Gy}:zQ p q=true↔pc p.2>pc q.2\/(pc p.2=pc q.2/\Op.bytesLess p.1 q.1=true):=by simp[zQ]
def Lm (p q:Gy) (h:zQ p q=true):zQ q p=false:=by
 apply dm;intro z;rw[xO,DB] at z;rw[DB] at h;rcases h with h|⟨F,D⟩
 .rcases z with B|⟨w,_⟩<;>omega
 .rcases z with B|⟨w,l⟩
  .omega
  .rw[sS D] at l;cases l
def Uk (x y z:Gy) (h:zQ x y=true) (F:zQ z y=false):zQ x z=true:=by
 rw[DB] at h⊢;have D:¬(pc z.2>pc y.2\/(pc z.2=pc y.2/\Op.bytesLess z.1 y.1=true)):=λB=>by rw[<-DB,F] at B;cases B
 simp only[jS,not_and] at D;rcases h with h|⟨H,w⟩
 .left;omega
 .by_cases e:pc z.2=pc y.2
  .right;refine⟨af,?_⟩;have G:=D.2 e;have l:Op.bytesLess z.1 y.1=false:=by simpa using G
   by_cases q:z.1=y.1
   .rw[q];exact w
   .exact Da _ _ _ w (zB _ _ l q)
  .left;omega
def X1 {q:Type} (lt:q->q->Bool) (x:q):∀l:List q,(pY lt x l).Perm (x::l):=by intro l;induction l with
 |nil=>exact .refl _
 |cons y l w=>
  unfold pY;split
  .exact .refl _
  .exact(w.cons y).trans (.swap x y l)
def h15c {d:List aA} {all:List cK} {l f:List (List Int)} {E:List Gy} {p:Gy} {i:Nat} (O:lY zQ E) (I:∀q∈E,q.2<18446744073709551616) (R:p.2<18446744073709551616) (P:E.length<=1048576) (V:i<=1048576):
  ∀(v:Nat),v<=E.length->(∀q∈E.drop v,zQ p q=true)->∀r,Cq d all l f ((pY zQ p E).map Kh) (i+1:Nat)=some r->N6 d all l f (E.map Kh) i v (Kh p)=some r:=by
 have fin:∀(v:Nat),v<=E.length->(∀q∈E.take v,zQ p q=false)->(∀q∈E.drop v,zQ p q=true)->
   (((([]:List dX)++(((E.map Kh).take (Int.toNat (v:Int))).drop 0))++[Kh p])++(((E.map Kh).take (List.length (E.map Kh))).drop (Int.toNat (v:Int))))=(pY zQ p E).map Kh:=by
  intro v K L N;have:=Iy zQ L N;rw[jl] at this;rw[this,fJ];simp
 intro v;induction v with
 |zero=>intro K h r B;refine aaK ?_;rw[<-fin 0 af ah h] at B;rw[cond_neg ah,bh ah,bh ah,bh ah,bh ah,bh aD,bl af];exact B
 |succ v U=>
  intro K h r B;refine aaK ?_;have w:v<E.length:=af;have D:(E.map Kh)[v]? =some (Kh E[v]):=by rw[dB,aK w];rfl
  rw[cond_pos ah,xq af,ew D,c56 R (I _ (bq w)),ak];cases G:zQ p E[v] with
  |true=>
   rw[ai];refine U af ?_ r B;intro q z;rw[kV w] at z;rcases aF.1 z with rfl|z
   .exact G
   .exact h q z
  |false=>
   have F:∀q∈E.take (v+1),zQ p q=false:=by
    intro q z;rw[tV] at z;obtain⟨k,hk,rfl⟩:=z;by_cases H:k=v
    .subst H;exact G
    .have S:zQ E[v] E[k]=false:=by
      have:=mW.1 O k v af w af;exact this
     cases Q:zQ p E[k] with
     |false=>rfl
     |true=>have:=Uk _ _ _ Q S;rw[G] at this;cases this
   rw[<-fin (v+1) af F h] at B;rw[az,bh aD,bh aD,bh aD,bh aD,bh aD,bl af];exact B
def XK {E:List Gy} {l:List Gy} (q:lY zQ E):lY zQ (l.foldl (λE p=>pY zQ p E) E)/\(l.foldl (λE p=>pY zQ p E) E).Perm (E++l):=by induction l generalizing E with
 |nil=>exact⟨q,ah⟩
 |cons p l B=>obtain⟨w,z⟩:=B (zM zQ Lm Uk q (x:=p));refine⟨w,z.trans ?_⟩;refine((X1 zQ p E).append_right l).trans ?_;exact(xQ (a:=p) (l₁:=E) (l₂:=l)).symm
def h15b {d:List aA} (z:Sz d) (A:Acc d) {all:List cK} {nW F:List Nat} (D:nW.length=all.length) (H:all.length<=64) (N:∀x∈all,x.length<=1000) (L:∀c∈nW,c<18446744073709551616)
  (R:∀w∈F,w<18446744073709551616) (S:F.length<=1000):∀(xs:List Nat) (i:Nat) (E:List Gy),F.drop i=xs->E.length<=i->i<=F.length->lY zQ E->(∀q∈E,q.2<18446744073709551616)->
  Cq d all (nW.map e1) (F.map e1) (E.map Kh) i=some (((xs.map λw=>((Bt d all nW w,w):Gy)).foldl (λE p=>pY zQ p E) E).map Kh,0):=by
 intro xs;induction xs with
 |nil=>
  intro i E h K U I O;refine aaJ ?_;have G:(F.map e1).drop i=[]:=by rw[<-kU,h];rfl
  rw[bp G];rfl
 |cons w xs V=>
  intro i E h K U I O;refine aaJ ?_;have Q:=c7 h;have G:(F.map e1).drop i=e1 w::xs.map e1:=by rw[<-kU,h];rfl
  have P:=R w (aH (bB h));rw[aZ G,ai,aQ G,c55 z A D H N L P,ak,aQ G];have l:((E.map Kh).length:Int)=((E.length:Nat):Int):=by simp
  rw[l];refine h15c (p:=(Bt d all nW w,w)) I O P af af E.length (aT _) ah _ ?_;refine V (i+1) (pY zQ (Bt d all nW w,w) E) (aG h) (by rw[QD];omega) af (zM zQ Lm Uk I) ?_;intro q B;rcases(QE zQ).1 B with rfl|B
  .exact P
  .exact O q B
abbrev ij (d:List aA):List cK:=mz (jF d)
noncomputable def nW (d:List aA):List Nat:=(ij d).map (cw d (ij d))
noncomputable def cM (d:List aA):List Gy:=((y8 (nW d)).map λw=>((Bt d (ij d) (nW d) w,w):Gy)).foldl (λE p=>pY zQ p E) []
def nY {d:List aA}:(ij d).length<=d.length:=by have:=pq (jF d);simpa using this
def BP {d:List aA} (h:d.length<=64):∀c∈nW d,c<18446744073709551616:=by intro c l;obtain⟨x,_,rfl⟩:=aC.1 l;exact ZD (by have:=nY (d:=d);omega)
def h15a {d:List aA} (z:Sz d) (h:d.length<=64) {r:R15.T}
  (G:(bif(decide ((((y8 (nW d)).map e1).length:Int)>256)) then(some (([]:List dX),(7:Int))) else(Cq d (ij d) ((nW d).map e1) ((y8 (nW d)).map e1) ([]:List dX) 0))=some r):
  ∀(xs:List cK) (i:Nat),(ij d).drop i=xs->i<=(ij d).length->WQ d (ij d) i ((((ij d).take i).map (cw d (ij d))).map e1)=some r:=by
 have w:=nY (d:=d);have K:=z.len;intro xs;induction xs with
 |nil=>
  intro i l D;refine k15_7 ?_;have q:=iF l;have e:(((ij d).take i).map (cw d (ij d)))=nW d:=by rw[gx q];rfl
  rw[e,bp l,az,c54 (BP h) (by simp[nW];omega)];exact G
 |cons x xs I=>
  intro i l D;refine k15_7 ?_;have F:=c7 l;have H:x∈jF d:=gu.1 (aH (bB l));have B:(ij d).take (i+1)=(ij d).take i++[x]:=by rw[cg,bB l];rfl
  have:=I (i+1) (aG l) af;rw[B,bJ,bJ] at this;rw[aZ l,ai,aQ l,c53 z af H,ak,bT _ aD ah af,aY l af];exact this
def TF {s:cK} (h:isName s=true):s.length<=32:=by unfold isName at h;simp only[aI,jV] at h;exact h.1.1.1.2
def Pr {q l:List Nat} (w:Fm q l) (h:∀c∈q,c<18446744073709551616):∀c∈l,c<18446744073709551616:=
 w.gen (λc=>c<18446744073709551616) h λa b z _=>jg jZ z
def Qo {d:List aA} {i:Nat} (h:i<(ij d).length):(ij d).getD i []∈jF d:=by rw[aX,aK h];exact gu.1 (bq h)
def MN {d:List aA} {x:cK} (h:x∈jF d):∃i,i<(ij d).length/\(ij d).getD i []=x:=by obtain⟨i,l,e⟩:=iw.1 (gu.2 h);exact⟨i,l,by rw[aX,aK l];exact e⟩
def Mj {d:List aA} {x y:cK} (q:y∈jF d):sub (cw d (ij d) y) (cw d (ij d) x)=true↔Le d x y:=by
 rw[jJ];constructor
 .intro h;obtain⟨i,l,e⟩:=MN q;have:=h i (ye.2 ⟨l,by rw[e];exact .refl⟩);rw[ye,e] at this;exact this.2
 .intro h i l;rw[ye] at l⊢;exact⟨l.1,rR.trans h l.2⟩
def cw_inj {d:List aA} (A:Acc d) {x y:cK} (l:x∈jF d) (q:y∈jF d) (h:cw d (ij d) x=cw d (ij d) y):x=y:=
 le_antisymm A ((Mj q).1 (by rw[h];exact xm _)) ((Mj l).1 (by rw[h];exact xm _))
def Ls {B K:Type} {f:B->K}:∀{l:List B},l.Nodup->(∀x∈l,∀y∈l,f x=f y->x=y)->(l.map f).Nodup:=by intro l;induction l with
 |nil=>intro _ _;simp
 |cons x l I=>intro H w;have q:=fu.1 H;rw[aR,fu];refine⟨λG=> ?_,I q.2 λa D b F=>w a (by simp[D]) b (by simp[F])⟩;obtain⟨y,z,e⟩:=aC.1 G;exact q.1 (w y (by simp[z]) x ah e▸z)
def AI {d:List aA} (A:Acc d):(nW d).Nodup:=Ls (lI _).nodup λx l y q h=>cw_inj A (gu.1 l) (gu.1 q) h
def Mk {d:List aA}:∀c∈nW d,c≠0:=by
 intro c q;obtain⟨x,z,rfl⟩:=aC.1 q;intro e;obtain⟨i,w,l⟩:=MN (gu.1 z)
 have:(cw d (ij d) x).testBit i=true:=ye.2 ⟨w,by rw[l];exact .refl⟩
 rw[e] at this;simp at this
def GG {d:List aA}:(nW d).length<=d.length:=by have:=nY (d:=d);simpa[nW] using this
def AK {d:List aA}:lY zQ (cM d)/\(cM d).Perm ((y8 (nW d)).map λw=>((Bt d (ij d) (nW d) w,w):Gy)):=by have:=XK (E:=[]) (l:=(y8 (nW d)).map λw=>((Bt d (ij d) (nW d) w,w):Gy)) (by simp[lY]);simpa[cM] using this
def AJ {d:List aA}:((cM d).map (·.2)).Perm (y8 (nW d)):=by have:=(AK (d:=d)).2.map (·.2);simpa[kg] using this
def TB {d:List aA} (A:Acc d) (Q:d.length<=64) (hle:(y8 (nW d)).length<=256):YU ((cM d).map (·.2)):=by
 have L:(nW d).length<=256:=by have:=GG (d:=d);omega
 obtain⟨F,_,F3⟩:=Dp (AI A) Mk L;have hP:=AJ (d:=d);have l:∀c,c∈(cM d).map (·.2)↔c∈y8 (nW d):=λc=>hP.mem_iff
 have hlt:=Pr F (BP Q);have N:((cM d).map (·.2)).Nodup:=hP.nodup_iff.2 F.nd;have q:∀(i:Nat) (z:i<((cM d).map (·.2)).length),((cM d).map (·.2)).getD i 0=((cM d)[i]'(by simpa using z)).2:=by intro i z;rw[aX,aK z];simp
 have B:∀i j,i<((cM d).map (·.2)).length->j<((cM d).map (·.2)).length->sub (((cM d).map (·.2)).getD j 0) (((cM d).map (·.2)).getD i 0)=true->i<=j:=by
  intro i j z P hs;apply dm;intro I;have S:j<i:=af;have O:=mW.1 (AK (d:=d)).1 j i (by simpa using P) (by simpa using z) S;have G:((cM d).map (·.2)).getD j 0≠((cM d).map (·.2)).getD i 0:=λe=>by have:=getD_inj N P z e;omega
  have hp:=pc_lt (hlt _ ((l _).1 (kj z))) hs G;rw[q i z,q j P] at hp
  have:zQ ((cM d)[i]'(by simpa using z)) ((cM d)[j]'(by simpa using P))=true:=DB.2 (.inl hp)
  rw[this] at O;cases O
 obtain⟨t,ht,H⟩:=root A;have hr:cw d (ij d) t∈y8 (nW d):=by obtain⟨e,he⟩:=F.pre;rw[he];exact dU _ (iO (gu.2 ht))
 have D:∀c∈y8 (nW d),sub c (cw d (ij d) t)=true:=F.gen (λc=>sub c (cw d (ij d) t)=true) (λc I=>by
  obtain⟨x,hx,rfl⟩:=aC.1 I
  exact(Mj (gu.1 hx)).2 (H x (gu.1 hx))) (λa b R _=>xo (D1 a b) R)
 have w:0<((cM d).map (·.2)).length:=xH ((l _).2 hr);obtain⟨k,U,K⟩:∃k,k<((cM d).map (·.2)).length/\((cM d).map (·.2)).getD k 0=cw d (ij d) t:=by obtain⟨k,U,h1,_⟩:=Mx ((l _).2 hr);exact⟨k,U,h1⟩
 have V:k=0:=by have:=B k 0 U w (by rw[K];exact D _ ((l _).1 (kj w)));omega
 subst V;refine⟨N,λc I=>F.nz c ((l c).1 I),λa R b hb G=>(l _).2 (F3 hle a ((l a).1 R) b ((l b).1 hb) G),λc I=>by rw[K];exact D c ((l c).1 I),w,B⟩
def cd_ents {d:List aA} (A:Acc d) (q:d.length<=64) (B:(y8 (nW d)).length<=256):Cd ((cM d).map Kh) ((cM d).map (·.2)):=by
 have l:(nW d).length<=256:=by have:=GG (d:=d);omega
 obtain⟨F,_,D⟩:=Dp (AI A) Mk l;have w:=AJ (d:=d);refine⟨by simp[kg,Kh],λc z=>Pr F (BP q) c (w.mem_iff.1 z),?_⟩;rw[w.length_eq];omega
def c15 {d:List aA} (z:Sz d) (l:d.length<=64):f15 d=some (if HR d≠0 then([],HR d) else if(y8 (nW d)).length>256 then([],7) else((cM d).map Kh,0)):=by
 have L:=z.len;have G:=nY (d:=d);refine e15 ?_;rw[c32 z,ak];by_cases w:HR d=0
 .have A:=Ht w;rw[aq (by simpa using w),w,cond_neg ah,c52 d af,ak];refine h15a z l ?_ _ 0 rfl af;by_cases D:(y8 (nW d)).length>256
  .rw[cond_pos aD,au D]
  .rw[cond_neg aD,aq D];have B:(nW d).length<=256:=by have:=GG (d:=d);omega
   obtain⟨F,_,_⟩:=Dp (AI A) Mk B
   exact h15b z A (by simp[nW]) af (λx K=>by
    obtain⟨t,I,rfl⟩:=aC.1 (gu.1 K)
    have:=TF (A.name t I);omega) (BP l) (Pr F (BP l)) af _ 0 [] rfl ah af (by simp[lY]) (λq H=>by cases H)
 .rw[au w,cond_pos (by simpa using w)]
end Go.Proofs.YthppjmoncapdfaaGreatDoor.cl
namespace Go.Proofs.YthppjmoncapdfaaGreatDoor.cl
open Go Go.AM
