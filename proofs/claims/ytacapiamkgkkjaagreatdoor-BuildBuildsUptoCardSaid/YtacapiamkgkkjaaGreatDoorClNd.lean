/- The Closure laws. -/
import Derived.Test.YtacapiamkgkkjaaGreatDoorClNb
set_option linter.all false
open Go.IntKind (wrap)
namespace Go.Proofs.YtacapiamkgkkjaaGreatDoor.cl
open Go Go.AM
def mk (w:Nat):List Nat->Nat
 |[]=>w
 |j::l=>mk (w|||2^ j) l
def mk_bit:∀(l:List Nat) (w i:Nat),(mk w l).testBit i=(w.testBit i||decide (i∈l)):=by intro l;induction l with
 |nil=>intro w i;simp[mk]
 |cons j l q=>
  intro w i;rw[mk,q,Nat.testBit_or,Nat.testBit_two_pow];by_cases h:j=i
  .subst h;simp
  .have:¬i=j:=λe=>h e.symm
   simp[h,this]
def ET {j:Nat} (h:j<64):2^ j<18446744073709551616:=by have:=Nat.pow_lt_pow_right (a:=2) af h;simpa using this
def mk_lt:∀(l:List Nat) (w:Nat),w<18446744073709551616->(∀j∈l,j<64)->mk w l<18446744073709551616:=by intro l;induction l with
 |nil=>intro w h _;exact h
 |cons j l B=>intro w h q;exact B _ (acv h (ET (q j ai))) λk z=>q k (by simp[z])
abbrev acE (w:Nat):W:=(w:Int)::List.replicate 63 0
def UY (w:Nat):norm (acE w)=e1 w:=by rw[<-Ia w];apply Se;intro j;cases j with
 |zero=>rw[Na];rfl
 |succ j=>rw[VA];unfold wd acE;rw[List.getD_cons_succ,bq,kN];split<;>rfl
def acS {x:Nat} (h:x<64):Int.tdiv (x:Int) 64=0:=by rw[Int.tdiv_eq_ediv_of_nonneg af];omega
def acT {x:Nat} (h:x<64):Int.tmod (x:Int) 64=(x:Int):=by rw[Int.tmod_eq_emod_of_nonneg af];omega
def xb {p:Nat} (h:p<18446744073709551616):wrap .u64 (p:Int)=(p:Int):=zT af af
def h100 {l:List Nat} (N:l.length<=1048576) (B:∀j∈l,j<64):∀(xs:List Nat) (i w:Nat),l.drop i=xs->w<18446744073709551616->Pc (cast l) i (acE w)=some (e1 (mk w xs),0):=by intro xs;induction xs with
 |nil=>intro i w h D;refine aaM ?_;rw[bp (ZL h),au,c60 _ ai,UY];rfl
 |cons x xs L=>
  intro i w h D;refine aaM ?_;have q:x<64:=B x (bf (cn h));have z:wrap .i64 (Int.tdiv (x:Int) 64)=0:=by rw[acS q];rfl
  have F:wrap .u64 (Int.tmod (x:Int) 64)=(x:Int):=by rw[acT q,xb af]
  have G:min x (IntKind.bits .u64)=x:=by show min x 64=x;omega
  have H:wrap .u64 (1 *2^ x)=((2^ x:Nat):Int):=by
   have K:=ET q
   have:(1 *2^ x:Int)=((2^ x:Nat):Int):=ai
   rw[this,xb K]
  have I:wrap .u64 ((BitVec.ofInt (IntKind.bits .u64) (w:Int)|||BitVec.ofInt (IntKind.bits .u64) ((2^ x:Nat):Int)).toNat:Int)=((w|||2^ x:Nat):Int):=acu D (ET q);simp only[aP (FN h),aT (FN h),aj,z,F,G,H,Int.toNat_zero,aV,aQ (FN h) aH];rw[cond_neg ai,cond_neg aH,bU (by decide),bU (by decide),bU ai,kZ (x:=(w:Int)) ai,bU (by decide),bU af,bU ai,kZ (x:=(w:Int)) ai,I];exact L (i+1) _ (aJ h) (acv D (ET q))
def c100 {l:List Nat} (w:l.length<=1048576) (q:∀j∈l,j<64):f100 (cast l)=some (e1 (mk 0 l),0):=by refine e100 ?_;rw[bU (by decide)];exact h100 w q l 0 0 rfl af
def c103 {w i:Nat} (N:w<18446744073709551616) (D:i<64):f103 (e1 w) i=some (w.testBit i):=by
 refine e103 ?_;have l:wrap .i64 (Int.tdiv (i:Int) 64)=0:=by rw[acS D];rfl
 have F:wrap .u64 (Int.tmod (i:Int) 64)=(i:Int):=by rw[acT D,xb af]
 have G:min i (IntKind.bits .u64)=i:=by show min i 64=i;omega
 simp only[l,F,G,aV];rw[cond_neg ai,bU (by decide)];by_cases B:w=0
 .subst B;rw[cond_pos (by simp[e1])];simp
 .have K:e1 w=[(w:Int)]:=by simp[e1,B]
  rw[K,cond_neg ai,bU (by decide),Jv (x:=(w:Int)) af ai,bU (by decide),bU af];have H:Int.fdiv (w:Int) (2^ i)=((w / 2^ i:Nat):Int):=by rw[show(2^ i:Int)=((2^ i:Nat):Int) by simp,DY _ (DS _)];simp
  have L:w / 2^ i<18446744073709551616:=kI (Nat.div_le_self _ _) N;have z:=FI L (v:=1) af;unfold GH at z;rw[H];have I:((1:Nat):Int)=1:=rfl;rw[I] at z;rw[z,Nat.and_one_is_mod,Nat.testBit_eq_decide_div_mod_eq];congr 1;generalize w / 2^ i % 2=q;rw[iF,gT,bz];omega
def bitsOf (w:Nat):List Nat:=(List.range 64).filter w.testBit
def h139 {w:Nat} (H:w<18446744073709551616) (D:w≠0):∀(n i:Nat),64-i=n->i<=64->KM (e1 w) i (cast ((List.range i).filter w.testBit))=some (cast (bitsOf w)):=by
 have G:e1 w=[(w:Int)]:=by simp[e1,D]
 have l:wrap .i64 (64 *((e1 w).length:Int))=64:=by rw[G];rfl
 intro n;induction n with
 |zero=>
  intro i F z;obtain rfl:i=64:=by omega
  refine Up ?_;rw[l,cond_neg ai];rfl
 |succ n I=>intro i F z;refine Up ?_;have q:=I (i+1) af af;rw[kL,DZ] at q;rw[l,cond_pos aH,c103 H af,ak,bQ af];cases B:w.testBit i with
  |true=>
   rw[show List.filter w.testBit [i]=[i] by simp[B],cast,bZ] at q
   rw[aj,cH _ (by
    simp only[bC];refine eE (p5 _ _) ?_
    simp;omega) ai af]
   exact q
  |false=>rw[show List.filter w.testBit [i]=[] by simp[B],dN] at q;rw[au];exact q
def c139 {w:Nat} (q:w<18446744073709551616):f139 (e1 w)=some (cast (bitsOf w)):=by
 refine e139 ?_;by_cases l:w=0
 .subst l;refine Up ?_;rw[show e1 0=[] from rfl,cond_neg (by decide)]
  have:bitsOf 0=[]:=by simp[bitsOf]
  rw[this];rfl
 .exact h139 q l _ 0 rfl af
def pc (w:Nat):Nat:=(bitsOf w).length
def c105 {w:Nat} (l:w<18446744073709551616):f105 (e1 w)=some (pc w:Int):=by refine e105 ?_;rw[c139 l,ak,bC];rfl
def FR {L:Type} {p q:L->Bool}:∀{l:List L},(∀x∈l,p x=true->q x=true)->(∃x∈l,p x=false/\q x=true)->(l.filter p).length<(l.filter q).length:=by intro l;induction l with
 |nil=>rintro _ ⟨x,w,_⟩;cases w
 |cons y l O=>
  intro G N;have H:∀{l:List L},(∀x∈l,p x=true->q x=true)->(l.filter p).length<=(l.filter q).length:=by intro l;induction l with
   |nil=>intro _;simp
   |cons z l K=>
    intro h;have:=K λx w=>h x (by simp[w])
    cases B:p z with
    |true=>simp[fV,B,h z ai B];omega
    |false=>cases I:q z<;>simp[fV,B,I]<;>omega
  have P:=H (l:=l) λx w=>G x (by simp[w])
  obtain⟨x,w,D,F⟩:=N;rcases aI.1 w with rfl|w
  .simp[fV,D,F];omega
  .have:=O (λx w=>G x (by simp[w])) ⟨x,w,D,F⟩;cases B:p y with
   |true=>simp[fV,B,G y ai B];omega
   |false=>cases I:q y<;>simp[fV,B,I]<;>omega
def pc_lt {a b:Nat} (D:b<18446744073709551616) (h:sub a b=true) (w:a≠b):pc a<pc b:=by
 apply FR
 .intro i _ l;exact kA.1 h i l
 .apply ef;intro z;apply w;refine su h (kA.2 λi l=> ?_);have q:i<64:=by
   apply ef;intro z
   have:b.testBit i=false:=yN (eW (by simpa using D:b<2^ 64) (uK af af))
   rw[this] at l;cases l
  cases B:a.testBit i with
  |true=>rfl
  |false=>exact absurd ⟨i,by simpa using q,B,l⟩ z
open Classical in
noncomputable def idxs (d:List aC) (all:List cr) (x:cr):List Nat:=(List.range all.length).filter λi=>decide (Le d x (all.getD i []))
noncomputable def cw (d:List aC) (all:List cr) (x:cr):Nat:=mk 0 (idxs d all x)
def y8 {d:List aC} {all:List cr} {x:cr} {i:Nat}:(cw d all x).testBit i=true↔i<all.length/\Le d x (all.getD i []):=by rw[cw,mk_bit,Nat.zero_testBit,ja,bz,idxs,cE,gp];simp only[je]
theorem ZX {d:List aC} {all:List cr} {x:cr} (h:all.length<=64):cw d all x<18446744073709551616:=mk_lt _ _ af λj l=>by have:=gp.1 (cE.1 l).1;omega
def h53 {d:List aC} {all low:List cr} {x:cr} (q:all.length<=64) (H:low.length<=1048576) (G:∀y,y∈low↔Le d x y):∀(n i:Nat),all.length-i=n->i<=all.length->
  SX all low i (cast (open Classical in (List.range i).filter λi=>decide (Le d x (all.getD i []))))=some (e1 (cw d all x)):=by
 intro n;induction n with
 |zero=>
  intro i I B;obtain rfl:i=all.length:=by omega
  refine k53_4 ?_;have l:(idxs d all x).length<=64:=by refine eE (p5 _ _) ?_;simpa using q
  have:=c100 (l:=idxs d all x) af λj K=>by have:=gp.1 (cE.1 K).1;omega
  unfold idxs at this;rw[cond_neg ai,this];rfl
 |succ n L=>
  intro i I B;refine k53_4 ?_;have l:=L (i+1) af af;rw[kL,DZ] at l;have w:i<all.length:=af;have F:all[i]=all.getD i []:=by rw[bq,aN w];rfl
  rw[cond_pos aH,cQ w,ZF _ _ af,ak,bQ af];by_cases z:Le d x (all.getD i [])
  .have D:all[i]∈low:=by rw[F];exact(G _).2 z
   rw[cond_pos (by simpa using D),cH _ (by
    simp only[bC];refine eE (p5 _ _) ?_
    simp;omega) ai af]
   rw[show(List.filter (open Classical in λi=>decide (Le d x (all.getD i []))) [i])=[i] by rw[fV,aB (by simpa using z)];rfl,cast,bZ] at l;exact l
  .have D:all[i]∉low:=by rw[F];exact λh=>z ((G _).1 h)
   rw[cond_neg (by simpa using D)];rw[show(List.filter (open Classical in λi=>decide (Le d x (all.getD i []))) [i])=[] by rw[fV,aA (by simpa using z)];rfl,dN] at l;exact l
def c53 {d:List aC} (z:Sz d) {all:List cr} (q:all.length<=64) {x:cr} (D:x∈j9 d):f53 d all x=some (e1 (cw d all x)):=by refine e53 ?_;obtain⟨l,w,_,B,F⟩:=c99 z D;have:=z.len;rw[w,ak];exact h53 q af B _ 0 rfl af
def h101 {l:List Nat} (z:∀c∈l,c<18446744073709551616) (B:l.length<=1048576) {w:Nat} (D:w<18446744073709551616):∀(xs:List Nat) (i:Nat),l.drop i=xs->Pd (l.map e1) (e1 w) i=some (decide (w∈xs)):=by intro xs;induction xs with
 |nil=>
  intro i h;refine aaN ?_;have q:(l.map e1).drop i=[]:=by rw[<-lS,h];rfl
  rw[bp q];simp
 |cons x xs F=>
  intro i h;refine aaN ?_;have q:(l.map e1).drop i=e1 x::xs.map e1:=by rw[<-lS,h];rfl
  rw[aT q,aj,aP q,o57 (z x (bf (cn h))) D,ak,aQ q aH,F (i+1) (aJ h)];by_cases e:x=w
  .subst e;simp
  .have:¬w=x:=λh=>e h.symm
   simp[e,this]
def c101 {l:List Nat} (z:∀c∈l,c<18446744073709551616) (q:l.length<=1048576) {w:Nat} (B:w<18446744073709551616):f101 (l.map e1) (e1 w)=some (decide (w∈l)):=e101 (h101 z q B l 0 rfl)
def Ad (l:List Nat) (b:Nat):List Nat:=if b=0\/b∈l then l else l++[b]
def rT (i:Nat):Nat->Nat->List Nat->List Nat
 |0,_,l=>l
 |n+1,k,l=>if l.length<=256 then rT i n (k+1) (Ad l (l.getD i 0&&&l.getD k 0)) else l
def qs:Nat->Nat->List Nat->List Nat
 |0,_,l=>l
 |n+1,i,l=>if i<l.length/\l.length<=256 then qs n (i+1) (rT i i 0 l) else l
def Am (cs:List Nat):List Nat:=qs 258 0 cs
def IQ (l:List Nat) (b:Nat):∃e,Ad l b=l++e/\e.length<=1:=by
 unfold Ad;split
 .exact⟨[],by simp,ai⟩
 .exact⟨[b],rfl,ai⟩
def Mi (i:Nat):∀(n k:Nat) (l:List Nat),l.length<=257->∃e,rT i n k l=l++e/\(l++e).length<=257:=by intro n;induction n with
 |zero=>intro k l h;exact⟨[],by simp[rT],by simpa using h⟩
 |succ n F=>
  intro k l h;unfold rT;split
  .obtain⟨e,z,D⟩:=IQ l (l.getD i 0&&&l.getD k 0);obtain⟨B,w,q⟩:=F (k+1) (Ad l (l.getD i 0&&&l.getD k 0)) (by rw[z];simp;omega);rw[w];rw[z] at q⊢;exact⟨e++B,by simp,by simpa using q⟩
  .exact⟨[],by simp,by simpa using h⟩
def VJ {l:List Nat} {b:Nat} (w:∀c∈l,c<18446744073709551616) (z:b<18446744073709551616):∀c∈Ad l b,c<18446744073709551616:=by
 intro c q;unfold Ad at q;split at q
 .exact w c q
 .rcases bA.1 q with h|h
  .exact w c h
  .simp only[bS] at h;subst h;exact z
def getD_map {l:List Nat} {i:Nat} (h:i<l.length):(l.map e1)[i]? =some (e1 (l.getD i 0)):=by rw[dP,bq,aN h];rfl
def NU {l:List Nat} {i:Nat} (q:∀c∈l,c<18446744073709551616) (h:i<l.length):l.getD i 0<18446744073709551616:=q _ (kW h)
def h54b {i:Nat}:∀(n k:Nat) (l:List Nat),i-k=n->k<=i->i<l.length->l.length<=257->(∀c∈l,c<18446744073709551616)->∀r,
  M4 (i+1:Nat) ((rT i n k l).map e1)=some r->M5 i k (l.map e1)=some r:=by
 intro n;induction n with
 |zero=>intro k l U R O I z r G;refine k54_6 ?_;rw[cond_neg aH,bQ af];exact G
 |succ n V=>
  intro k l U R O I z r G;refine k54_6 ?_;rw[cond_pos aH,bQ af,bQ af];unfold rT at G;by_cases B:l.length<=256
  .rw[aB B] at G;have H:=NU z O;have P:=NU z (show k<l.length by omega);have D:l.getD i 0&&&l.getD k 0<18446744073709551616:=kI nN H;rw[cond_pos aH,bU aH,aV,kZ (getD_map O),bU aH,aV,kZ (getD_map af),o61 H P,ak];have K:=IQ l (l.getD i 0&&&l.getD k 0);have w:(Ad l (l.getD i 0&&&l.getD k 0)).length<=257/\i<(Ad l (l.getD i 0&&&l.getD k 0)).length:=by
    obtain⟨e,Q,S⟩:=K;rw[Q];simp;omega
   have q:=V (k+1) (Ad l (l.getD i 0&&&l.getD k 0)) af af w.2 w.1 (VJ z D) r G;by_cases N:l.getD i 0&&&l.getD k 0=0
   .rw[N] at q⊢;rw[cond_neg (by simp[e1])]
    have:Ad l 0=l:=by simp[Ad]
    rw[this] at q;exact q
   .have F:(e1 (l.getD i 0&&&l.getD k 0)).length=1:=by
     unfold e1;rw[aA N];rfl
    rw[cond_pos (by rw[F];decide),c101 z af D,ak];by_cases L:l.getD i 0&&&l.getD k 0∈l
    .rw[cond_neg (by simpa using L)]
     have:Ad l (l.getD i 0&&&l.getD k 0)=l:=aB (.inr L)
     rw[this] at q;exact q
    .rw[cond_pos (by simpa using L),cH _ aH ai af]
     have:Ad l (l.getD i 0&&&l.getD k 0)=l++[l.getD i 0&&&l.getD k 0]:=aA (by simp only[nC];exact⟨N,L⟩)
     rw[this,bZ] at q;exact q
  .rw[aA B] at G;rw[cond_neg aH];exact G
theorem aad (i:Nat):∀(n k:Nat) (l:List Nat),(∀c∈l,c<18446744073709551616)->∀c∈rT i n k l,c<18446744073709551616:=by intro n;induction n with
 |zero=>intro k l h;exact h
 |succ n w=>
  intro k l h;unfold rT;split
  .refine w _ _ (VJ h ?_);by_cases q:i<l.length
   .exact kI nN (NU h q)
   .rw[bq,gu af];simp
  .exact h
def h54:∀(n i:Nat) (l:List Nat),258<=i+n->l.length<=257->(∀c∈l,c<18446744073709551616)->M4 i (l.map e1)=some ((qs n i l).map e1):=by intro n;induction n with
 |zero=>intro i l G q w;refine k54_3 ?_;rw[cond_neg aH];rfl
 |succ n H=>
  intro i l G q w;refine k54_3 ?_;unfold qs;by_cases z:i<l.length
  .rw[cond_pos aH];by_cases D:l.length<=256
   .rw[cond_pos aH,aB ⟨z,D⟩];obtain⟨e,F,B⟩:=Mi i i 0 l q;refine h54b i 0 l rfl af z q w _ ?_;exact H (i+1) _ af (by rw[F];exact B) (aad i i 0 l w)
   .rw[cond_neg aH,aA (λh=>D h.2)]
  .rw[cond_neg aH,aA (λh=>z h.1)]
def c54 {l:List Nat} (q:∀c∈l,c<18446744073709551616) (w:l.length<=256):f54 (l.map e1)=some ((Am l).map e1):=by refine e54 ?_;rw[cH _ ai aH af,dS];exact h54 258 0 l af af q
structure Fm (cs l:List Nat):Prop where
 nd:l.Nodup
 nz:∀c∈l,c≠0
 gen:∀P:Nat->Prop,(∀c∈cs,P c)->(∀a b,P a->P b->P (a&&&b))->∀c∈l,P c
 pre:∃e,l=cs++e
def Fm.add {F l:List Nat} (h:Fm F l) {i k:Nat} (K:i<l.length) (L:k<l.length):Fm F (Ad l (l.getD i 0&&&l.getD k 0)):=by
 unfold Ad;split
 .exact h
 .rename_i D;simp only[nC] at D;refine⟨?_,?_,?_,?_⟩
  .rw[iE];exact⟨h.nd,by simp,λa H b G=>by simp only[bS] at G;subst G;exact λe=>D.2 (e▸H)⟩
  .intro c w;rcases bA.1 w with q|q
   .exact h.nz c q
   .simp only[bS] at q;subst q;exact D.1
  .intro P B z c w;rcases bA.1 w with q|q
   .exact h.gen P B z c q
   .simp only[bS] at q;subst q;exact z _ _ (h.gen P B z _ (kW K)) (h.gen P B z _ (kW L))
  .obtain⟨e,I⟩:=h.pre;exact⟨e++[l.getD i 0&&&l.getD k 0],by rw[I];simp⟩
def xQ {l e:List Nat} {i:Nat} (h:i<l.length):(l++e).getD i 0=l.getD i 0:=by rw[bq,bq,eX h]
def adB (l:List Nat) (b:Nat):b=0\/b∈Ad l b:=by
 unfold Ad;split
 .assumption
 .simp
def T5 {cs:List Nat} (i:Nat):∀(n k:Nat) (l:List Nat),Fm cs l->i<l.length->k+n<=i->Fm cs (rT i n k l)/\((rT i n k l).length<=256->∀j,k<=j->j<k+n->l.getD i 0&&&l.getD j 0=0\/l.getD i 0&&&l.getD j 0∈rT i n k l)/\∃e,rT i n k l=l++e:=by intro n;induction n with
 |zero=>intro k l h B P;exact⟨h,λ_ j K L=>by omega,[],by simp[rT]⟩
 |succ n Q=>
  intro k l h B P;unfold rT;split
  .obtain⟨e,w,_⟩:=IQ l (l.getD i 0&&&l.getD k 0);have D:i<(Ad l (l.getD i 0&&&l.getD k 0)).length:=by rw[w];simp;omega
   obtain⟨G,H,I,F⟩:=Q (k+1) _ (h.add B af) D af;refine⟨G,λq j K L=> ?_,e++I,by rw[F,w];simp⟩;by_cases O:j=k
   .subst O;rcases adB l (l.getD i 0&&&l.getD j 0) with z|z
    .exact .inl z
    .right;rw[F];exact cT _ z
   .have:=H q j af af;rw[w,xQ B,xQ af] at this;rw[w];exact this
  .rename_i N;refine⟨h,λq=>absurd q N,[],ai⟩
def Rh {cs:List Nat}:∀(n i:Nat) (l:List Nat),258<=i+n->l.length<=257->Fm cs l->(∀a b,a<i->b<a->a<l.length->l.getD a 0&&&l.getD b 0=0\/l.getD a 0&&&l.getD b 0∈l)->
  Fm cs (qs n i l)/\(qs n i l).length<=257/\((qs n i l).length<=256->∀a b,b<a->a<(qs n i l).length->(qs n i l).getD a 0&&&(qs n i l).getD b 0=0\/(qs n i l).getD a 0&&&(qs n i l).getD b 0∈qs n i l):=by
 intro n;induction n with
 |zero=>intro i l hn w h I;exact⟨h,w,λ_ a b O H=>I a b (by have U:a<l.length:=H;omega) O H⟩
 |succ n ih=>
  intro i l hn w h I;unfold qs;split
  .rename_i K;obtain⟨R,S,e,L⟩:=T5 (cs:=cs) i i 0 l h K.1 af;obtain⟨e',Q,G⟩:=Mi i i 0 l w;have z:(rT i i 0 l).length<=257:=by rw[Q];exact G
   by_cases q:(rT i i 0 l).length<=256
   .refine ih (i+1) _ af z R ?_;intro a b V P hal;by_cases F:a=i
    .subst F;rw[L,xQ K.1,xQ af,<-L];exact S q b af af
    .rw[L,xQ af,xQ af];rcases I a b af P af with N|N
     .exact .inl N
     .exact .inr (cT _ N)
   .have B:∀n,qs n (i+1) (rT i i 0 l)=rT i i 0 l:=by
     intro n;cases n with
     |zero=>rfl
     |succ n=>unfold qs;rw[aA (λh=>q h.2)]
    rw[B];exact⟨R,z,λh=>absurd h q⟩
  .rename_i K;refine⟨h,w,λD a b O H=> ?_⟩
   have:¬i<l.length:=λhh=>K ⟨hh,D⟩
   exact I a b af O H
def Em {cs:List Nat} (G:cs.Nodup) (H:∀c∈cs,c≠0) (L:cs.length<=256):Fm cs (Am cs)/\(Am cs).length<=257/\((Am cs).length<=256->∀a∈Am cs,∀b∈Am cs,a&&&b≠0->a&&&b∈Am cs):=by
 obtain⟨B,N,I⟩:=Rh (cs:=cs) 258 0 cs af af ⟨G,H,λP B _=>B,[],ai⟩ (λa b h=>by omega);refine⟨B,N,λq a O b Q l=> ?_⟩;obtain⟨i,D,rfl⟩:=iQ.1 O;obtain⟨j,K,rfl⟩:=iQ.1 Q;have w:(Am cs)[i]=(Am cs).getD i 0:=by rw[bq,aN D];rfl
 have z:(Am cs)[j]=(Am cs).getD j 0:=by rw[bq,aN K];rfl
 rw[w,z] at l⊢;by_cases e:i=j
 .subst e;rw[Nat.and_self];exact kW D
 .by_cases F:j<i
  .exact(I q i j F D).resolve_left l
  .rw[Nat.and_comm] at l⊢;exact(I q j i af K).resolve_left l
end Go.Proofs.YtacapiamkgkkjaaGreatDoor.cl
namespace Go.Proofs.YtacapiamkgkkjaaGreatDoor.cl
open Go Go.AM
def vY (l:List cr):cr:=(l.map λx=>38::x).flatten
def Dm (x:cr) (l:List cr):xV [38] (x::l)=x++vY l:=by induction l generalizing x with
 |nil=>simp[xV,vY]
 |cons y l q=>rw[show xV [38] (x::y::l)=x++[38]++xV [38] (y::l) from rfl,q y];simp[vY]
def h55c (l:List cr) (G:l.length<=1048576) (B:∀x∈l,x.length<=1000):∀(xs:List cr) (i:Nat) (s:cr),l.drop i=xs->0<i->s.length<=1001 *i->Gs l s i=some (s++vY xs):=by intro xs;induction xs with
 |nil=>intro i s h q z;refine UD ?_;rw[bp h];simp[vY]
 |cons x xs F=>intro i s h q z;refine UD ?_;have w:=eC h;have D:=B x (bf (cn h));rw[aT h,aj,cond_pos aH,bU aH,aP h,bU aH,aQ h af,F (i+1) _ (aJ h) af aH];simp[vY]
def c55c (l:List cr) (F:l.length<=1048576) (w:∀x∈l,x.length<=1000):Gs l [] 0=some (xV [38] l):=by refine UD ?_;cases q:l with
 |nil=>rfl
 |cons x xs=>have h:l.drop 0=x::xs:=q;rw[<-q];have D:((0:Nat):Int)=0:=rfl;have z:=aT h;have B:= @aP _ R55.T _ _ _ _ h;rw[D] at z B;rw[z,aj,cond_neg ai,B,bU (by have:=w x (by rw[q];simp);simp;omega)];have:=h55c l F w xs 1 ([]++x) (aJ h) af (by have:=w x (by rw[q];simp);simp;omega);rw[q,Dm,<-q];exact this
noncomputable def mU (d:List aC) (w:Nat):List cr->List Nat->Nat->List cr->cr
 |s::ss,c::q,i,l=>if c=w then s else mU d w ss q (i+1) (if w.testBit i=true then l++[s] else l)
 |_,_,_,l=>xV [38] (vL d l)
def R2 {d:List aC} {l:List cr} {x:cr} (h:x∈vL d l):x∈l:=by have:=(cE.1 h).1;exact(cE.1 (gy.1 this)).1
def R1 {d:List aC} {l:List cr}:(vL d l).length<=l.length:=by refine eE (p5 _ _) (eE (qk _) (p5 _ _))
def subs_eq {c w:Nat} (l:c<18446744073709551616) (q:w<18446744073709551616):f102 (e1 c) (e1 w)=some (decide (c=w)):=by have z:=mQ c;have B:=mQ w;rw[c102 _ _ af af,YW (ac9 l) (ac9 q),Ia,Ia];congr 1;rw[nP];exact⟨TZ,λh=>by rw[h]⟩
def h55 {d:List aC} (z:Sz d) (A:Acc d) {all:List cr} {oN:List Nat} (O:oN.length=all.length) (S:all.length<=64) (L:∀x∈all,x.length<=1000) (I:∀c∈oN,c<18446744073709551616) {w:Nat} (Q:w<18446744073709551616):
  ∀(xs:List cr) (q:List Nat) (i:Nat) (l:List cr),all.drop i=xs->oN.drop i=q->i<=all.length->l.length<=i->(∀x∈l,x.length<=1000)->SY d all (oN.map e1) (e1 w) i l=some (mU d w xs q i l):=by
 intro xs;induction xs with
 |nil=>
  intro q i l h B G F H;refine k55_3 ?_;have U:=mh h;have N:q=[]:=by rw[<-B];exact nM af
  subst N;rw[bp h,au,c104 z A l af];simp only[ak];rw[c55c _ (by have:=R1 (d:=d) (l:=l);omega) (λx K=>H x (R2 K))];rfl
 |cons x xs R=>intro q i l h B G F H;refine k55_3 ?_;have P:=eC h;cases q with
  |nil=>have:=mh B;omega
  |cons c q=>
   have K:(oN.map e1).drop i=e1 c::q.map e1:=by rw[<-lS,B];rfl
   rw[aT h,aj,aP K,subs_eq (I c (bf (cn B))) Q,ak,aP h,c103 Q af,ak,aP h,aQ h af];show _=some (if c=w then x else mU d w xs q (i+1) (if w.testBit i=true then l++[x] else l));by_cases e:c=w
   .rw[cond_pos (by simpa using e),aB e]
   .rw[cond_neg (by simpa using e),aA e];cases V:w.testBit i with
    |true=>
     rw[aj,cH _ af ai af,R q (i+1) (l++[x]) (aJ h) (aJ B) af aH (λy D=>by
      rcases bA.1 D with D|D
      .exact H y D
      .simp only[bS] at D;subst D;exact L y (bf (cn h)))]
     simp
    |false=>rw[au,R q (i+1) l (aJ h) (aJ B) af af H];simp
noncomputable def CM (d:List aC) (all:List cr) (oN:List Nat) (w:Nat):cr:=mU d w all oN 0 []
def c55 {d:List aC} (z:Sz d) (A:Acc d) {all:List cr} {oN:List Nat} (l:oN.length=all.length) (q:all.length<=64) (D:∀x∈all,x.length<=1000) (B:∀c∈oN,c<18446744073709551616) {w:Nat} (F:w<18446744073709551616):
  f55 d all (oN.map e1) (e1 w)=some (CM d all oN w):=e55 (h55 z A l q D B F all oN 0 [] rfl rfl af ai (λx G=>by cases G))
abbrev DI:=cr×Nat
def HQ (p:DI):fJ:=⟨p.1,e1 p.2⟩
def Bb (p q:DI):Bool:=decide (pc p.2>pc q.2)||(decide (pc p.2=pc q.2)&&Op.bytesLess p.1 q.1)
def c56 {p q:DI} (z:p.2<18446744073709551616) (B:q.2<18446744073709551616):f56 (HQ p) (HQ q)=some (Bb p q):=by
 refine e56 ?_;show Option.bind (f105 (e1 p.2)) _=_;rw[c105 z,ak];show Option.bind (f105 (e1 q.2)) _=_;rw[c105 B,ak];unfold Bb;by_cases w:pc p.2>pc q.2
 .rw[cond_pos aH];simp[w]
 .rw[cond_neg aH];by_cases l:pc p.2=pc q.2
  .rw[cond_pos (by rw[gT,l])];simp[l,HQ]
  .rw[cond_neg (by rw[jf];exact λh=>l (Int.ofNat.inj h))];simp[w,l]
def EG {p q:DI}:Bb p q=true↔pc p.2>pc q.2\/(pc p.2=pc q.2/\Op.bytesLess p.1 q.1=true):=by simp[Bb]
def MB (p q:DI) (h:Bb p q=true):Bb q p=false:=by
 apply ef;intro z;rw[Bool.not_eq_false,EG] at z;rw[EG] at h;rcases h with h|⟨F,D⟩
 .rcases z with B|⟨w,_⟩<;>omega
 .rcases z with B|⟨w,l⟩
  .omega
  .rw[AK D] at l;cases l
def UO (x y z:DI) (h:Bb x y=true) (F:Bb z y=false):Bb x z=true:=by
 rw[EG] at h⊢;have D:¬(pc z.2>pc y.2\/(pc z.2=pc y.2/\Op.bytesLess z.1 y.1=true)):=λB=>by rw[<-EG,F] at B;cases B
 simp only[nC,not_and] at D;rcases h with h|⟨H,w⟩
 .left;omega
 .by_cases e:pc z.2=pc y.2
  .right;refine⟨af,?_⟩;have G:=D.2 e;have l:Op.bytesLess z.1 y.1=false:=by simpa using G
   by_cases q:z.1=y.1
   .rw[q];exact w
   .exact vq _ _ _ w (AL _ _ l q)
  .left;omega
def Yu {q:Type} (lt:q->q->Bool) (x:q):∀l:List q,(rW lt x l).Perm (x::l):=by intro l;induction l with
 |nil=>exact .refl _
 |cons y l w=>
  unfold rW;split
  .exact .refl _
  .exact(w.cons y).trans (.swap x y l)
def h15c {d:List aC} {all:List cr} {l f:List (List Int)} {E:List DI} {p:DI} {i:Nat} (P:mN Bb E) (K:∀q∈E,q.2<18446744073709551616) (S:p.2<18446744073709551616) (Q:E.length<=1048576) (hi:i<=1048576):
  ∀(v:Nat),v<=E.length->(∀q∈E.drop v,Bb p q=true)->∀r,DE d all l f ((rW Bb p E).map HQ) (i+1:Nat)=some r->Ph d all l f (E.map HQ) i v (HQ p)=some r:=by
 have D:∀(v:Nat),v<=E.length->(∀q∈E.take v,Bb p q=false)->(∀q∈E.drop v,Bb p q=true)->
   (((([]:List fJ)++(((E.map HQ).take (Int.toNat (v:Int))).drop 0))++[HQ p])++(((E.map HQ).take (List.length (E.map HQ))).drop (Int.toNat (v:Int))))=(rW Bb p E).map HQ:=by
  intro v L N O;have:=JG Bb N O;rw[nQ] at this;rw[this,gw];simp
 intro v;induction v with
 |zero=>intro L h r B;refine aaX ?_;rw[<-D 0 af ai h] at B;rw[cond_neg ai,bU ai,bU ai,bU ai,bU ai,bU aH,bQ af];exact B
 |succ v V=>
  intro L h r B;refine aaX ?_;have w:v<E.length:=af;have F:(E.map HQ)[v]? =some (HQ E[v]):=by rw[dP,aN w];rfl
  rw[cond_pos ai,oA af,iS F,c56 S (K _ (cG w)),ak];cases H:Bb p E[v] with
  |true=>
   rw[aj];refine V af ?_ r B;intro q z;rw[jg w] at z;rcases aI.1 z with rfl|z
   .exact H
   .exact h q z
  |false=>
   have G:∀q∈E.take (v+1),Bb p q=false:=by
    intro q z;rw[uN] at z;obtain⟨k,hk,rfl⟩:=z;by_cases I:k=v
    .subst I;exact H
    .have U:Bb E[v] E[k]=false:=by
      have:=nR.1 P k v af w af;exact this
     cases R:Bb p E[k] with
     |false=>rfl
     |true=>have:=UO _ _ _ R U;rw[H] at this;cases this
   rw[<-D (v+1) af G h] at B;rw[au,bU aH,bU aH,bU aH,bU aH,bU aH,bQ af];exact B
def Yg {E:List DI} {l:List DI} (q:mN Bb E):mN Bb (l.foldl (λE p=>rW Bb p E) E)/\(l.foldl (λE p=>rW Bb p E) E).Perm (E++l):=by induction l generalizing E with
 |nil=>exact⟨q,ai⟩
 |cons p l B=>obtain⟨w,z⟩:=B (A5 Bb MB UO q (x:=p));refine⟨w,z.trans ?_⟩;refine((Yu Bb p E).append_right l).trans ?_;exact(List.perm_middle (a:=p) (l₁:=E) (l₂:=l)).symm
def h15b {d:List aC} (z:Sz d) (A:Acc d) {all:List cr} {oN F:List Nat} (D:oN.length=all.length) (H:all.length<=64) (N:∀x∈all,x.length<=1000) (L:∀c∈oN,c<18446744073709551616)
  (R:∀w∈F,w<18446744073709551616) (S:F.length<=1000):∀(xs:List Nat) (i:Nat) (E:List DI),F.drop i=xs->E.length<=i->i<=F.length->mN Bb E->(∀q∈E,q.2<18446744073709551616)->
  DE d all (oN.map e1) (F.map e1) (E.map HQ) i=some (((xs.map λw=>((CM d all oN w,w):DI)).foldl (λE p=>rW Bb p E) E).map HQ,0):=by
 intro xs;induction xs with
 |nil=>
  intro i E h K U I O;refine aaW ?_;have G:(F.map e1).drop i=[]:=by rw[<-lS,h];rfl
  rw[bp G];rfl
 |cons w xs V=>
  intro i E h K U I O;refine aaW ?_;have Q:=eC h;have G:(F.map e1).drop i=e1 w::xs.map e1:=by rw[<-lS,h];rfl
  have P:=R w (bf (cn h));rw[aT G,aj,aP G,c55 z A D H N L P,ak,aP G];have l:((E.map HQ).length:Int)=((E.length:Nat):Int):=by simp
  rw[l];refine h15c (p:=(CM d all oN w,w)) I O P af af E.length (aW _) ai _ ?_;refine V (i+1) (rW Bb (CM d all oN w,w) E) (aJ h) (by rw[RI];omega) af (A5 Bb MB UO I) ?_;intro q B;rcases(RJ Bb).1 B with rfl|B
  .exact P
  .exact O q B
abbrev iN (d:List aC):List cr:=ng (j9 d)
noncomputable def oN (d:List aC):List Nat:=(iN d).map (cw d (iN d))
noncomputable def dR (d:List aC):List DI:=((Am (oN d)).map λw=>((CM d (iN d) (oN d) w,w):DI)).foldl (λE p=>rW Bb p E) []
def oQ {d:List aC}:(iN d).length<=d.length:=by have:=qk (j9 d);simpa using this
def Dd {d:List aC} (h:d.length<=64):∀c∈oN d,c<18446744073709551616:=by intro c l;obtain⟨x,_,rfl⟩:=aD.1 l;exact ZX (by have:=oQ (d:=d);omega)
def h15a {d:List aC} (z:Sz d) (h:d.length<=64) {r:R15.T}
  (G:(bif(decide ((((Am (oN d)).map e1).length:Int)>256)) then(some (([]:List fJ),(7:Int))) else(DE d (iN d) ((oN d).map e1) ((Am (oN d)).map e1) ([]:List fJ) 0))=some r):
  ∀(xs:List cr) (i:Nat),(iN d).drop i=xs->i<=(iN d).length->Xj d (iN d) i ((((iN d).take i).map (cw d (iN d))).map e1)=some r:=by
 have w:=oQ (d:=d);have K:=z.len;intro xs;induction xs with
 |nil=>
  intro i l D;refine k15_7 ?_;have q:=mh l;have e:(((iN d).take i).map (cw d (iN d)))=oN d:=by rw[jV q];rfl
  rw[e,bp l,au,c54 (Dd h) (by simp[oN];omega)];exact G
 |cons x xs I=>
  intro i l D;refine k15_7 ?_;have F:=eC l;have H:x∈j9 d:=gy.1 (bf (cn l));have B:(iN d).take (i+1)=(iN d).take i++[x]:=by rw[dr,cn l];rfl
  have:=I (i+1) (aJ l) af;rw[B,bZ,bZ] at this;rw[aT l,aj,aP l,c53 z af H,ak,cH _ aH ai af,aQ l af];exact this
def Un {s:cr} (h:isName s=true):s.length<=32:=by unfold isName at h;simp only[aK,je] at h;exact h.1.1.1.2
def Qh {q l:List Nat} (w:Fm q l) (h:∀c∈q,c<18446744073709551616):∀c∈l,c<18446744073709551616:=
 w.gen (λc=>c<18446744073709551616) h λa b z _=>kI nN z
def Rt {d:List aC} {i:Nat} (h:i<(iN d).length):(iN d).getD i []∈j9 d:=by rw[bq,aN h];exact gy.1 (cG h)
def N5 {d:List aC} {x:cr} (h:x∈j9 d):∃i,i<(iN d).length/\(iN d).getD i []=x:=by obtain⟨i,l,e⟩:=iQ.1 (gy.2 h);exact⟨i,l,by rw[bq,aN l];exact e⟩
def NC {d:List aC} {x y:cr} (q:y∈j9 d):sub (cw d (iN d) y) (cw d (iN d) x)=true↔Le d x y:=by
 rw[kA];constructor
 .intro h;obtain⟨i,l,e⟩:=N5 q;have:=h i (y8.2 ⟨l,by rw[e];exact .refl⟩);rw[y8,e] at this;exact this.2
 .intro h i l;rw[y8] at l⊢;exact⟨l.1,sV.trans h l.2⟩
def cw_inj {d:List aC} (A:Acc d) {x y:cr} (l:x∈j9 d) (q:y∈j9 d) (h:cw d (iN d) x=cw d (iN d) y):x=y:=
 le_antisymm A ((NC q).1 (by rw[h];exact yp _)) ((NC l).1 (by rw[h];exact yp _))
def ML {B K:Type} {f:B->K}:∀{l:List B},l.Nodup->(∀x∈l,∀y∈l,f x=f y->x=y)->(l.map f).Nodup:=by intro l;induction l with
 |nil=>intro _ _;simp
 |cons x l I=>intro H w;have q:=fM.1 H;rw[bu,fM];refine⟨λG=> ?_,I q.2 λa D b F=>w a (by simp[D]) b (by simp[F])⟩;obtain⟨y,z,e⟩:=aD.1 G;exact q.1 (w y (by simp[z]) x ai e▸z)
def BY {d:List aC} (A:Acc d):(oN d).Nodup:=ML (mw _).nodup λx l y q h=>cw_inj A (gy.1 l) (gy.1 q) h
def ND {d:List aC}:∀c∈oN d,c≠0:=by
 intro c q;obtain⟨x,z,rfl⟩:=aD.1 q;intro e;obtain⟨i,w,l⟩:=N5 (gy.1 z)
 have:(cw d (iN d) x).testBit i=true:=y8.2 ⟨w,by rw[l];exact .refl⟩
 rw[e] at this;simp at this
def HS {d:List aC}:(oN d).length<=d.length:=by have:=oQ (d:=d);simpa[oN] using this
def B0 {d:List aC}:mN Bb (dR d)/\(dR d).Perm ((Am (oN d)).map λw=>((CM d (iN d) (oN d) w,w):DI)):=by have:=Yg (E:=[]) (l:=(Am (oN d)).map λw=>((CM d (iN d) (oN d) w,w):DI)) (by simp[mN]);simpa[dR] using this
def BZ {d:List aC}:((dR d).map (·.2)).Perm (Am (oN d)):=by have:=(B0 (d:=d)).2.map (·.2);simpa[lY] using this
def Uh {d:List aC} (A:Acc d) (Q:d.length<=64) (hle:(Am (oN d)).length<=256):Zl ((dR d).map (·.2)):=by
 have L:(oN d).length<=256:=by have:=HS (d:=d);omega
 obtain⟨F,_,F3⟩:=Em (BY A) ND L;have hP:=BZ (d:=d);have l:∀c,c∈(dR d).map (·.2)↔c∈Am (oN d):=λc=>hP.mem_iff
 have hlt:=Qh F (Dd Q);have N:((dR d).map (·.2)).Nodup:=hP.nodup_iff.2 F.nd;have q:∀(i:Nat) (z:i<((dR d).map (·.2)).length),((dR d).map (·.2)).getD i 0=((dR d)[i]'(by simpa using z)).2:=by intro i z;rw[bq,aN z];simp
 have B:∀i j,i<((dR d).map (·.2)).length->j<((dR d).map (·.2)).length->sub (((dR d).map (·.2)).getD j 0) (((dR d).map (·.2)).getD i 0)=true->i<=j:=by
  intro i j z P hs;apply ef;intro I;have S:j<i:=af;have O:=nR.1 (B0 (d:=d)).1 j i (by simpa using P) (by simpa using z) S;have G:((dR d).map (·.2)).getD j 0≠((dR d).map (·.2)).getD i 0:=λe=>by have:=getD_inj N P z e;omega
  have hp:=pc_lt (hlt _ ((l _).1 (kW z))) hs G;rw[q i z,q j P] at hp
  have:Bb ((dR d)[i]'(by simpa using z)) ((dR d)[j]'(by simpa using P))=true:=EG.2 (.inl hp)
  rw[this] at O;cases O
 obtain⟨t,ht,H⟩:=root A;have hr:cw d (iN d) t∈Am (oN d):=by obtain⟨e,he⟩:=F.pre;rw[he];exact cT _ (iH (gy.2 ht))
 have D:∀c∈Am (oN d),sub c (cw d (iN d) t)=true:=F.gen (λc=>sub c (cw d (iN d) t)=true) (λc I=>by
  obtain⟨x,hx,rfl⟩:=aD.1 I
  exact(NC (gy.1 hx)).2 (H x (gy.1 hx))) (λa b R _=>yq (Fa a b) R)
 have w:0<((dR d).map (·.2)).length:=yL ((l _).2 hr);obtain⟨k,U,K⟩:∃k,k<((dR d).map (·.2)).length/\((dR d).map (·.2)).getD k 0=cw d (iN d) t:=by obtain⟨k,U,h1,_⟩:=NR ((l _).2 hr);exact⟨k,U,h1⟩
 have V:k=0:=by have:=B k 0 U w (by rw[K];exact D _ ((l _).1 (kW w)));omega
 subst V;refine⟨N,λc I=>F.nz c ((l c).1 I),λa R b hb G=>(l _).2 (F3 hle a ((l a).1 R) b ((l b).1 hb) G),λc I=>by rw[K];exact D c ((l c).1 I),w,B⟩
def cd_ents {d:List aC} (A:Acc d) (q:d.length<=64) (B:(Am (oN d)).length<=256):Cd ((dR d).map HQ) ((dR d).map (·.2)):=by
 have l:(oN d).length<=256:=by have:=HS (d:=d);omega
 obtain⟨F,_,D⟩:=Em (BY A) ND l;have w:=BZ (d:=d);refine⟨by simp[lY,HQ],λc z=>Qh F (Dd q) c (w.mem_iff.1 z),?_⟩;rw[w.length_eq];omega
def c15 {d:List aC} (z:Sz d) (l:d.length<=64):f15 d=some (if HJ d≠0 then([],HJ d) else if(Am (oN d)).length>256 then([],7) else((dR d).map HQ,0)):=by
 have L:=z.len;have G:=oQ (d:=d);refine e15 ?_;rw[c32 z,ak];by_cases w:HJ d=0
 .have A:=IP w;rw[aA (by simpa using w),w,cond_neg ai,c52 d af,ak];refine h15a z l ?_ _ 0 rfl af;by_cases D:(Am (oN d)).length>256
  .rw[cond_pos aH,aB D]
  .rw[cond_neg aH,aA D];have B:(oN d).length<=256:=by have:=HS (d:=d);omega
   obtain⟨F,_,_⟩:=Em (BY A) ND B
   exact h15b z A (by simp[oN]) af (λx K=>by
    obtain⟨t,I,rfl⟩:=aD.1 (gy.1 K)
    have:=Un (A.name t I);omega) (Dd l) (Qh F (Dd l)) af _ 0 [] rfl ai af (by simp[mN]) (λq H=>by cases H)
 .rw[aB w,cond_pos (by simpa using w)]
end Go.Proofs.YtacapiamkgkkjaaGreatDoor.cl
namespace Go.Proofs.YtacapiamkgkkjaaGreatDoor.cl
open Go Go.AM
