/- The Closure laws. -/
import Derived.Test.YthppjmoncapdfaaGreatDoorClNb
set_option linter.all false
open Go.IntKind (wrap)
namespace Go.Proofs.YthppjmoncapdfaaGreatDoor.cl
open Go Go.AM
def mk (w:Nat):List Nat->Nat
 |[]=>w
 |j::l=>mk (w|||2^ j) l
def mk_bit:∀(l:List Nat) (w i:Nat),(mk w l).testBit i=(w.testBit i||decide (i∈l)):=by intro l;induction l with
 |nil=>intro w i;simp[mk]
 |cons j l q=>
  intro w i;rw[mk,q,Nat.testBit_or,Nat.testBit_two_pow];by_cases h:j=i
  .subst h;simp
  .have:¬i=j:=λe=>h e.symm
   simp[h,this]
def DX {j:Nat} (h:j<64):2^ j<18446744073709551616:=by have:=Nat.pow_lt_pow_right (a:=2) af h;simpa using this
def mk_lt:∀(l:List Nat) (w:Nat),w<18446744073709551616->(∀j∈l,j<64)->mk w l<18446744073709551616:=by intro l;induction l with
 |nil=>intro w h _;exact h
 |cons j l B=>intro w h q;exact B _ (ac2 h (DX (q j ah))) λk z=>q k (by simp[z])
abbrev ade (w:Nat):W:=(w:Int)::List.replicate 63 0
def UD (w:Nat):norm (ade w)=e1 w:=by rw[<-G4 w];apply Rv;intro j;cases j with
 |zero=>rw[L2];rfl
 |succ j=>rw[Vh];unfold wd ade;rw[List.getD_cons_succ,aZ,jr];split<;>rfl
def adm {x:Nat} (h:x<64):Int.tdiv (x:Int) 64=0:=by rw[Int.tdiv_eq_ediv_of_nonneg af];omega
def adn {x:Nat} (h:x<64):Int.tmod (x:Int) 64=(x:Int):=by rw[Int.tmod_eq_emod_of_nonneg af];omega
def AP {p:Nat} (h:p<18446744073709551616):wrap .u64 (p:Int)=(p:Int):=sD af af
def h100 {l:List Nat} (N:l.length<=1048576) (B:∀j∈l,j<64):∀(xs:List Nat) (i w:Nat),l.drop i=xs->w<18446744073709551616->N8 (cast l) i (ade w)=some (e1 (mk w xs),0):=by intro xs;induction xs with
 |nil=>intro i w h D;refine aaS ?_;rw[bq (ZK h),aA,c60 _ ah,UD];rfl
 |cons x xs L=>
  intro i w h D;refine aaS ?_;have q:x<64:=B x (aI (bA h));have z:wrap .i64 (Int.tdiv (x:Int) 64)=0:=by rw[adm q];rfl
  have F:wrap .u64 (Int.tmod (x:Int) 64)=(x:Int):=by rw[adn q,AP af]
  have G:min x (IntKind.bits .u64)=x:=by show min x 64=x;omega
  have H:wrap .u64 (1 *2^ x)=((2^ x:Nat):Int):=by
   have K:=DX q
   have:(1 *2^ x:Int)=((2^ x:Nat):Int):=ah
   rw[this,AP K]
  have I:wrap .u64 ((BitVec.ofInt (IntKind.bits .u64) (w:Int)|||BitVec.ofInt (IntKind.bits .u64) ((2^ x:Nat):Int)).toNat:Int)=((w|||2^ x:Nat):Int):=ac1 D (DX q);simp only[aQ (EL h),bf (EL h),ai,z,F,G,H,Int.toNat_zero,aR,aX (EL h) aF];rw[cond_neg ah,cond_neg aF,bh (by decide),bh (by decide),bh ah,gF (x:=(w:Int)) ah,bh (by decide),bh af,bh ah,gF (x:=(w:Int)) ah,I];exact L (i+1) _ (aH h) (ac2 D (DX q))
def c100 {l:List Nat} (w:l.length<=1048576) (q:∀j∈l,j<64):f100 (cast l)=some (e1 (mk 0 l),0):=by refine e100 ?_;rw[bh (by decide)];exact h100 w q l 0 0 rfl af
def c103 {w i:Nat} (N:w<18446744073709551616) (D:i<64):f103 (e1 w) i=some (w.testBit i):=by
 refine e103 ?_;have l:wrap .i64 (Int.tdiv (i:Int) 64)=0:=by rw[adm D];rfl
 have F:wrap .u64 (Int.tmod (i:Int) 64)=(i:Int):=by rw[adn D,AP af]
 have G:min i (IntKind.bits .u64)=i:=by show min i 64=i;omega
 simp only[l,F,G,aR];rw[cond_neg ah,bh (by decide)];by_cases B:w=0
 .subst B;rw[cond_pos (by simp[e1])];simp
 .have K:e1 w=[(w:Int)]:=by simp[e1,B]
  rw[K,cond_neg ah,bh (by decide),zX (x:=(w:Int)) af ah,bh (by decide),bh af];have H:Int.fdiv (w:Int) (2^ i)=((w / 2^ i:Nat):Int):=by rw[show(2^ i:Int)=((2^ i:Nat):Int) by simp,CV _ (xQ _)];simp
  have L:w / 2^ i<18446744073709551616:=jk (Nat.div_le_self _ _) N;have z:=EF L (v:=1) af;unfold FF at z;rw[H];have I:((1:Nat):Int)=1:=rfl;rw[I] at z;rw[z,Nat.and_one_is_mod,Nat.testBit_eq_decide_div_mod_eq];congr 1;generalize w / 2^ i % 2=q;rw[jo,gj,bH];omega
def bitsOf (w:Nat):List Nat:=(List.range 64).filter w.testBit
def h139 {w:Nat} (H:w<18446744073709551616) (D:w≠0):∀(n i:Nat),64-i=n->i<=64->JO (e1 w) i (cast ((List.range i).filter w.testBit))=some (cast (bitsOf w)):=by
 have G:e1 w=[(w:Int)]:=by simp[e1,D]
 have l:wrap .i64 (64 *((e1 w).length:Int))=64:=by rw[G];rfl
 intro n;induction n with
 |zero=>
  intro i F z;obtain rfl:i=64:=by omega
  refine TY ?_;rw[l,cond_neg ah];rfl
 |succ n I=>intro i F z;refine TY ?_;have q:=I (i+1) af af;rw[iP,CW] at q;rw[l,cond_pos aF,c103 H af,ak,bp af];cases B:w.testBit i with
  |true=>
   rw[show List.filter w.testBit [i]=[i] by simp[B],cast,bM] at q
   rw[ai,bU _ (by
    simp only[aV];refine dB (kX _ _) ?_
    simp;omega) ah af]
   exact q
  |false=>rw[show List.filter w.testBit [i]=[] by simp[B],e7] at q;rw[aA];exact q
def c139 {w:Nat} (q:w<18446744073709551616):f139 (e1 w)=some (cast (bitsOf w)):=by
 refine e139 ?_;by_cases l:w=0
 .subst l;refine TY ?_;rw[show e1 0=[] from rfl,cond_neg (by decide)]
  have:bitsOf 0=[]:=by simp[bitsOf]
  rw[this];rfl
 .exact h139 q l _ 0 rfl af
def pc (w:Nat):Nat:=(bitsOf w).length
def c105 {w:Nat} (l:w<18446744073709551616):f105 (e1 w)=some (pc w:Int):=by refine e105 ?_;rw[c139 l,ak,aV];rfl
def ER {L:Type} {p q:L->Bool}:∀{l:List L},(∀x∈l,p x=true->q x=true)->(∃x∈l,p x=false/\q x=true)->(l.filter p).length<(l.filter q).length:=by intro l;induction l with
 |nil=>rintro _ ⟨x,w,_⟩;cases w
 |cons y l O=>
  intro G N;have H:∀{l:List L},(∀x∈l,p x=true->q x=true)->(l.filter p).length<=(l.filter q).length:=by intro l;induction l with
   |nil=>intro _;simp
   |cons z l K=>
    intro h;have:=K λx w=>h x (by simp[w])
    cases B:p z with
    |true=>simp[fL,B,h z ah B];omega
    |false=>cases I:q z<;>simp[fL,B,I]<;>omega
  have P:=H (l:=l) λx w=>G x (by simp[w])
  obtain⟨x,w,D,F⟩:=N;rcases aG.1 w with rfl|w
  .simp[fL,D,F];omega
  .have:=O (λx w=>G x (by simp[w])) ⟨x,w,D,F⟩;cases B:p y with
   |true=>simp[fL,B,G y ah B];omega
   |false=>cases I:q y<;>simp[fL,B,I]<;>omega
def pc_lt {a b:Nat} (D:b<18446744073709551616) (h:sub a b=true) (w:a≠b):pc a<pc b:=by
 apply ER
 .intro i _ l;exact jM.1 h i l
 .apply dz;intro z;apply w;refine rN h (jM.2 λi l=> ?_);have q:i<64:=by
   apply dz;intro z
   have:b.testBit i=false:=xT (eO (by simpa using D:b<2^ 64) (xU af af))
   rw[this] at l;cases l
  cases B:a.testBit i with
  |true=>rfl
  |false=>exact absurd ⟨i,by simpa using q,B,l⟩ z
open Classical in
noncomputable def idxs (d:List aB) (all:List cL) (x:cL):List Nat:=(List.range all.length).filter λi=>decide (Le d x (all.getD i []))
noncomputable def cw (d:List aB) (all:List cL) (x:cL):Nat:=mk 0 (idxs d all x)
def yp {d:List aB} {all:List cL} {x:cL} {i:Nat}:(cw d all x).testBit i=true↔i<all.length/\Le d x (all.getD i []):=by rw[cw,mk_bit,Nat.zero_testBit,iL,bH,idxs,cH,eM];simp only[jZ]
def ZV {d:List aB} {all:List cL} {x:cL} (h:all.length<=64):cw d all x<18446744073709551616:=mk_lt _ _ af λj l=>by have:=eM.1 (cH.1 l).1;omega
def h53 {d:List aB} {all low:List cL} {x:cL} (q:all.length<=64) (H:low.length<=1048576) (G:∀y,y∈low↔Le d x y):∀(n i:Nat),all.length-i=n->i<=all.length->
  Sf all low i (cast (open Classical in (List.range i).filter λi=>decide (Le d x (all.getD i []))))=some (e1 (cw d all x)):=by
 intro n;induction n with
 |zero=>
  intro i I B;obtain rfl:i=all.length:=by omega
  refine k53_4 ?_;have l:(idxs d all x).length<=64:=by refine dB (kX _ _) ?_;simpa using q
  have:=c100 (l:=idxs d all x) af λj K=>by have:=eM.1 (cH.1 K).1;omega
  unfold idxs at this;rw[cond_neg ah,this];rfl
 |succ n L=>
  intro i I B;refine k53_4 ?_;have l:=L (i+1) af af;rw[iP,CW] at l;have w:i<all.length:=af;have F:all[i]=all.getD i []:=by rw[aZ,aM w];rfl
  rw[cond_pos aF,bS w,ZF _ _ af,ak,bp af];by_cases z:Le d x (all.getD i [])
  .have D:all[i]∈low:=by rw[F];exact(G _).2 z
   rw[cond_pos (by simpa using D),bU _ (by
    simp only[aV];refine dB (kX _ _) ?_
    simp;omega) ah af]
   rw[show(List.filter (open Classical in λi=>decide (Le d x (all.getD i []))) [i])=[i] by rw[fL,az (by simpa using z)];rfl,cast,bM] at l;exact l
  .have D:all[i]∉low:=by rw[F];exact λh=>z ((G _).1 h)
   rw[cond_neg (by simpa using D)];rw[show(List.filter (open Classical in λi=>decide (Le d x (all.getD i []))) [i])=[] by rw[fL,au (by simpa using z)];rfl,e7] at l;exact l
def c53 {d:List aB} (z:Sz d) {all:List cL} (q:all.length<=64) {x:cL} (D:x∈jI d):f53 d all x=some (e1 (cw d all x)):=by refine e53 ?_;obtain⟨l,w,_,B,F⟩:=c99 z D;have:=z.len;rw[w,ak];exact h53 q af B _ 0 rfl af
def h101 {l:List Nat} (z:∀c∈l,c<18446744073709551616) (B:l.length<=1048576) {w:Nat} (D:w<18446744073709551616):∀(xs:List Nat) (i:Nat),l.drop i=xs->N9 (l.map e1) (e1 w) i=some (decide (w∈xs)):=by intro xs;induction xs with
 |nil=>
  intro i h;refine aaT ?_;have q:(l.map e1).drop i=[]:=by rw[<-kV,h];rfl
  rw[bq q];simp
 |cons x xs F=>
  intro i h;refine aaT ?_;have q:(l.map e1).drop i=e1 x::xs.map e1:=by rw[<-kV,h];rfl
  rw[bf q,ai,aQ q,o57 (z x (aI (bA h))) D,ak,aX q aF,F (i+1) (aH h)];by_cases e:x=w
  .subst e;simp
  .have:¬w=x:=λh=>e h.symm
   simp[e,this]
def c101 {l:List Nat} (z:∀c∈l,c<18446744073709551616) (q:l.length<=1048576) {w:Nat} (B:w<18446744073709551616):f101 (l.map e1) (e1 w)=some (decide (w∈l)):=e101 (h101 z q B l 0 rfl)
def zh (l:List Nat) (b:Nat):List Nat:=if b=0\/b∈l then l else l++[b]
def rq (i:Nat):Nat->Nat->List Nat->List Nat
 |0,_,l=>l
 |n+1,k,l=>if l.length<=256 then rq i n (k+1) (zh l (l.getD i 0&&&l.getD k 0)) else l
def pN:Nat->Nat->List Nat->List Nat
 |0,_,l=>l
 |n+1,i,l=>if i<l.length/\l.length<=256 then pN n (i+1) (rq i i 0 l) else l
def zm (cs:List Nat):List Nat:=pN 258 0 cs
def HE (l:List Nat) (b:Nat):∃e,zh l b=l++e/\e.length<=1:=by
 unfold zh;split
 .exact⟨[],by simp,ah⟩
 .exact⟨[b],rfl,ah⟩
def Lf (i:Nat):∀(n k:Nat) (l:List Nat),l.length<=257->∃e,rq i n k l=l++e/\(l++e).length<=257:=by intro n;induction n with
 |zero=>intro k l h;exact⟨[],by simp[rq],by simpa using h⟩
 |succ n F=>
  intro k l h;unfold rq;split
  .obtain⟨e,z,D⟩:=HE l (l.getD i 0&&&l.getD k 0);obtain⟨B,w,q⟩:=F (k+1) (zh l (l.getD i 0&&&l.getD k 0)) (by rw[z];simp;omega);rw[w];rw[z] at q⊢;exact⟨e++B,by simp,by simpa using q⟩
  .exact⟨[],by simp,by simpa using h⟩
def Vr {l:List Nat} {b:Nat} (w:∀c∈l,c<18446744073709551616) (z:b<18446744073709551616):∀c∈zh l b,c<18446744073709551616:=by
 intro c q;unfold zh at q;split at q
 .exact w c q
 .rcases bw.1 q with h|h
  .exact w c h
  .simp only[bX] at h;subst h;exact z
def getD_map {l:List Nat} {i:Nat} (h:i<l.length):(l.map e1)[i]? =some (e1 (l.getD i 0)):=by rw[dF,aZ,aM h];rfl
def MN {l:List Nat} {i:Nat} (q:∀c∈l,c<18446744073709551616) (h:i<l.length):l.getD i 0<18446744073709551616:=q _ (ku h)
def h54b {i:Nat}:∀(n k:Nat) (l:List Nat),i-k=n->k<=i->i<l.length->l.length<=257->(∀c∈l,c<18446744073709551616)->∀r,
  LX (i+1:Nat) ((rq i n k l).map e1)=some r->LY i k (l.map e1)=some r:=by
 intro n;induction n with
 |zero=>intro k l U R O I z r G;refine k54_6 ?_;rw[cond_neg aF,bp af];exact G
 |succ n V=>
  intro k l U R O I z r G;refine k54_6 ?_;rw[cond_pos aF,bp af,bp af];unfold rq at G;by_cases B:l.length<=256
  .rw[az B] at G;have H:=MN z O;have P:=MN z (show k<l.length by omega);have D:l.getD i 0&&&l.getD k 0<18446744073709551616:=jk j6 H;rw[cond_pos aF,bh aF,aR,gF (getD_map O),bh aF,aR,gF (getD_map af),o61 H P,ak];have K:=HE l (l.getD i 0&&&l.getD k 0);have w:(zh l (l.getD i 0&&&l.getD k 0)).length<=257/\i<(zh l (l.getD i 0&&&l.getD k 0)).length:=by
    obtain⟨e,Q,S⟩:=K;rw[Q];simp;omega
   have q:=V (k+1) (zh l (l.getD i 0&&&l.getD k 0)) af af w.2 w.1 (Vr z D) r G;by_cases N:l.getD i 0&&&l.getD k 0=0
   .rw[N] at q⊢;rw[cond_neg (by simp[e1])]
    have:zh l 0=l:=by simp[zh]
    rw[this] at q;exact q
   .have F:(e1 (l.getD i 0&&&l.getD k 0)).length=1:=by
     unfold e1;rw[au N];rfl
    rw[cond_pos (by rw[F];decide),c101 z af D,ak];by_cases L:l.getD i 0&&&l.getD k 0∈l
    .rw[cond_neg (by simpa using L)]
     have:zh l (l.getD i 0&&&l.getD k 0)=l:=az (.inr L)
     rw[this] at q;exact q
    .rw[cond_pos (by simpa using L),bU _ aF ah af]
     have:zh l (l.getD i 0&&&l.getD k 0)=l++[l.getD i 0&&&l.getD k 0]:=au (by simp only[jW];exact⟨N,L⟩)
     rw[this,bM] at q;exact q
  .rw[au B] at G;rw[cond_neg aF];exact G
def aae (i:Nat):∀(n k:Nat) (l:List Nat),(∀c∈l,c<18446744073709551616)->∀c∈rq i n k l,c<18446744073709551616:=by intro n;induction n with
 |zero=>intro k l h;exact h
 |succ n w=>
  intro k l h;unfold rq;split
  .refine w _ _ (Vr h ?_);by_cases q:i<l.length
   .exact jk j6 (MN h q)
   .rw[aZ,fB af];simp
  .exact h
def h54:∀(n i:Nat) (l:List Nat),258<=i+n->l.length<=257->(∀c∈l,c<18446744073709551616)->LX i (l.map e1)=some ((pN n i l).map e1):=by intro n;induction n with
 |zero=>intro i l G q w;refine k54_3 ?_;rw[cond_neg aF];rfl
 |succ n H=>
  intro i l G q w;refine k54_3 ?_;unfold pN;by_cases z:i<l.length
  .rw[cond_pos aF];by_cases D:l.length<=256
   .rw[cond_pos aF,az ⟨z,D⟩];obtain⟨e,F,B⟩:=Lf i i 0 l q;refine h54b i 0 l rfl af z q w _ ?_;exact H (i+1) _ af (by rw[F];exact B) (aae i i 0 l w)
   .rw[cond_neg aF,au (λh=>D h.2)]
  .rw[cond_neg aF,au (λh=>z h.1)]
def c54 {l:List Nat} (q:∀c∈l,c<18446744073709551616) (w:l.length<=256):f54 (l.map e1)=some ((zm l).map e1):=by refine e54 ?_;rw[bU _ ah aF af,dh];exact h54 258 0 l af af q
structure Fm (cs l:List Nat):Prop where
 nd:l.Nodup
 nz:∀c∈l,c≠0
 gen:∀P:Nat->Prop,(∀c∈cs,P c)->(∀a b,P a->P b->P (a&&&b))->∀c∈l,P c
 pre:∃e,l=cs++e
def Fm.add {F l:List Nat} (h:Fm F l) {i k:Nat} (K:i<l.length) (L:k<l.length):Fm F (zh l (l.getD i 0&&&l.getD k 0)):=by
 unfold zh;split
 .exact h
 .rename_i D;simp only[jW] at D;refine⟨?_,?_,?_,?_⟩
  .rw[gW];exact⟨h.nd,by simp,λa H b G=>by simp only[bX] at G;subst G;exact λe=>D.2 (e▸H)⟩
  .intro c w;rcases bw.1 w with q|q
   .exact h.nz c q
   .simp only[bX] at q;subst q;exact D.1
  .intro P B z c w;rcases bw.1 w with q|q
   .exact h.gen P B z c q
   .simp only[bX] at q;subst q;exact z _ _ (h.gen P B z _ (ku K)) (h.gen P B z _ (ku L))
  .obtain⟨e,I⟩:=h.pre;exact⟨e++[l.getD i 0&&&l.getD k 0],by rw[I];simp⟩
def wQ {l e:List Nat} {i:Nat} (h:i<l.length):(l++e).getD i 0=l.getD i 0:=by rw[aZ,aZ,dD h]
def addF_in (l:List Nat) (b:Nat):b=0\/b∈zh l b:=by
 unfold zh;split
 .assumption
 .simp
def Tz {cs:List Nat} (i:Nat):∀(n k:Nat) (l:List Nat),Fm cs l->i<l.length->k+n<=i->Fm cs (rq i n k l)/\((rq i n k l).length<=256->∀j,k<=j->j<k+n->l.getD i 0&&&l.getD j 0=0\/l.getD i 0&&&l.getD j 0∈rq i n k l)/\∃e,rq i n k l=l++e:=by intro n;induction n with
 |zero=>intro k l h B P;exact⟨h,λ_ j K L=>by omega,[],by simp[rq]⟩
 |succ n Q=>
  intro k l h B P;unfold rq;split
  .obtain⟨e,w,_⟩:=HE l (l.getD i 0&&&l.getD k 0);have D:i<(zh l (l.getD i 0&&&l.getD k 0)).length:=by rw[w];simp;omega
   obtain⟨G,H,I,F⟩:=Q (k+1) _ (h.add B af) D af;refine⟨G,λq j K L=> ?_,e++I,by rw[F,w];simp⟩;by_cases O:j=k
   .subst O;rcases addF_in l (l.getD i 0&&&l.getD j 0) with z|z
    .exact .inl z
    .right;rw[F];exact dV _ z
   .have:=H q j af af;rw[w,wQ B,wQ af] at this;rw[w];exact this
  .rename_i N;refine⟨h,λq=>absurd q N,[],ah⟩
def Qj {cs:List Nat}:∀(n i:Nat) (l:List Nat),258<=i+n->l.length<=257->Fm cs l->(∀a b,a<i->b<a->a<l.length->l.getD a 0&&&l.getD b 0=0\/l.getD a 0&&&l.getD b 0∈l)->
  Fm cs (pN n i l)/\(pN n i l).length<=257/\((pN n i l).length<=256->∀a b,b<a->a<(pN n i l).length->(pN n i l).getD a 0&&&(pN n i l).getD b 0=0\/(pN n i l).getD a 0&&&(pN n i l).getD b 0∈pN n i l):=by
 intro n;induction n with
 |zero=>intro i l hn w h I;exact⟨h,w,λ_ a b O H=>I a b (by have U:a<l.length:=H;omega) O H⟩
 |succ n ih=>
  intro i l hn w h I;unfold pN;split
  .rename_i K;obtain⟨R,S,e,L⟩:=Tz (cs:=cs) i i 0 l h K.1 af;obtain⟨e',Q,G⟩:=Lf i i 0 l w;have z:(rq i i 0 l).length<=257:=by rw[Q];exact G
   by_cases q:(rq i i 0 l).length<=256
   .refine ih (i+1) _ af z R ?_;intro a b V P hal;by_cases F:a=i
    .subst F;rw[L,wQ K.1,wQ af,<-L];exact S q b af af
    .rw[L,wQ af,wQ af];rcases I a b af P af with N|N
     .exact .inl N
     .exact .inr (dV _ N)
   .have B:∀n,pN n (i+1) (rq i i 0 l)=rq i i 0 l:=by
     intro n;cases n with
     |zero=>rfl
     |succ n=>unfold pN;rw[au (λh=>q h.2)]
    rw[B];exact⟨R,z,λh=>absurd h q⟩
  .rename_i K;refine⟨h,w,λD a b O H=> ?_⟩
   have:¬i<l.length:=λhh=>K ⟨hh,D⟩
   exact I a b af O H
def Dz {cs:List Nat} (G:cs.Nodup) (H:∀c∈cs,c≠0) (L:cs.length<=256):Fm cs (zm cs)/\(zm cs).length<=257/\((zm cs).length<=256->∀a∈zm cs,∀b∈zm cs,a&&&b≠0->a&&&b∈zm cs):=by
 obtain⟨B,N,I⟩:=Qj (cs:=cs) 258 0 cs af af ⟨G,H,λP B _=>B,[],ah⟩ (λa b h=>by omega);refine⟨B,N,λq a O b Q l=> ?_⟩;obtain⟨i,D,rfl⟩:=iz.1 O;obtain⟨j,K,rfl⟩:=iz.1 Q;have w:(zm cs)[i]=(zm cs).getD i 0:=by rw[aZ,aM D];rfl
 have z:(zm cs)[j]=(zm cs).getD j 0:=by rw[aZ,aM K];rfl
 rw[w,z] at l⊢;by_cases e:i=j
 .subst e;rw[Nat.and_self];exact ku D
 .by_cases F:j<i
  .exact(I q i j F D).resolve_left l
  .rw[Nat.and_comm] at l⊢;exact(I q j i af K).resolve_left l
end Go.Proofs.YthppjmoncapdfaaGreatDoor.cl
namespace Go.Proofs.YthppjmoncapdfaaGreatDoor.cl
open Go Go.AM
def vo (l:List cL):cL:=(l.map λx=>38::x).flatten
def B9 (x:cL) (l:List cL):rZ [38] (x::l)=x++vo l:=by induction l generalizing x with
 |nil=>simp[rZ,vo]
 |cons y l q=>rw[show rZ [38] (x::y::l)=x++[38]++rZ [38] (y::l) from rfl,q y];simp[vo]
def h55c (l:List cL) (G:l.length<=1048576) (B:∀x∈l,x.length<=1000):∀(xs:List cL) (i:Nat) (s:cL),l.drop i=xs->0<i->s.length<=1001 *i->Fl l s i=some (s++vo xs):=by intro xs;induction xs with
 |nil=>intro i s h q z;refine Uj ?_;rw[bq h];simp[vo]
 |cons x xs F=>intro i s h q z;refine Uj ?_;have w:=c9 h;have D:=B x (aI (bA h));rw[bf h,ai,cond_pos aF,bh aF,aQ h,bh aF,aX h af,F (i+1) _ (aH h) af aF];simp[vo]
def c55c (l:List cL) (F:l.length<=1048576) (w:∀x∈l,x.length<=1000):Fl l [] 0=some (rZ [38] l):=by refine Uj ?_;cases q:l with
 |nil=>rfl
 |cons x xs=>have h:l.drop 0=x::xs:=q;rw[<-q];have D:((0:Nat):Int)=0:=rfl;have z:=bf h;have B:= @aQ _ R55.T _ _ _ _ h;rw[D] at z B;rw[z,ai,cond_neg ah,B,bh (by have:=w x (by rw[q];simp);simp;omega)];have:=h55c l F w xs 1 ([]++x) (aH h) af (by have:=w x (by rw[q];simp);simp;omega);rw[q,B9,<-q];exact this
noncomputable def mq (d:List aB) (w:Nat):List cL->List Nat->Nat->List cL->cL
 |s::ss,c::q,i,l=>if c=w then s else mq d w ss q (i+1) (if w.testBit i=true then l++[s] else l)
 |_,_,_,l=>rZ [38] (u7 d l)
def Rk {d:List aB} {l:List cL} {x:cL} (h:x∈u7 d l):x∈l:=by have:=(cH.1 h).1;exact(cH.1 (gx.1 this)).1
def Rj {d:List aB} {l:List cL}:(u7 d l).length<=l.length:=by refine dB (kX _ _) (dB (pE _) (kX _ _))
def subs_eq {c w:Nat} (l:c<18446744073709551616) (q:w<18446744073709551616):f102 (e1 c) (e1 w)=some (decide (c=w)):=by have z:=mc c;have B:=mc w;rw[c102 _ _ af af,YK (adB l) (adB q),G4,G4];congr 1;rw[mV];exact⟨Tt,λh=>by rw[h]⟩
def h55 {d:List aB} (z:Sz d) (A:Acc d) {all:List cL} {nY:List Nat} (O:nY.length=all.length) (S:all.length<=64) (L:∀x∈all,x.length<=1000) (I:∀c∈nY,c<18446744073709551616) {w:Nat} (Q:w<18446744073709551616):
  ∀(xs:List cL) (q:List Nat) (i:Nat) (l:List cL),all.drop i=xs->nY.drop i=q->i<=all.length->l.length<=i->(∀x∈l,x.length<=1000)->Sg d all (nY.map e1) (e1 w) i l=some (mq d w xs q i l):=by
 intro xs;induction xs with
 |nil=>
  intro q i l h B G F H;refine k55_3 ?_;have U:=iq h;have N:q=[]:=by rw[<-B];exact mU af
  subst N;rw[bq h,aA,c104 z A l af];simp only[ak];rw[c55c _ (by have:=Rj (d:=d) (l:=l);omega) (λx K=>H x (Rk K))];rfl
 |cons x xs R=>intro q i l h B G F H;refine k55_3 ?_;have P:=c9 h;cases q with
  |nil=>have:=iq B;omega
  |cons c q=>
   have K:(nY.map e1).drop i=e1 c::q.map e1:=by rw[<-kV,B];rfl
   rw[bf h,ai,aQ K,subs_eq (I c (aI (bA B))) Q,ak,aQ h,c103 Q af,ak,aQ h,aX h af];show _=some (if c=w then x else mq d w xs q (i+1) (if w.testBit i=true then l++[x] else l));by_cases e:c=w
   .rw[cond_pos (by simpa using e),az e]
   .rw[cond_neg (by simpa using e),au e];cases V:w.testBit i with
    |true=>
     rw[ai,bU _ af ah af,R q (i+1) (l++[x]) (aH h) (aH B) af aF (λy D=>by
      rcases bw.1 D with D|D
      .exact H y D
      .simp only[bX] at D;subst D;exact L y (aI (bA h)))]
     simp
    |false=>rw[aA,R q (i+1) l (aH h) (aH B) af af H];simp
noncomputable def BF (d:List aB) (all:List cL) (nY:List Nat) (w:Nat):cL:=mq d w all nY 0 []
def c55 {d:List aB} (z:Sz d) (A:Acc d) {all:List cL} {nY:List Nat} (l:nY.length=all.length) (q:all.length<=64) (D:∀x∈all,x.length<=1000) (B:∀c∈nY,c<18446744073709551616) {w:Nat} (F:w<18446744073709551616):
  f55 d all (nY.map e1) (e1 w)=some (BF d all nY w):=e55 (h55 z A l q D B F all nY 0 [] rfl rfl af ah (λx G=>by cases G))
abbrev GL:=cL×Nat
def Kq (p:GL):dY:=⟨p.1,e1 p.2⟩
def z8 (p q:GL):Bool:=decide (pc p.2>pc q.2)||(decide (pc p.2=pc q.2)&&Op.bytesLess p.1 q.1)
def c56 {p q:GL} (z:p.2<18446744073709551616) (B:q.2<18446744073709551616):f56 (Kq p) (Kq q)=some (z8 p q):=by
 refine e56 ?_;show Option.bind (f105 (e1 p.2)) _=_;rw[c105 z,ak];show Option.bind (f105 (e1 q.2)) _=_;rw[c105 B,ak];unfold z8;by_cases w:pc p.2>pc q.2
 .rw[cond_pos aF];simp[w]
 .rw[cond_neg aF];by_cases l:pc p.2=pc q.2
  .rw[cond_pos (by rw[gj,l])];simp[l,Kq]
  .rw[cond_neg (by rw[iN];exact λh=>l (Int.ofNat.inj h))];simp[w,l]
def DN {p q:GL}:z8 p q=true↔pc p.2>pc q.2\/(pc p.2=pc q.2/\Op.bytesLess p.1 q.1=true):=by simp[z8]
def Lw (p q:GL) (h:z8 p q=true):z8 q p=false:=by
 apply dz;intro z;rw[xW,DN] at z;rw[DN] at h;rcases h with h|⟨F,D⟩
 .rcases z with B|⟨w,_⟩<;>omega
 .rcases z with B|⟨w,l⟩
  .omega
  .rw[sZ D] at l;cases l
def Ut (x y z:GL) (h:z8 x y=true) (F:z8 z y=false):z8 x z=true:=by
 rw[DN] at h⊢;have D:¬(pc z.2>pc y.2\/(pc z.2=pc y.2/\Op.bytesLess z.1 y.1=true)):=λB=>by rw[<-DN,F] at B;cases B
 simp only[jW,not_and] at D;rcases h with h|⟨H,w⟩
 .left;omega
 .by_cases e:pc z.2=pc y.2
  .right;refine⟨af,?_⟩;have G:=D.2 e;have l:Op.bytesLess z.1 y.1=false:=by simpa using G
   by_cases q:z.1=y.1
   .rw[q];exact w
   .exact Dh _ _ _ w (zP _ _ l q)
  .left;omega
def Ye {q:Type} (lt:q->q->Bool) (x:q):∀l:List q,(p7 lt x l).Perm (x::l):=by intro l;induction l with
 |nil=>exact .refl _
 |cons y l w=>
  unfold p7;split
  .exact .refl _
  .exact(w.cons y).trans (.swap x y l)
def h15c {d:List aB} {all:List cL} {l f:List (List Int)} {E:List GL} {p:GL} {i:Nat} (O:lZ z8 E) (I:∀q∈E,q.2<18446744073709551616) (R:p.2<18446744073709551616) (P:E.length<=1048576) (V:i<=1048576):
  ∀(v:Nat),v<=E.length->(∀q∈E.drop v,z8 p q=true)->∀r,Cw d all l f ((p7 z8 p E).map Kq) (i+1:Nat)=some r->Og d all l f (E.map Kq) i v (Kq p)=some r:=by
 have fin:∀(v:Nat),v<=E.length->(∀q∈E.take v,z8 p q=false)->(∀q∈E.drop v,z8 p q=true)->
   (((([]:List dY)++(((E.map Kq).take (Int.toNat (v:Int))).drop 0))++[Kq p])++(((E.map Kq).take (List.length (E.map Kq))).drop (Int.toNat (v:Int))))=(p7 z8 p E).map Kq:=by
  intro v K L N;have:=II z8 L N;rw[jq] at this;rw[this,fC];simp
 intro v;induction v with
 |zero=>intro K h r B;refine aa3 ?_;rw[<-fin 0 af ah h] at B;rw[cond_neg ah,bh ah,bh ah,bh ah,bh ah,bh aF,bp af];exact B
 |succ v U=>
  intro K h r B;refine aa3 ?_;have w:v<E.length:=af;have D:(E.map Kq)[v]? =some (Kq E[v]):=by rw[dF,aM w];rfl
  rw[cond_pos ah,xB af,ey D,c56 R (I _ (br w)),ak];cases G:z8 p E[v] with
  |true=>
   rw[ai];refine U af ?_ r B;intro q z;rw[kW w] at z;rcases aG.1 z with rfl|z
   .exact G
   .exact h q z
  |false=>
   have F:∀q∈E.take (v+1),z8 p q=false:=by
    intro q z;rw[ud] at z;obtain⟨k,hk,rfl⟩:=z;by_cases H:k=v
    .subst H;exact G
    .have S:z8 E[v] E[k]=false:=by
      have:=mX.1 O k v af w af;exact this
     cases Q:z8 p E[k] with
     |false=>rfl
     |true=>have:=Ut _ _ _ Q S;rw[G] at this;cases this
   rw[<-fin (v+1) af F h] at B;rw[aA,bh aF,bh aF,bh aF,bh aF,bh aF,bp af];exact B
def XW {E:List GL} {l:List GL} (q:lZ z8 E):lZ z8 (l.foldl (λE p=>p7 z8 p E) E)/\(l.foldl (λE p=>p7 z8 p E) E).Perm (E++l):=by induction l generalizing E with
 |nil=>exact⟨q,ah⟩
 |cons p l B=>obtain⟨w,z⟩:=B (zZ z8 Lw Ut q (x:=p));refine⟨w,z.trans ?_⟩;refine((Ye z8 p E).append_right l).trans ?_;exact(xY (a:=p) (l₁:=E) (l₂:=l)).symm
def h15b {d:List aB} (z:Sz d) (A:Acc d) {all:List cL} {nY F:List Nat} (D:nY.length=all.length) (H:all.length<=64) (N:∀x∈all,x.length<=1000) (L:∀c∈nY,c<18446744073709551616)
  (R:∀w∈F,w<18446744073709551616) (S:F.length<=1000):∀(xs:List Nat) (i:Nat) (E:List GL),F.drop i=xs->E.length<=i->i<=F.length->lZ z8 E->(∀q∈E,q.2<18446744073709551616)->
  Cw d all (nY.map e1) (F.map e1) (E.map Kq) i=some (((xs.map λw=>((BF d all nY w,w):GL)).foldl (λE p=>p7 z8 p E) E).map Kq,0):=by
 intro xs;induction xs with
 |nil=>
  intro i E h K U I O;refine aa2 ?_;have G:(F.map e1).drop i=[]:=by rw[<-kV,h];rfl
  rw[bq G];rfl
 |cons w xs V=>
  intro i E h K U I O;refine aa2 ?_;have Q:=c9 h;have G:(F.map e1).drop i=e1 w::xs.map e1:=by rw[<-kV,h];rfl
  have P:=R w (aI (bA h));rw[bf G,ai,aQ G,c55 z A D H N L P,ak,aQ G];have l:((E.map Kq).length:Int)=((E.length:Nat):Int):=by simp
  rw[l];refine h15c (p:=(BF d all nY w,w)) I O P af af E.length (aU _) ah _ ?_;refine V (i+1) (p7 z8 (BF d all nY w,w) E) (aH h) (by rw[QO];omega) af (zZ z8 Lw Ut I) ?_;intro q B;rcases(QS z8).1 B with rfl|B
  .exact P
  .exact O q B
abbrev iw (d:List aB):List cL:=mA (jI d)
noncomputable def nY (d:List aB):List Nat:=(iw d).map (cw d (iw d))
noncomputable def cN (d:List aB):List GL:=((zm (nY d)).map λw=>((BF d (iw d) (nY d) w,w):GL)).foldl (λE p=>p7 z8 p E) []
def oc {d:List aB}:(iw d).length<=d.length:=by have:=pE (jI d);simpa using this
def B0 {d:List aB} (h:d.length<=64):∀c∈nY d,c<18446744073709551616:=by intro c l;obtain⟨x,_,rfl⟩:=aD.1 l;exact ZV (by have:=oc (d:=d);omega)
def h15a {d:List aB} (z:Sz d) (h:d.length<=64) {r:R15.T}
  (G:(bif(decide ((((zm (nY d)).map e1).length:Int)>256)) then(some (([]:List dY),(7:Int))) else(Cw d (iw d) ((nY d).map e1) ((zm (nY d)).map e1) ([]:List dY) 0))=some r):
  ∀(xs:List cL) (i:Nat),(iw d).drop i=xs->i<=(iw d).length->W6 d (iw d) i ((((iw d).take i).map (cw d (iw d))).map e1)=some r:=by
 have w:=oc (d:=d);have K:=z.len;intro xs;induction xs with
 |nil=>
  intro i l D;refine k15_7 ?_;have q:=iq l;have e:(((iw d).take i).map (cw d (iw d)))=nY d:=by rw[gd q];rfl
  rw[e,bq l,aA,c54 (B0 h) (by simp[nY];omega)];exact G
 |cons x xs I=>
  intro i l D;refine k15_7 ?_;have F:=c9 l;have H:x∈jI d:=gx.1 (aI (bA l));have B:(iw d).take (i+1)=(iw d).take i++[x]:=by rw[cr,bA l];rfl
  have:=I (i+1) (aH l) af;rw[B,bM,bM] at this;rw[bf l,ai,aQ l,c53 z af H,ak,bU _ aF ah af,aX l af];exact this
def TU {s:cL} (h:isName s=true):s.length<=32:=by unfold isName at h;simp only[aJ,jZ] at h;exact h.1.1.1.2
def PA {q l:List Nat} (w:Fm q l) (h:∀c∈q,c<18446744073709551616):∀c∈l,c<18446744073709551616:=
 w.gen (λc=>c<18446744073709551616) h λa b z _=>jk j6 z
def Qy {d:List aB} {i:Nat} (h:i<(iw d).length):(iw d).getD i []∈jI d:=by rw[aZ,aM h];exact gx.1 (br h)
def MW {d:List aB} {x:cL} (h:x∈jI d):∃i,i<(iw d).length/\(iw d).getD i []=x:=by obtain⟨i,l,e⟩:=iz.1 (gx.2 h);exact⟨i,l,by rw[aZ,aM l];exact e⟩
def Ms {d:List aB} {x y:cL} (q:y∈jI d):sub (cw d (iw d) y) (cw d (iw d) x)=true↔Le d x y:=by
 rw[jM];constructor
 .intro h;obtain⟨i,l,e⟩:=MW q;have:=h i (yp.2 ⟨l,by rw[e];exact .refl⟩);rw[yp,e] at this;exact this.2
 .intro h i l;rw[yp] at l⊢;exact⟨l.1,rX.trans h l.2⟩
def cw_inj {d:List aB} (A:Acc d) {x y:cL} (l:x∈jI d) (q:y∈jI d) (h:cw d (iw d) x=cw d (iw d) y):x=y:=
 le_antisymm A ((Ms q).1 (by rw[h];exact xz _)) ((Ms l).1 (by rw[h];exact xz _))
def LD {B K:Type} {f:B->K}:∀{l:List B},l.Nodup->(∀x∈l,∀y∈l,f x=f y->x=y)->(l.map f).Nodup:=by intro l;induction l with
 |nil=>intro _ _;simp
 |cons x l I=>intro H w;have q:=fA.1 H;rw[aS,fA];refine⟨λG=> ?_,I q.2 λa D b F=>w a (by simp[D]) b (by simp[F])⟩;obtain⟨y,z,e⟩:=aD.1 G;exact q.1 (w y (by simp[z]) x ah e▸z)
def AY {d:List aB} (A:Acc d):(nY d).Nodup:=LD (lJ _).nodup λx l y q h=>cw_inj A (gx.1 l) (gx.1 q) h
def Mt {d:List aB}:∀c∈nY d,c≠0:=by
 intro c q;obtain⟨x,z,rfl⟩:=aD.1 q;intro e;obtain⟨i,w,l⟩:=MW (gx.1 z)
 have:(cw d (iw d) x).testBit i=true:=yp.2 ⟨w,by rw[l];exact .refl⟩
 rw[e] at this;simp at this
def GR {d:List aB}:(nY d).length<=d.length:=by have:=oc (d:=d);simpa[nY] using this
def A2 {d:List aB}:lZ z8 (cN d)/\(cN d).Perm ((zm (nY d)).map λw=>((BF d (iw d) (nY d) w,w):GL)):=by have:=XW (E:=[]) (l:=(zm (nY d)).map λw=>((BF d (iw d) (nY d) w,w):GL)) (by simp[lZ]);simpa[cN] using this
def AZ {d:List aB}:((cN d).map (·.2)).Perm (zm (nY d)):=by have:=(A2 (d:=d)).2.map (·.2);simpa[ko] using this
def TN {d:List aB} (A:Acc d) (Q:d.length<=64) (hle:(zm (nY d)).length<=256):Za ((cN d).map (·.2)):=by
 have L:(nY d).length<=256:=by have:=GR (d:=d);omega
 obtain⟨F,_,F3⟩:=Dz (AY A) Mt L;have hP:=AZ (d:=d);have l:∀c,c∈(cN d).map (·.2)↔c∈zm (nY d):=λc=>hP.mem_iff
 have hlt:=PA F (B0 Q);have N:((cN d).map (·.2)).Nodup:=hP.nodup_iff.2 F.nd;have q:∀(i:Nat) (z:i<((cN d).map (·.2)).length),((cN d).map (·.2)).getD i 0=((cN d)[i]'(by simpa using z)).2:=by intro i z;rw[aZ,aM z];simp
 have B:∀i j,i<((cN d).map (·.2)).length->j<((cN d).map (·.2)).length->sub (((cN d).map (·.2)).getD j 0) (((cN d).map (·.2)).getD i 0)=true->i<=j:=by
  intro i j z P hs;apply dz;intro I;have S:j<i:=af;have O:=mX.1 (A2 (d:=d)).1 j i (by simpa using P) (by simpa using z) S;have G:((cN d).map (·.2)).getD j 0≠((cN d).map (·.2)).getD i 0:=λe=>by have:=getD_inj N P z e;omega
  have hp:=pc_lt (hlt _ ((l _).1 (ku z))) hs G;rw[q i z,q j P] at hp
  have:z8 ((cN d)[i]'(by simpa using z)) ((cN d)[j]'(by simpa using P))=true:=DN.2 (.inl hp)
  rw[this] at O;cases O
 obtain⟨t,ht,H⟩:=root A;have hr:cw d (iw d) t∈zm (nY d):=by obtain⟨e,he⟩:=F.pre;rw[he];exact dV _ (iQ (gx.2 ht))
 have D:∀c∈zm (nY d),sub c (cw d (iw d) t)=true:=F.gen (λc=>sub c (cw d (iw d) t)=true) (λc I=>by
  obtain⟨x,hx,rfl⟩:=aD.1 I
  exact(Ms (gx.1 hx)).2 (H x (gx.1 hx))) (λa b R _=>xA (Ee a b) R)
 have w:0<((cN d).map (·.2)).length:=xP ((l _).2 hr);obtain⟨k,U,K⟩:∃k,k<((cN d).map (·.2)).length/\((cN d).map (·.2)).getD k 0=cw d (iw d) t:=by obtain⟨k,U,h1,_⟩:=MH ((l _).2 hr);exact⟨k,U,h1⟩
 have V:k=0:=by have:=B k 0 U w (by rw[K];exact D _ ((l _).1 (ku w)));omega
 subst V;refine⟨N,λc I=>F.nz c ((l c).1 I),λa R b hb G=>(l _).2 (F3 hle a ((l a).1 R) b ((l b).1 hb) G),λc I=>by rw[K];exact D c ((l c).1 I),w,B⟩
def cd_ents {d:List aB} (A:Acc d) (q:d.length<=64) (B:(zm (nY d)).length<=256):Cd ((cN d).map Kq) ((cN d).map (·.2)):=by
 have l:(nY d).length<=256:=by have:=GR (d:=d);omega
 obtain⟨F,_,D⟩:=Dz (AY A) Mt l;have w:=AZ (d:=d);refine⟨by simp[ko,Kq],λc z=>PA F (B0 q) c (w.mem_iff.1 z),?_⟩;rw[w.length_eq];omega
def c15 {d:List aB} (z:Sz d) (l:d.length<=64):f15 d=some (if H9 d≠0 then([],H9 d) else if(zm (nY d)).length>256 then([],7) else((cN d).map Kq,0)):=by
 have L:=z.len;have G:=oc (d:=d);refine e15 ?_;rw[c32 z,ak];by_cases w:H9 d=0
 .have A:=HC w;rw[au (by simpa using w),w,cond_neg ah,c52 d af,ak];refine h15a z l ?_ _ 0 rfl af;by_cases D:(zm (nY d)).length>256
  .rw[cond_pos aF,az D]
  .rw[cond_neg aF,au D];have B:(nY d).length<=256:=by have:=GR (d:=d);omega
   obtain⟨F,_,_⟩:=Dz (AY A) Mt B
   exact h15b z A (by simp[nY]) af (λx K=>by
    obtain⟨t,I,rfl⟩:=aD.1 (gx.1 K)
    have:=TU (A.name t I);omega) (B0 l) (PA F (B0 l)) af _ 0 [] rfl ah af (by simp[lZ]) (λq H=>by cases H)
 .rw[az w,cond_pos (by simpa using w)]
end Go.Proofs.YthppjmoncapdfaaGreatDoor.cl
namespace Go.Proofs.YthppjmoncapdfaaGreatDoor.cl
open Go Go.AM
