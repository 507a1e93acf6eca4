/- The Closure laws. -/
import Derived.Test.YtbnlhmaaccgbjaaGreatDoorClNb
import Derived.Test.YtbnlhmaaccgbjaaGreatDoorClT
set_option linter.all false
open Go.IntKind (wrap)
namespace Go.Proofs.YtbnlhmaaccgbjaaGreatDoor.cl
open Go Go.AM
def mk (w:Nat):List Nat->Nat
 |[]=>w
 |j::l=>mk (w|||2^ j) l
def mk_bit:∀(l:List Nat) (w i:Nat),(mk w l).testBit i=(w.testBit i||decide (i∈l)):=by intro l;induction l with
 |nil=>simp[mk]
 |cons j l q=>intro w i;rw[mk];grind
def Fk {j:Nat} (h:j<64):2^ j<18446744073709551616:=by have:=Nat.pow_lt_pow_right (a:=2) af h;omega
def mk_lt:∀(l:List Nat) (w:Nat),w<18446744073709551616->(∀j∈l,j<64)->mk w l<18446744073709551616:=by intro l;induction l with
 |nil=>intro w h _;exact h
 |cons j l B=>intro w h q;exact B _ (adS h (Fk (q j ai))) λk z=>q k (by simp[z])
abbrev adZ (w:Nat):W:=(w:Int)::List.replicate 63 0
def V7 (w:Nat):norm (adZ w)=e1 w:=by rw[<-IW w];apply Th;intro j;cases j with
 |zero=>rw[NZ];rfl
 |succ j=>rw[WK];unfold wd adZ;grind
def aec {x:Nat} (h:x<64):Int.tdiv (x:Int) 64=0:=by grind
theorem aed {x:Nat} (h:x<64):Int.tmod (x:Int) 64=(x:Int):=by grind
theorem xE {p:Nat} (h:p<18446744073709551616):wrap .u64 (p:Int)=(p:Int):=Av af af
def h100 {l:List Nat} (N:l.length<=1048576) (B:∀j∈l,j<64):∀(xs:List Nat) (i w:Nat),l.drop i=xs->w<18446744073709551616->P3 (cast l) i (adZ w)=some (e1 (mk w xs),0):=by intro xs;induction xs with
 |nil=>intro i w h D;refine ab6 ?_;rw[bq (aa4 h),az,c60 _ ai,V7];rfl
 |cons x xs L=>
  intro i w h D;refine ab6 ?_;have q:x<64:=B x (aZ (bZ h));have z:wrap .i64 (Int.tdiv (x:Int) 64)=0:=by rw[aec q];rfl
  have F:wrap .u64 (Int.tmod (x:Int) 64)=(x:Int):=by rw[aed q,xE af]
  have G:min x (IntKind.bits .u64)=x:=by show min x 64=x;omega
  have H:wrap .u64 (1 *2^ x)=((2^ x:Nat):Int):=by
   have K:=Fk q
   have:(1 *2^ x:Int)=((2^ x:Nat):Int):=ai
   rw[this,xE K]
  have I:wrap _ _=((w|||2^ x:Nat)):=adR D (Fk q);simp only[aM (Gf h),aV (Gf h),ak,z,F,G,H,bg,aR (Gf h) aH];rw[cond_neg ai,cond_neg aH,bU (by decide),bU (by decide),bU ai,lB (x:=(w:Int)) ai,bU (by decide),bU af,bU ai,lB (x:=(w:Int)) ai,I];exact L _ _ (aI h) (adS D (Fk q))
def c100 {l:List Nat} (w:l.length<=1048576) (q:∀j∈l,j<64):f100 (cast l)=some (e1 (mk 0 l),0):=by refine e100 ?_;rw[bU (by decide)];exact h100 w q l 0 0 rfl af
def c103 {w i:Nat} (I:w<18446744073709551616) (F:i<64):f103 (e1 w) i=some (w.testBit i):=by
 refine e103 ?_;have l:wrap .i64 (Int.tdiv (i:Int) 64)=0:=by rw[aec F];rfl
 have q:wrap .u64 (Int.tmod (i:Int) 64)=(i:Int):=by grind[aed,xE]
 have z:min i (IntKind.bits .u64)=i:=by show min i 64=i;omega
 simp only[l,q,z,bg];rw[cond_neg ai,bU (by decide)];by_cases D:w=0
 .simp_all[cond_pos,e1]
 .have G:e1 w=[(w:Int)]:=by simp[e1,D]
  rw[G,cond_neg ai,bU (by decide),Kf (x:=(w:Int)) af ai,bU (by decide),bU af];have H:w / 2^ i<18446744073709551616:=nF (Nat.div_le_self _ _) I;have B:=Ga H (v:=1) af;unfold Hl at B;congr 1;grind
def bitsOf (w:Nat):List Nat:=(List.range 64).filter w.testBit
def h139 {w:Nat} (G:w<18446744073709551616) (z:w≠0):∀(n i:Nat),64-i=n->i<=64->Lx (e1 w) i (cast ((List.range i).filter w.testBit))=some (cast (bitsOf w)):=by
 have F:e1 w=[(w:Int)]:=by simp[e1,z]
 have l:wrap .i64 (64 *((e1 w).length:Int))=64:=by rw[F];rfl
 intro n;induction n with
 |zero=>
  intro i D q;obtain rfl:i=64:=by omega
  refine Vw ?_;rw[l,cond_neg ai];rfl
 |succ n H=>intro i D q;refine Vw ?_;have B:=H (i+1) af af;rw[kP,El] at B;rw[l,cond_pos aH,c103 G af,aj,bP af];cases I:w.testBit i with
  |true=>
   rw[cC _ (by grind) ai af];grind
  |false=>simp_all
def c139 {w:Nat} (q:w<18446744073709551616):f139 (e1 w)=some (cast (bitsOf w)):=by
 refine e139 ?_;by_cases l:w=0
 .subst l;refine Vw ?_;rfl
 .exact h139 q l _ 0 rfl af
def pc (w:Nat):Nat:=(bitsOf w).length
def c105 {w:Nat} (l:w<18446744073709551616):f105 (e1 w)=some (pc w:Int):=by refine e105 ?_;rw[c139 l,aj,bz];rfl
def Gk {w:Type} {p q:w->Bool}:∀{l:List w},(∀x∈l,p x=true->q x=true)->(∃x∈l,p x=false/\q x=true)->(l.filter p).length<(l.filter q).length:=by intro l;induction l with
 |nil=>simp
 |cons y l F=>
  have B:∀{l:List _},(∀x∈l,p x=true->q x=true)->(l.filter p).length<=(l.filter q).length:=by intro l;induction l with
   |nil=>simp
   |cons z l D=>grind
  grind
def pc_lt {a b:Nat} (B:b<18446744073709551616) (h:sub a b=true) (l:a≠b):pc a<pc b:=by
 apply Gk
 .simp_all[kz]
 .apply eB;intro z;apply l;refine sG h (kz.2 λi q=> ?_);have w:i<64:=by
   apply eB;intro z
   have:b.testBit i=false:=ze (e8 (by omega:b<2^ 64) (uS af af))
   rw[this] at q;cases q
  grind
open Classical in
noncomputable def idxs (d:List aC) (all:List b9) (x:b9):List Nat:=(List.range all.length).filter λi=>decide (Le d x (all.getD i []))
noncomputable def cw (d:List aC) (all:List b9) (x:b9):Nat:=mk 0 (idxs d all x)
theorem zJ {d:List aC} {all:List b9} {x:b9} {i:Nat}:(cw d all x).testBit i=true↔i<all.length/\Le d x (all.getD i []):=by simp_all[cw,mk_bit,idxs]
theorem abf {d:List aC} {all:List b9} {x:b9} (h:all.length<=64):cw d all x<18446744073709551616:=mk_lt _ _ af λj l=>by have:=gL.1 (c4.1 l).1;omega
def h53 {d:List aC} {all low:List b9} {x:b9} (l:all.length<=64) (B:low.length<=1048576) (I:∀y,y∈low↔Le d x y):∀(n i:Nat),all.length-i=n->i<=all.length->
  T1 all low i (cast (open Classical in (List.range i).filter λi=>decide (Le d x (all.getD i []))))=some (e1 (cw d all x)):=by
 intro n;induction n with
 |zero=>
  intro i D w;obtain rfl:i=all.length:=by omega
  refine k53_4 ?_;have z:(idxs d all x).length<=64:=by refine e7 (uW _ _) ?_;simpa using l
  have:=c100 (l:=idxs d all x) af λj F=>by have:=gL.1 (c4.1 F).1;omega
  unfold idxs at this;rw[cond_neg ai,this];rfl
 |succ n G=>
  intro i D w;refine k53_4 ?_;have z:=G (i+1) af af;rw[kP,El] at z;have q:i<all.length:=af;have H:all[i]=all.getD i []:=by rw[bC,aK q];rfl
  rw[cond_pos aH,cO q,c37 _ _ af,aj,bP af];by_cases K:Le d x (all.getD i [])
  .rw[cC _ (by
    grind) ai af]
   grind
  grind
def c53 {d:List aC} (z:Sz d) {all:List b9} (q:all.length<=64) {x:b9} (D:x∈kH d):f53 d all x=some (e1 (cw d all x)):=by refine e53 ?_;obtain⟨l,w,_,B,F⟩:=c99 z D;have:=z.len;rw[w,aj];exact h53 q af B _ 0 rfl af
def h101 {l:List Nat} (z:∀c∈l,c<18446744073709551616) (B:l.length<=1048576) {w:Nat} (D:w<18446744073709551616):∀(xs:List Nat) (i:Nat),l.drop i=xs->P4 (l.map e1) (e1 w) i=some (decide (w∈xs)):=by intro xs;induction xs with
 |nil=>grind[ab7,bq]
 |cons x xs F=>
  intro i h;refine ab7 ?_;have q:(l.map e1).drop i=e1 x::xs.map e1:=by rw[<-pZ,h];rfl
  rw[aV q,aM q,o57 (z x (aZ (bZ h))) D,aR q aH,F _ (aI h)];grind
def c101 {q:List Nat} (z:∀c∈q,c<18446744073709551616) (l:q.length<=1048576) {w:Nat} (B:w<18446744073709551616):f101 (q.map e1) (e1 w)=some (decide (w∈q)):=e101 (h101 z l B _ 0 rfl)
def A4 (l:List Nat) (b:Nat):List Nat:=if b=0\/b∈l then l else l++[b]
def sO (i:Nat):Nat->Nat->List Nat->List Nat
 |0,_,l=>l
 |n+1,k,l=>if l.length<=256 then sO i n (k+1) (A4 l (l.getD i 0&&&l.getD k 0)) else l
def qw:Nat->Nat->List Nat->List Nat
 |0,_,l=>l
 |n+1,i,l=>if i<l.length/\l.length<=256 then qw n (i+1) (sO i i 0 l) else l
def AU (l:List Nat):List Nat:=qw 258 0 l
def Jy (l:List Nat) (b:Nat):∃e,A4 l b=l++e/\e.length<=1:=by
 unfold A4;split
 .simp
 simp
def M1 (i:Nat):∀(n k:Nat) (l:List Nat),l.length<=257->∃e,sO i n k l=l++e/\(l++e).length<=257:=by intro n;induction n with
 |zero=>simp_all[sO]
 |succ n B=>
  intro k l h;unfold sO;split
  .obtain⟨e,F,z⟩:=Jy l (l.getD i 0&&&l.getD k 0);obtain⟨D,w,q⟩:=B (k+1) (A4 l (l.getD i 0&&&l.getD k 0)) (by grind);simp_all
  simp_all
def WU {l:List Nat} {b:Nat} (z:∀c∈l,c<18446744073709551616) (w:b<18446744073709551616):∀c∈A4 l b,c<18446744073709551616:=by intro c q;unfold A4 at q;grind
def getD_map {l:List Nat} {i:Nat} (h:i<l.length):(l.map e1)[i]? =some (e1 (l.getD i 0)):=by simp_all
theorem OI {l:List Nat} {i:Nat} (q:∀c∈l,c<18446744073709551616) (h:i<l.length):l.getD i 0<18446744073709551616:=q _ (lS h)
def h54b {i:Nat}:∀(n k:Nat) (l:List Nat),i-k=n->k<=i->i<l.length->l.length<=257->(∀c∈l,c<18446744073709551616)->∀r,
  NS (i+1:Nat) ((sO i n k l).map e1)=some r->NT i k (l.map e1)=some r:=by
 intro n;induction n with
 |zero=>intro k l S Q I F w r H;refine k54_6 ?_;rw[cond_neg aH,bP af];exact H
 |succ n U=>
  intro k l S Q I F w r H;refine k54_6 ?_;rw[cond_pos aH,bP af,bP af];unfold sO at H;by_cases B:l.length<=256
  .rw[aB B] at H;have D:=OI w I;have K:=OI w (show k<l.length by omega);have z:l.getD i 0&&&l.getD k 0<18446744073709551616:=nF rV D;rw[cond_pos aH,bU aH,bg,lB (getD_map I),bU aH,bg,lB (getD_map af),o61 D K,aj];have G:=Jy l (l.getD i 0&&&l.getD k 0);have q:(A4 l (l.getD i 0&&&l.getD k 0)).length<=257/\i<(A4 l (l.getD i 0&&&l.getD k 0)).length:=by
    obtain⟨e,P,R⟩:=G;rw[P];simp;omega
   have N:=U (k+1) (A4 l (l.getD i 0&&&l.getD k 0)) af af q.2 q.1 (WU w z) r H;by_cases O:l.getD i 0&&&l.getD k 0=0
   .simp_all[cond_neg,e1,A4]
   .have L:(e1 (l.getD i 0&&&l.getD k 0)).length=1:=by
     unfold e1;rw[au O];rfl
    rw[cond_pos (by simp_all),c101 w af z];by_cases V:l.getD i 0&&&l.getD k 0∈l
    .simp_all[A4]
    .rw[cC _ aH ai af];simp_all[A4]
  grind
theorem aby (i:Nat):∀(n k:Nat) (l:List Nat),(∀c∈l,c<18446744073709551616)->∀c∈sO i n k l,c<18446744073709551616:=by intro n;induction n with
 |zero=>intro k l h;exact h
 |succ n q=>
  intro k l h;unfold sO;split
  .refine q _ _ (WU h ?_);by_cases w:i<l.length
   .grind[Nat.and_le_left,OI]
   simp_all
  omega
def h54:∀(n i:Nat) (l:List Nat),258<=i+n->l.length<=257->(∀c∈l,c<18446744073709551616)->NS i (l.map e1)=some ((qw n i l).map e1):=by intro n;induction n with
 |zero=>intro i l D q w;refine k54_3 ?_;rw[cond_neg aH];rfl
 |succ n H=>
  intro i l D q w;refine k54_3 ?_;unfold qw;by_cases z:i<l.length
  .rw[cond_pos aH];by_cases F:l.length<=256
   .rw[cond_pos aH];obtain⟨e,G,B⟩:=M1 i i 0 l q;refine h54b i 0 l rfl af z q w _ ?_;grind[aby]
   grind
  grind
def c54 {l:List Nat} (q:∀c∈l,c<18446744073709551616) (w:l.length<=256):f54 (l.map e1)=some ((AU l).map e1):=by refine e54 ?_;rw[cC _ ai aH af];exact h54 _ 0 _ af af q
structure Fm (cs l:List Nat):Prop where
 nd:l.Nodup
 nz:∀c∈l,c≠0
 gen:∀P:Nat->Prop,(∀c∈cs,P c)->(∀a b,P a->P b->P (a&&&b))->∀c∈l,P c
 pre:∃e,l=cs++e
def Fm.add {D l:List Nat} (h:Fm D l) {i k:Nat} (F:i<l.length) (G:k<l.length):Fm D (A4 l (l.getD i 0&&&l.getD k 0)):=by
 unfold A4;split
 .exact h
 .refine⟨?_,?_,?_,?_⟩
  .rw[iI];exact⟨h.nd,by simp,λa H b I=>by grind⟩
  .intro c w;rcases bu.1 w with q|q
   .exact h.nz c q
   simp_all
  .intro P B z c w;rcases bu.1 w with q|q
   .exact h.gen P B z c q
   .simp at q;subst q;exact z _ _ (h.gen P B z _ (lS F)) (h.gen P B z _ (lS G))
  .obtain⟨e,K⟩:=h.pre;simp_all
theorem aeQ (l:List Nat) (b:Nat):b=0\/b∈A4 l b:=by grind[A4]
def U7 {z:List Nat} (i:Nat):∀(n k:Nat) (l:List Nat),Fm z l->i<l.length->k+n<=i->Fm z (sO i n k l)/\((sO i n k l).length<=256->∀j,k<=j->j<k+n->l.getD i 0&&&l.getD j 0=0\/l.getD i 0&&&l.getD j 0∈sO i n k l)/\∃e,sO i n k l=l++e:=by intro n;induction n with
 |zero=>intro k l h B G;exact⟨h,λ_ j O P=>by omega,[],by simp[sO]⟩
 |succ n H=>
  intro k l h B G;unfold sO;split
  .obtain⟨e,F,_⟩:=Jy l _;have w:i<(A4 l (l.getD i 0&&&l.getD k 0)).length:=by rw[F];simp;omega
   obtain⟨I,K,N,L⟩:=H (k+1) _ (h.add B af) w af;grind[aeQ]
  .rename_i D;refine⟨h,λq=>absurd q D,[],ai⟩
def R8 {B:List Nat}:∀(n i:Nat) (l:List Nat),258<=i+n->l.length<=257->Fm B l->(∀a b,a<i->b<a->a<l.length->l.getD a 0&&&l.getD b 0=0\/l.getD a 0&&&l.getD b 0∈l)->
  Fm B (qw n i l)/\(qw n i l).length<=257/\((qw n i l).length<=256->∀a b,b<a->a<(qw n i l).length->(qw n i l).getD a 0&&&(qw n i l).getD b 0=0\/(qw n i l).getD a 0&&&(qw n i l).getD b 0∈qw n i l):=by
 intro n;induction n with
 |zero=>intro i l L q h D;exact⟨h,q,λ_ a b G H=>D a b af G H⟩
 |succ n R=>
  intro i l L q h D;unfold qw;split
  .rename_i K;obtain⟨N,O,e,P⟩:=U7 i i 0 l h K.1 af;obtain⟨Q,I,F⟩:=M1 i i 0 l q;by_cases w:(sO i i 0 l).length<=256
   .grind
   .have z:∀n,qw n (i+1) (sO i i 0 l)=sO i i 0 l:=by
     intro n;cases n with
     |zero=>rfl
     |succ n=>simp_all[qw,au]
    grind
  grind
def EO {l:List Nat} (G:l.Nodup) (H:∀c∈l,c≠0) (K:l.length<=256):Fm l (AU l)/\(AU l).length<=257/\((AU l).length<=256->∀a∈AU l,∀b∈AU l,a&&&b≠0->a&&&b∈AU l):=by
 obtain⟨D,L,I⟩:=R8 258 0 _ af af ⟨G,H,λP D _=>D,[],ai⟩ (λa b h=>by omega);refine⟨D,L,λw a N b O q=> ?_⟩;obtain⟨i,Q,rfl⟩:=iV.1 N;obtain⟨j,R,rfl⟩:=iV.1 O;have z:(AU _)[i]=(AU l).getD i 0:=by rw[bC,aK _];rfl
 have B:(AU _)[j]=(AU l).getD j 0:=by rw[bC,aK _];rfl
 rw[z,B] at q⊢;by_cases e:i=j
 .grind
 .by_cases F:j<i
  .exact(I w i j F Q).resolve_left q
  .rw[Nat.and_comm] at q⊢;exact(I w j i af R).resolve_left q
end Go.Proofs.YtbnlhmaaccgbjaaGreatDoor.cl
namespace Go.Proofs.YtbnlhmaaccgbjaaGreatDoor.cl
open Go Go.AM
def wF (l:List b9):b9:=(l.map λx=>38::x).flatten
def DN (x:b9) (l:List b9):yj [38] (x::l)=x++wF l:=by induction l generalizing x with
 |nil=>simp[yj,wF]
 |cons y l q=>rw[show yj _ _=x++[38]++yj _ _ from rfl,q y];simp[wF]
def h55c (l:List b9) (F:l.length<=1048576) (w:∀x∈l,x.length<=1000):∀(xs:List b9) (i:Nat) (s:b9),l.drop i=xs->0<i->s.length<=1001 *i->GY l s i=some (s++wF xs):=by intro xs;induction xs with
 |nil=>grind[VK,bq,wF]
 |cons x xs B=>intro i s h D G;refine VK ?_;have q:=eF h;have z:=w x (aZ (bZ h));rw[aV h,ak,cond_pos aH,bU aH,aM h,bU aH,aR h af,B _ _ (aI h) af aH];simp[wF]
def c55c (l:List b9) (D:l.length<=1048576) (F:∀x∈l,x.length<=1000):GY l [] 0=some (yj [38] l):=by refine VK ?_;cases q:l with
 |nil=>rfl
 |cons x xs=>have h:l.drop 0=x::xs:=q;rw[<-q];have B:((0:Nat):Int)=0:=rfl;have w:=aV h;have z:= @aM _ (List UInt8) _ _ _ _ h;rw[B] at w z;rw[w,ak,cond_neg ai,z,bU (by grind)];have:=h55c l D F _ 1 ([]++x) (aI h) af (by grind);rw[q,DN,<-q];exact this
noncomputable def nh (d:List aC) (w:Nat):List b9->List Nat->Nat->List b9->b9
 |s::ss,c::q,i,l=>if c=w then s else nh d w ss q (i+1) (if w.testBit i=true then l++[s] else l)
 |_,_,_,l=>yj [38] (wh d l)
def S4 {d:List aC} {l:List b9} {x:b9} (h:x∈wh d l):x∈l:=by have:=(c4.1 h).1;simp_all[gH]
theorem S3 {d:List aC} {l:List b9}:(wh d l).length<=l.length:=by refine e7 (uW _ _) (e7 (qo _) (uW _ _))
def subs_eq {c w:Nat} (l:c<18446744073709551616) (q:w<18446744073709551616):f102 (e1 c) (e1 w)=some (decide (c=w)):=by have z:=mX c;have B:=mX w;rw[c102 _ _ af af,aaa (aeu l) (aeu q),IW,IW];grind[UY]
def h55 {d:List aC} (z:Sz d) (A:Acc d) {all:List b9} {qs:List Nat} (O:qs.length=all.length) (S:all.length<=64) (K:∀x∈all,x.length<=1000) (H:∀c∈qs,c<18446744073709551616) {w:Nat} (Q:w<18446744073709551616):
  ∀(xs:List b9) (q:List Nat) (i:Nat) (l:List b9),all.drop i=xs->qs.drop i=q->i<=all.length->l.length<=i->(∀x∈l,x.length<=1000)->T2 d all (qs.map e1) (e1 w) i l=some (nh d w xs q i l):=by
 intro xs;induction xs with
 |nil=>
  intro q i l h B F D L;refine k55_3 ?_;have U:=mT h;have N:q=[]:=by rw[<-B];exact rU af
  subst N;rw[bq h,az,c104 z A l af];simp only[aj];rw[c55c _ (by grind[S3]) (λx I=>L x (S4 I))];rfl
 |cons x xs R=>intro q i l h B F D L;refine k55_3 ?_;have P:=eF h;cases q with
  |nil=>have:=mT B;omega
  |cons c q=>
   have I:(qs.map e1).drop i=e1 c::q.map e1:=by rw[<-pZ,B];rfl
   rw[aV h,ak,aM I,subs_eq (H c (aZ (bZ B))) Q,aj,aM h,c103 Q af,aM h,aR h af];show _=some (if c=w then x else nh d w _ _ _ _);by_cases e:c=w
   .simp_all
   .rw[cond_neg (by simp_all),au e];cases V:w.testBit i with
    |true=>
     rw[cC _ af ai af,R _ _ _ (aI h) (aI B) af aH (λy G=>by
      rcases bu.1 G with G|G
      .simp_all
      .simp at G;subst G;exact K y (aZ (bZ h)))]
     simp
    |false=>rw[R _ _ _ (aI h) (aI B) af af L];simp
noncomputable def Fa (d:List aC) (all:List b9) (qs:List Nat) (w:Nat):b9:=nh d w all qs 0 []
def c55 {d:List aC} (z:Sz d) (A:Acc d) {all:List b9} {qs:List Nat} (l:qs.length=all.length) (q:all.length<=64) (D:∀x∈all,x.length<=1000) (B:∀c∈qs,c<18446744073709551616) {w:Nat} (F:w<18446744073709551616):
  f55 d all (qs.map e1) (e1 w)=some (Fa d all qs w):=e55 (h55 z A l q D B F _ _ 0 _ rfl rfl af ai (λx G=>by cases G))
abbrev D7:=b9×Nat
def ID (p:D7):fQ:=⟨p.1,e1 p.2⟩
def E7 (p q:D7):Bool:=decide (pc p.2>pc q.2)||(decide (pc p.2=pc q.2)&&Op.bytesLess p.1 q.1)
def c56 {p q:D7} (l:p.2<18446744073709551616) (w:q.2<18446744073709551616):f56 (ID p) (ID q)=some (E7 p q):=by
 refine e56 ?_;show Option.bind (f105 (e1 _)) _=_;rw[c105 l];show Option.bind (f105 (e1 _)) _=_;rw[c105 w];unfold E7;by_cases z:pc p.2>pc q.2
 .simp_all
 .by_cases B:pc p.2=pc q.2
  .simp_all[ID]
  grind
theorem IT {p q:D7}:E7 p q=true↔pc p.2>pc q.2\/(pc p.2=pc q.2/\Op.bytesLess p.1 q.1=true):=by simp[E7]
def Nl (p q:D7) (h:E7 p q=true):E7 q p=false:=by grind[IT,Bj]
theorem VW (x y z:D7) (h:E7 x y=true) (l:E7 z y=false):E7 x z=true:=by
 rw[IT] at h⊢;have D:¬(pc z.2>pc y.2\/(pc z.2=pc y.2/\Op.bytesLess z.1 y.1=true)):=λB=>by grind[IT]
 rcases h with h|⟨q,w⟩
 .omega
 .by_cases e:pc z.2=pc y.2
  .grind[vI,Bk]
  omega
theorem ZI {q:Type} (lt:q->q->Bool) (x:q):∀l:List q,(sJ lt x l).Perm (x::l):=by intro l;induction l with
 |nil=>rfl
 |cons y l w=>
  unfold sJ;split
  .rfl
  .exact(w.cons y).trans (.swap x y l)
def h15c {d:List aC} {all:List b9} {l f:List (List Int)} {E:List D7} {p:D7} {i:Nat} (N:mU E7 E) (H:∀q∈E,q.2<18446744073709551616) (Q:p.2<18446744073709551616) (O:E.length<=1048576) (U:i<=1048576):
  ∀(v:Nat),v<=E.length->(∀q∈E.drop v,E7 p q=true)->∀r,D2 d all l f ((sJ E7 p E).map ID) (i+1:Nat)=some r->P8 d all l f (E.map ID) i v (ID p)=some r:=by
 have z:∀(v:Nat),v<=E.length->(∀q∈E.take v,E7 p q=false)->(∀q∈E.drop v,E7 p q=true)->
   (((([]:List fQ)++(((E.map ID).take (Int.toNat (v:Int))).drop 0))++[ID p])++(((E.map ID).take (List.length (E.map ID))).drop (Int.toNat (v:Int))))=(sJ E7 p E).map ID:=by
  intro v I K L;have:=Ks E7 K L;rw[lY] at this;rw[this,gp];simp
 intro v;induction v with
 |zero=>intro I h r G;refine ack ?_;rw[<-z 0 af ai h] at G;rw[cond_neg ai,bU ai,bU ai,bU ai,bU ai,bU aH,bP af];omega
 |succ v R=>
  intro I h r G;refine ack ?_;have w:v<E.length:=af;have B:(E.map ID)[v]? =some (ID E[v]):=by rw[dN,aK w];rfl
  rw[cond_pos ai,oz af,iX B,c56 Q (H _ (cG w)),aj];cases S:E7 p E[v] with
  |true=>rw[ak];refine R af ?_ r G;intro q F;rw[iJ w] at F;grind
  |false=>
   have D:∀q∈E.take (v+1),E7 p q=false:=by
    intro q F;rw[uU] at F;obtain⟨k,V,rfl⟩:=F;by_cases P:k=v
    .simp_all
    .have hs:E7 E[v] E[k]=false:=by
      have:=nT.1 N k v af w af;exact this
     grind[VW]
   rw[<-z _ af D h] at G;rw[az,bU aH,bU aH,bU aH,bU aH,bU aH,bP af];omega
def Zt {E:List D7} {l:List D7} (q:mU E7 E):mU E7 (l.foldl (λE p=>sJ E7 p E) E)/\(l.foldl (λE p=>sJ E7 p E) E).Perm (E++l):=by induction l generalizing E with
 |nil=>simp_all
 |cons p l w=>obtain⟨z,B⟩:=w (BA _ Nl VW q (x:=p));grind[ZI]
def h15b {d:List aC} (z:Sz d) (A:Acc d) {all:List b9} {qs F:List Nat} (B:qs.length=all.length) (G:all.length<=64) (K:∀x∈all,x.length<=1000) (H:∀c∈qs,c<18446744073709551616)
  (Q:∀w∈F,w<18446744073709551616) (R:F.length<=1000):∀(xs:List Nat) (i:Nat) (E:List D7),F.drop i=xs->E.length<=i->i<=F.length->mU E7 E->(∀q∈E,q.2<18446744073709551616)->
  D2 d all (qs.map e1) (F.map e1) (E.map ID) i=some (((xs.map λw=>((Fa d all qs w,w):D7)).foldl (λE p=>sJ E7 p E) E).map ID,0):=by
 intro xs;induction xs with
 |nil=>grind[acj,e1,List.map_drop,bq]
 |cons w xs U=>
  intro i E h P V N S;refine acj ?_;have O:=eF h;have I:(F.map e1).drop i=e1 w::xs.map e1:=by rw[<-pZ,h];rfl
  have L:=Q w (aZ (bZ h));rw[aV I,ak,aM I,c55 z A B G K H L,aj,aM I];have l:((E.map ID).length)=((E.length)):=by simp
  rw[l];refine h15c (p:=(Fa d _ _ w,w)) N S L af af _ (aU _) ai _ ?_;refine U _ _ (aI h) (by rw[SC];omega) af (BA _ Nl VW N) ?_;intro q D;rcases(SD _).1 D with rfl|D
  .exact L
  grind
abbrev iW (d:List aC):List b9:=oK (kH d)
noncomputable def qs (d:List aC):List Nat:=(iW d).map (cw d (iW d))
noncomputable def dM (d:List aC):List D7:=((AU (qs d)).map λw=>((Fa d (iW d) (qs d) w,w):D7)).foldl (λE p=>sJ E7 p E) []
theorem oS {d:List aC}:(iW d).length<=d.length:=by have:=qo (kH d);simp_all
def DE {d:List aC} (h:d.length<=64):∀c∈qs d,c<18446744073709551616:=by intro c l;obtain⟨x,_,rfl⟩:=aD.1 l;grind[abf,oS]
def h15a {d:List aC} (z:Sz d) (h:d.length<=64) {r:(List fQ×Int)}
  (I:(bif(decide ((((AU (qs d)).map e1).length:Int)>256)) then(some (([]:List fQ),(7:Int))) else(D2 d (iW d) ((qs d).map e1) ((AU (qs d)).map e1) ([]:List fQ) 0))=some r):
  ∀(xs:List b9) (i:Nat),(iW d).drop i=xs->i<=(iW d).length->Yw d (iW d) i ((((iW d).take i).map (cw d (iW d))).map e1)=some r:=by
 have w:=oS (d:=d);have K:=z.len;intro xs;induction xs with
 |nil=>
  intro i l B;refine k15_7 ?_;have q:=mT l;have e:(((iW d).take i).map (cw d (iW d)))=qs d:=by rw[jY q];rfl
  rw[e,bq l,az,c54 (DE h) (by grind)];grind
 |cons x xs G=>
  intro i l B;refine k15_7 ?_;have D:=eF l;have F:x∈kH d:=gH.1 (aZ (bZ l));have H:(iW d).take (i+1)=(iW d).take i++[x]:=by rw[de,bZ l];rfl
  have:=G _ (aI l) af;rw[aM l,c53 z af F,aj,cC _ aH ai af,aR l af];grind
def Vu {s:b9} (h:isName s=true):s.length<=32:=by simp_all[isName]
def Rj {q l:List Nat} (w:Fm q l) (h:∀c∈q,c<18446744073709551616):∀c∈l,c<18446744073709551616:=
 w.gen _ h λa b z _=>nF rV z
def Sj {d:List aC} {i:Nat} (h:i<(iW d).length):(iW d).getD i []∈kH d:=by grind[gH,List.getElem_mem]
def OQ {d:List aC} {x:b9} (h:x∈kH d):∃i,i<(iW d).length/\(iW d).getD i []=x:=by obtain⟨i,l,e⟩:=iV.1 (gH.2 h);exact⟨i,l,by simp_all⟩
def Ot {d:List aC} {x y:b9} (q:y∈kH d):sub (cw d (iW d) y) (cw d (iW d) x)=true↔Le d x y:=by
 rw[kz];constructor
 .intro h;obtain⟨i,l,e⟩:=OQ q;have:=h i (zJ.2 ⟨l,by rw[e];exact .refl⟩);simp_all[zJ]
 grind[zJ,sI.trans]
def cw_inj {d:List aC} (A:Acc d) {x y:b9} (l:x∈kH d) (q:y∈kH d) (h:cw d (iW d) x=cw d (iW d) y):x=y:=
 le_antisymm A ((Ot q).1 (by rw[h];exact yM _)) ((Ot l).1 (by rw[h];exact yM _))
def Nw {q w:Type} {f:q->w}:∀{l:List q},l.Nodup->(∀x∈l,∀y∈l,f x=f y->x=y)->(l.map f).Nodup:=by intro l;induction l with
 |nil=>simp
 |cons x l z=>grind
def Cq {d:List aC} (A:Acc d):(qs d).Nodup:=Nw (mC _).nodup λx l y q h=>cw_inj A (gH.1 l) (gH.1 q) h
def Ou {d:List aC}:∀c∈qs d,c≠0:=by
 intro c q;obtain⟨x,z,rfl⟩:=aD.1 q;intro e;obtain⟨i,w,l⟩:=OQ (gH.1 z)
 have:(cw d _ x).testBit i=true:=zJ.2 ⟨w,by rw[l];exact .refl⟩
 simp_all
def II {d:List aC}:(qs d).length<=d.length:=by simp_all[oS,qs]
def Cu {d:List aC}:mU E7 (dM d)/\(dM d).Perm ((AU (qs d)).map λw=>((Fa d (iW d) (qs d) w,w):D7)):=by have:=Zt (E:=[]) (l:=(AU (qs d)).map λw=>((Fa d (iW d) (qs d) w,w))) (by simp[mU]);assumption
def Ct {d:List aC}:((dM d).map (·.2)).Perm (AU (qs d)):=by have:=(Cu (d:=d)).2.map (·.2);simp_all[nx]
def Vn {d:List aC} (A:Acc d) (L:d.length<=64) (P:(AU (qs d)).length<=256):aaC ((dM d).map (·.2)):=by
 have I:(qs d).length<=256:=by have:=II (d:=d);omega
 obtain⟨F,_,F3⟩:=EO (Cq A) Ou I;have S:=Ct (d:=d);have l:∀c,c∈(dM d).map (·.2)↔c∈AU (qs d):=λc=>S.mem_iff
 have Q:=Rj F (DE L);have R:((dM d).map (·.2)).Nodup:=S.nodup_iff.2 F.nd;have q:∀(i:Nat) (H:i<((dM d).map (·.2)).length),((dM d).map (·.2)).getD i 0=((dM d)[i]'(by simp_all)).2:=by intro i H;rw[bC,aK H];simp
 have z:∀i j,i<((dM d).map (·.2)).length->j<((dM d).map (·.2)).length->sub (((dM d).map (·.2)).getD j 0) (((dM d).map (·.2)).getD i 0)=true->i<=j:=by
  intro i j H hj hs;apply eB;intro G;have O:j<i:=af;have K:=nT.1 (Cu (d:=d)).1 j i (by simp_all) (by simp_all) O;have B:((dM d).map (·.2)).getD j 0≠((dM d).map (·.2)).getD i 0:=λe=>by grind[getD_inj]
  have V:=pc_lt (Q _ ((l _).1 (lS H))) hs B;rw[q i H,q j hj] at V
  have:E7 ((dM d)[i]'(by grind)) ((dM d)[j]'(by grind))=true:=IT.2 (.inl V)
  rw[this] at K;cases K
 obtain⟨t,ht,D⟩:=root A;have hr:cw d (iW d) t∈AU (qs d):=by obtain⟨e,he⟩:=F.pre;rw[he];exact cR _ (iK (gH.2 ht))
 have hsub:∀c∈AU (qs d),sub c (cw d (iW d) t)=true:=F.gen (λc=>sub c (cw d (iW d) t)=true) (λc G=>by
  obtain⟨x,hx,rfl⟩:=aD.1 G
  exact(Ot (gH.1 hx)).2 (D x (gH.1 hx))) (λa b N _=>yN (FE a b) N)
 have w:0<((dM d).map (·.2)).length:=y9 ((l _).2 hr);obtain⟨k,U,hke⟩:∃k,k<((dM d).map (·.2)).length/\((dM d).map (·.2)).getD k 0=cw d (iW d) t:=by obtain⟨k,U,h1,_⟩:=OF ((l _).2 hr);grind
 have hk0 :=by have:=z k 0 U w (by grind[lS]);omega
 refine⟨R,λc G=>F.nz c ((l c).1 G),λa N b hb B=>(l _).2 (F3 P a ((l a).1 N) b ((l b).1 hb) B),λc G=>by simp_all,w,z⟩
def cd_ents {d:List aC} (A:Acc d) (q:d.length<=64) (B:(AU (qs d)).length<=256):Cd ((dM d).map ID) ((dM d).map (·.2)):=by
 have l:(qs d).length<=256:=by have:=II (d:=d);omega
 obtain⟨F,_,D⟩:=EO (Cq A) Ou l;have w:=Ct (d:=d);refine⟨by simp[ID],λc z=>Rj F (DE q) c (w.mem_iff.1 z),?_⟩;rw[w.length_eq];omega
def c15 {d:List aC} (z:Sz d) (l:d.length<=64):f15 d=some (if IG d≠0 then([],IG d) else if(AU (qs d)).length>256 then([],7) else((dM d).map ID,0)):=by
 have G:=oS (d:=d);refine e15 ?_;rw[c32 z,aj];by_cases B:IG d=0
 .have A:=Jw B;rw[B,cond_neg ai,c52 d af,aj];refine h15a z l ?_ _ 0 rfl af;by_cases D:(AU (qs d)).length>256
  .grind
  .rw[cond_neg aH,au D];have w:(qs d).length<=256:=by have:=II (d:=d);omega
   obtain⟨F,_,_⟩:=EO (Cq A) Ou w
   exact h15b z A (by simp[qs]) af (λx K=>by
    obtain⟨t,I,rfl⟩:=aD.1 (gH.1 K)
    have:=Vu (A.name t I);omega) (DE l) (Rj F (DE l)) af _ 0 [] rfl ai af (by simp[mU]) (λq H=>by cases H)
 grind
end Go.Proofs.YtbnlhmaaccgbjaaGreatDoor.cl
namespace Go.Proofs.YtbnlhmaaccgbjaaGreatDoor.cl
open Go Go.AM
end Go.Proofs.YtbnlhmaaccgbjaaGreatDoor.cl
namespace Go.Proofs.YtbnlhmaaccgbjaaGreatDoor.cl
open Go Go.AM
noncomputable def bn (d:List aC) (w:Nat):List b9:=(bitsOf w).map λi=>(iW d).getD i []
noncomputable def nmW (d:List aC) (w:Nat):b9:=Fa d (iW d) (qs d) w
def Ta {d:List aC} {w:Nat}:∀(ss:List b9) (q:List Nat) (i:Nat) (l:List b9) (k:Nat),ss.length=q.length->jo (λc=>c==w) q i=(k:Int)->i<=k/\ss[k-i]? =some (nh d w ss q i l):=by intro ss;induction ss with
 |nil=>intro q i l k z h;have :=nU.1 z.symm;subst this;have D:(-1:Int)=(k):=h;omega
 |cons s ss B=>intro q i l k z h;cases q with
  |nil=>simp at z
  |cons c q=>
   rw[jo] at h;simp[nh];by_cases e:c=w
   .grind
   .rw[show(c==w)=false by simp_all] at h;rw[au e];obtain⟨F,G⟩:=B _ _ _ k (by simp_all) h;refine⟨af,?_⟩;rw[show k-i=(k-(i+1))+1 by omega,rQ];omega
def Pk {d:List aC} {w:Nat}:∀(ss:List b9) (q:List Nat) (i:Nat) (l:List b9),ss.length=q.length->(∀c∈q,c≠w)->nh d w ss q i l=yj [38] (wh d (l++((List.range ss.length).filter λj=>w.testBit (i+j)).map λj=>ss.getD j [])):=by intro ss;induction ss with
 |nil=>grind[nh]
 |cons s ss D=>intro q i l B h;cases q with
  |nil=>simp at B
  |cons c q=>
   simp only[nh];rw[bp,List.range_succ_eq_map];have e:((List.range ss.length).filter ((λj=>w.testBit (i+j))∘Nat.succ)).map ((λj=>(s::ss).getD j [])∘Nat.succ)=((List.range ss.length).filter λj=>w.testBit (i+1+j)).map λj=>ss.getD j []:=by
    have e1:((λj=>w.testBit (i+j))∘Nat.succ)=λj=>w.testBit (i+1+j):=by funext j;simp;congr 1;omega
    have z:((λj=>(s::ss).getD j [])∘Nat.succ)=λj=>ss.getD j _:=rfl
    rw[e1,z]
   grind
def Oc {w n:Nat} (B:n<=64) (h:∀i,w.testBit i=true->i<n):bitsOf w=(List.range n).filter w.testBit:=by
 unfold bitsOf;have z:=wL (n:=n) (m:=64-n)
 have:List.filter w.testBit (List.map (n+ ·) (List.range (64-n)))=[]:=by rw[yX];intro j q l;obtain⟨i,_,rfl⟩:=aD.1 q;have:=h _ l;omega
 simp_all
structure Dn (d:List aC) (w:Nat):Prop where
 lt:∀i,w.testBit i=true->i<(iW d).length
 dn:∀i j,i<(iW d).length->j<(iW d).length->w.testBit i=true->Le d ((iW d).getD i []) ((iW d).getD j [])->w.testBit j=true
def abh {d:List aC} (x:b9):Dn d (cw d (iW d) x):=
 ⟨λi h=>(zJ.1 h).1,λi j w l h q=>zJ.2 ⟨l,sI.trans (zJ.1 h).2 q⟩⟩
def dn_and {d:List aC} {a b:Nat} (l:Dn d a) (B:Dn d b):Dn d (a&&&b):=by
 refine⟨λi h=> ?_,λi j q w h z=> ?_⟩
 .rw[lX,aS] at h;exact l.lt i h.1
 .rw[lX,aS] at h⊢;exact⟨l.dn i j q w h.1 z,B.dn i j q w h.2 z⟩
def zT {w i:Nat} (l:w<18446744073709551616):i∈bitsOf w↔w.testBit i=true:=by unfold bitsOf;rw[c4,gL];refine⟨λh=>h.2,λh=>⟨?_,h⟩⟩;apply eB;intro q;rw[ze (e8 l (uS (n:=2) (i:=64) af af))] at h;cases h
theorem bn_SS {d:List aC} {w:Nat} (h:∀i,w.testBit i=true->i<(iW d).length):SS (bn d w):=by have G:=nT.1 (mC (kH d));unfold bn SS;rw[kO];have F:(bitsOf w).Pairwise _:=(List.pairwise_lt_range).sublist zi;refine F.imp_of_mem ?_;intro a b l B z;have q:=h a (c4.1 l).2;have D:=h b (c4.1 B).2;simp_all
def aaV {d:List aC} {w:Nat} (h:∀i,w.testBit i=true->i<(iW d).length):∀x∈bn d w,x∈kH d:=by intro x q;obtain⟨i,l,rfl⟩:=aD.1 q;exact Sj (h i (c4.1 l).2)
def IU {d:List aC} {w:Nat} (h:∀i,w.testBit i=true->i<(iW d).length):wh d (bn d w)=(bn d w).filter (sd d (bn d w)):=by
 have q:(bn d w).filter (λs=>decide _)=bn d w:=yW.2 λx l=>by simpa using aaV h x l
 grind[SS.ext,mC,bn_SS,gH,wh]
theorem Cx {d:List aC} {l:List b9} {x:b9}:sd d l x=true↔∀y∈l,Le d y x->y=x:=by unfold sd;grind
theorem Gt {d:List aC} (A:Acc d) {l:List b9}:∀x∈l,∃m∈l.filter (sd d l),Le d m x:=by
 obtain⟨r,B⟩:=A.rk;have key:∀(n) (x),r x=n->x∈l->∃m∈l.filter (sd d l),Le d m x:=by intro n;induction n using Nat.strongRecOn with
  |_ n I=>
   intro x e D;by_cases q:sd d l x=true
   .exact⟨x,c4.2 ⟨D,q⟩, .refl⟩
   .rw[Cx] at q;obtain⟨y,F⟩:=Classical.not_forall.1 q;obtain⟨G,w⟩:=Classical.not_imp.1 F;obtain⟨z,H⟩:=Classical.not_imp.1 w
    have:r y<r x:=by
     rcases O9 B z with h|h
     .simp_all
     .exact h
    grind[sI.trans]
 simp_all
def UE {d:List aC} {w:Nat} (z:w<18446744073709551616) (D:Dn d w) {i:Nat} (B:i<(iW d).length):w.testBit i=true↔(iW d).getD i []∈bn d w:=by
 unfold bn;rw[aD];constructor
 .intro h;exact⟨i,(zT z).2 h,rfl⟩
 .rintro⟨j,F,e⟩;have l:=(zT z).1 F;have q:=D.lt j l;rw[bC,bC,aK B,aK q] at e;have:=(rT (mC _).nodup).1 e;simp_all
theorem adp {d:List aC} (A:Acc d) {w v:Nat} (I:w<18446744073709551616) (H:v<18446744073709551616) (B:Dn d w) (z:Dn d v) (h:wh d (bn d w)=wh d (bn d v)):w=v:=by
 have key:∀{w v:Nat},w<18446744073709551616->v<18446744073709551616->Dn d w->Dn d v->wh d (bn d w)=wh d (bn d v)->∀i,w.testBit i=true->v.testBit i=true:=by intro w v I H B z h i F;have l:=B.lt i F;obtain⟨m,G,L⟩:=Gt A _ ((UE I B l).1 F);rw[<-IU B.lt,h,IU z.lt] at G;have D:=(c4.1 G).1;obtain⟨j,K,rfl⟩:=aD.1 D;have q:=(zT H).1 K;exact z.dn j i (z.lt j q) l q L
 apply uR;grind
def X0 {d:List aC} (A:Acc d) (B:d.length<=64) {x:b9} (I:x∈kH d):wh d (bn d (cw d (iW d) x))=[x]:=by
 have F:=oS (d:=d);have w:cw d (iW d) x<18446744073709551616:=abf af;have D:=abh (d:=d) x;rw[IU D.lt];have l:∀y,y∈(bn d (cw d (iW d) x)).filter (sd d (bn d (cw d (iW d) x)))↔y∈[x]:=by
  intro y;have K:x∈bn d (cw d (iW d) x):=by obtain⟨i,q,e⟩:=OQ I;have h:=(UE w D q).1 (zJ.2 ⟨q,by rw[e];exact .refl⟩);rw[e] at h;exact h
  have H:∀z∈bn d (cw d (iW d) x),Le d x z:=by intro z L;obtain⟨j,G,rfl⟩:=aD.1 L;exact(zJ.1 ((zT w).1 G)).2
  rw[c4,Cx];constructor
  .simp_all
  .grind[le_antisymm]
 refine SS.ext ?_ (by simp[SS]) l;exact(bn_SS D.lt).sublist zi
def SJ {s:b9} (h:isName s=true):(38:UInt8)∉s:=by unfold isName at h;grind[oB,BE]
def cut38:∀{x l t q:b9},(38:UInt8)∉x->(38:UInt8)∉l->(t=[]\/∃u,t=38::u)->(q=[]\/∃u,q=38::u)->x++t=l++q->x=l/\t=q:=by intro x;induction x with
 |nil=>intro l t q w z B D h;cases l with
  |nil=>simp_all
  |cons c l=>simp_all
 |cons c x F=>intro l t q w z B D h;cases l with
  |nil=>grind
  |cons c' l=>grind
def FY (l:List b9):wF l=[]\/∃u,wF l=38::u:=by cases l with
 |nil=>exact .inl rfl
 |cons x l=>simp_all[wF]
theorem aad:∀{l q:List b9},(∀x∈l,(38:UInt8)∉x)->(∀x∈q,(38:UInt8)∉x)->wF l=wF q->l=q:=by intro l;induction l with
 |nil=>intro q _ _ h;cases q with
  |nil=>rfl
  |cons x q=>simp[wF] at h
 |cons x l B=>intro q w z h;cases q with
  |nil=>simp[wF] at h
  |cons D q=>
   have e:∀(y) (m),wF (y::m)=38::(y++wF m):=λy m=>by rfl
   rw[e,e,cS] at h;obtain⟨a,b⟩:=cut38 (w x ai) (z _ ai) (FY l) (FY _) h.2;grind
theorem ZL {l q:List b9} (D:l≠[]) (B:q≠[]) (w:∀x∈l,(38:UInt8)∉x) (z:∀x∈q,(38:UInt8)∉x) (h:yj [38] l=yj [38] q):l=q:=by cases l with
 |nil=>simp_all
 |cons x l=>cases q with
  |nil=>simp_all
  |cons F q=>rw[DN,DN] at h;obtain⟨a,b⟩:=cut38 (w x ai) (z _ ai) (FY l) (FY _) h;grind[aad]
def abF {d:List aC} {i:Nat} (l:i<(iW d).length):(qs d)[i]? =some (cw d (iW d) ((iW d).getD i [])):=by simp_all[qs]
def ab4 {l:Type} (p:l->Bool):∀(xs:List l) (i k:Nat),jo p xs i=(k:Int)->i<=k/\∃x,xs[k-i]? =some x/\p x=true:=by intro xs;induction xs with
 |nil=>intro i k h;have q:(-1:Int)=(k):=h;omega
 |cons x xs w=>intro i k h;rw[jo] at h;grind
def nmW_out {d:List aC} (l:d.length<=64) {w:Nat} (D:Dn d w) (h:∀c∈qs d,c≠w):nmW d w=yj [38] (wh d (bn d w)):=by have q:=oS (d:=d);unfold nmW Fa;rw[Pk _ _ _ _ (by simp[qs]) h,bn,Oc af D.lt];simp
def V5 {d:List aC} (A:Acc d) (l:d.length<=64) {w:Nat} (D:Dn d w):nmW d w=yj [38] (wh d (bn d w)):=by
 by_cases h:∀c∈qs d,c≠w
 .exact nmW_out l D h
 .have K:¬jo (λc=>c==w) (qs d) 0<0:=by
   rw[ab5];intro N;exact h λc I=>by simp_all
  obtain⟨k,G⟩:∃k:Nat,jo (λc=>c==w) (qs d) 0=(k):=⟨(jo (λc=>c==w) (qs d) 0).toNat,af⟩
  obtain⟨_,e⟩:=Ta (iW d) _ 0 _ k (by simp[qs]) G;obtain⟨_,c,z,H⟩:=ab4 _ _ _ _ G;rw[uT] at e z;have q:=(bQ.1 e).1;rw[abF q] at z;have B:cw d (iW d) ((iW d).getD k [])=w:=by rw[<-(jf.1 H)];exact eT z
  have F:(iW d).getD k []=nmW d w:=by rw[bC,e];rfl
  rw[F] at B;have L:nmW d w∈kH d:=by rw[<-F];exact Sj q
  have:=X0 A l L;rw[B] at this;rw[this];rfl
def nmW_inj {d:List aC} (A:Acc d) (l:d.length<=64) {w v:Nat} (B:w<18446744073709551616) (P:v<18446744073709551616) (N:w≠0) (L:v≠0) (G:Dn d w) (F:Dn d v) (h:nmW d w=nmW d v):w=v:=by
 rw[V5 A l G,V5 A l F] at h;have ne:∀{w:Nat},w<18446744073709551616->w≠0->Dn d w->wh d (bn d w)≠[]:=by intro w B H D I;obtain⟨i,q⟩:=Nat.exists_testBit_of_ne_zero H;obtain⟨m,z,_⟩:=Gt A _ ((UE B D (D.lt i q)).1 q);rw[<-IU D.lt,I] at z;cases z
 have fr:∀{w:Nat},Dn d w->∀x∈wh d (bn d w),(38)∉x:=by intro w D x O;obtain⟨t,K,rfl⟩:=aD.1 (aaV D.lt x (S4 O));exact SJ (A.name t K)
 grind[adp,ZL]
end Go.Proofs.YtbnlhmaaccgbjaaGreatDoor.cl
namespace Go.Proofs.YtbnlhmaaccgbjaaGreatDoor.cl
open Go Go.AM
def o31 {w v:Nat} (q:w<18446744073709551616) (l:v<18446744073709551616):f31 (e1 w) (e1 v)=some (decide (w=v)):=by
 refine e31 ?_;rw[o63 q l,aj,o63 l q,aj];by_cases h:w=v
 .subst h;rw[yM];simp
 .cases z:sub w v with
  |false=>simp[h]
  |true=>cases B:sub v w with
   |false=>simp[h]
   |true=>exact absurd (sG z B) h
def abz {d:List aC} (A:Acc d) (q:d.length<=64):Fm (qs d) (AU (qs d))/\∀w∈AU (qs d),Dn d w:=by
 have l:(qs d).length<=256:=by have:=II (d:=d);omega
 obtain⟨F,_,_⟩:=EO (Cq A) Ou l
 exact⟨F,F.gen (Dn d) (λc z=>by
  obtain⟨x,_,rfl⟩:=aD.1 z
  exact abh x) (λa b=>dn_and)⟩
def Tc {d:List aC} (A:Acc d) (l:d.length<=64):((dM d).map (·.1)).Nodup:=by obtain⟨F,D⟩:=abz A l;have z:=(Cu (d:=d)).2.map (·.1);rw[fo] at z;refine z.nodup_iff.2 (Nw F.nd λx q y w h=> ?_);exact nmW_inj A l (Rj F (DE l) x q) (Rj F (DE l) y w) (F.nz x q) (F.nz y w) (D x q) (D y w) h
def adJ {D:Type} {l:List D} (h:l.Nodup) {i k:Nat} (z:i<l.length) (B:k<l.length) (e:l[i]=l[k]):i=k:=by
 have w:=nT.1 h;rcases zj i k with q|q|q
 .exact absurd e (w i k z B q)
 .exact q
 .exact absurd e.symm (w k i B z q)
structure Ok (d:List aC):Prop where
 z:Sz d
 acc:Acc d
 len:d.length<=64
 le:(AU (qs d)).length<=256
noncomputable def tys (d:List aC):List Nat:=(dM d).map (·.2)
noncomputable def zG (d:List aC):List fQ:=(dM d).map ID
def n9 {d:List aC}:(zG d).length=(tys d).length:=by simp[tys,zG]
def Ok.Vn {d:List aC} (h:Ok d):aaC (tys d):=cl.Vn h.acc h.len h.le
def Ok.cd {d:List aC} (h:Ok d):Cd (zG d) (tys d):=cd_ents h.acc h.len h.le
def Ok.cL {d:List aC} (h:Ok d):(tys d).length<=256:=by have:=(Ct (d:=d)).length_eq;rw[tys,this];exact h.le
def Ok.lt {d:List aC} (h:Ok d) {i:Nat} (l:i<(tys d).length):(tys d).getD i 0<18446744073709551616:=h.cd.get l
noncomputable abbrev cwd (d:List aC) (x:b9):Nat:=cw d (iW d) x
def Ok.cwlt {d:List aC} (h:Ok d) (x:b9):cwd d x<18446744073709551616:=abf (by have:=oS (d:=d);have:=h.len;omega)
def abe {d:List aC} (A:Acc d) (l:d.length<=64) {x:b9} (w:x∈kH d):cwd d x∈AU (qs d):=by obtain⟨F,D⟩:=abz A l;obtain⟨e,q⟩:=F.pre;rw[q];refine cR _ (aD.2 ⟨x,?_,rfl⟩);exact gH.2 w
def Ok.cwmem {d:List aC} (h:Ok d) {x:b9} (l:x∈kH d):cwd d x∈tys d:=(Ct (d:=d)).mem_iff.2 (abe h.acc h.len l)
def Ok.entmem {d:List aC} (h:Ok d) {x:b9} (l:x∈kH d):((x,cwd d x):D7)∈dM d:=by
 refine(Cu (d:=d)).2.mem_iff.2 (aD.2 ⟨cwd d x,abe h.acc h.len l,?_⟩)
 have:nmW d (cwd d x)=x:=by rw[V5 h.acc h.len (abh x),X0 h.acc h.len l];rfl
 show(nmW d (cwd d x),cwd d x)=_;rw[this]
noncomputable def nu (d:List aC) (x:b9):Nat:=(jo (λc:fQ=>c.Name==x) (zG d) 0).toNat
def Ok.zW {d:List aC} (h:Ok d) {x:b9} (Q:x∈kH d):jo (λc:fQ=>c.Name==x) (zG d) 0=(nu d x:Int)/\nu d x<(tys d).length/\(tys d).getD (nu d x) 0=cwd d x/\∃R:nu d x<(zG d).length,(zG d)[nu d x].Name=x:=by
 have l:=h.entmem Q;obtain⟨j,F,e⟩:=XA (λc:fQ=>c.Name==x) (zG d) 0 ⟨ID (x,cwd d x),aD.2 ⟨_,l,rfl⟩,by simp[ID]⟩;have B:jo (λc:fQ=>c.Name==x) (zG d) 0=(j:Int):=by have:=e.1;simpa using this
 have K:nu d x=j:=by unfold nu;rw[B];simp
 obtain⟨_,c,N,w⟩:=ab4 _ _ _ _ B;obtain⟨p,P,z⟩:=iV.1 l;have q:j<(dM d).length:=by simpa[zG] using F
 rw[uT,zG,dN,aK q] at N;have D:(dM d)[j].1=x:=by have O:c=ID (dM d)[j]:=(eT N).symm;rw[O] at w;exact jf.1 w
 have I:=Tc h.acc h.len;have H:j=p:=by
  have G:j<((dM d).map (·.1)).length:=by simpa using q
  have L:p<((dM d).map (·.1)).length:=by simpa using P
  refine adJ I G L ?_;rw[kQ,kQ,D,z]
 rw[K];refine⟨B,by rw[<-n9];exact F,?_,F,by simpa using e.2.1⟩;subst H;show((dM d).map (·.2)).getD j 0=_;rw[bC,dN,aK q,z];rfl
def Tb {d:List aC} {t:aC} (h:t∈d):t.Name∈kH d:=aD.2 ⟨t,h,rfl⟩
