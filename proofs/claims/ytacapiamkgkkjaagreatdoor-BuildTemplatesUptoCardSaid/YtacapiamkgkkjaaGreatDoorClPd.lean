/- The Closure laws. -/
import Derived.Test.YtacapiamkgkkjaaGreatDoorClNb
import Derived.Test.YtacapiamkgkkjaaGreatDoorClT
set_option linter.all false
open Go.IntKind (wrap)
namespace Go.Proofs.YtacapiamkgkkjaaGreatDoor.cl
open Go Go.AM
def mk (w:Nat):List Nat->Nat
 |[]=>w
 |j::l=>mk (w|||2^ j) l
def mk_bit:∀(l:List Nat) (w i:Nat),(mk w l).testBit i=(w.testBit i||decide (i∈l)):=by intro l;induction l with
 |nil=>simp[mk]
 |cons j l q=>intro w i;rw[mk];grind
def FE {j:Nat} (h:j<64):2^ j<18446744073709551616:=by have:=Nat.pow_lt_pow_right (a:=2) af h;omega
def mk_lt:∀(l:List Nat) (w:Nat),w<18446744073709551616->(∀j∈l,j<64)->mk w l<18446744073709551616:=by intro l;induction l with
 |nil=>intro w h _;exact h
 |cons j l B=>intro w h q;exact B _ (aeU h (FE (q j ai))) λk z=>q k (by simp[z])
abbrev ae4 (w:Nat):W:=(w:Int)::List.replicate 63 0
def WS (w:Nat):norm (ae4 w)=e1 w:=by rw[<-Jp w];apply Ue;intro j;cases j with
 |zero=>rw[OC];rfl
 |succ j=>rw[Xw];unfold wd ae4;grind
def afk {x:Nat} (h:x<64):Int.tdiv (x:Int) 64=0:=by grind
theorem afm {x:Nat} (h:x<64):Int.tmod (x:Int) 64=(x:Int):=by grind
theorem xZ {p:Nat} (h:p<18446744073709551616):wrap .u64 (p:Int)=(p:Int):=AP af af
def h100 {l:List Nat} (N:l.length<=1048576) (B:∀j∈l,j<64):∀(xs:List Nat) (i w:Nat),l.drop i=xs->w<18446744073709551616->QM (cast l) i (ae4 w)=some (e1 (mk w xs),0):=by intro xs;induction xs with
 |nil=>intro i w h D;refine ac3 ?_;rw[bg (abV h),au,c60 _ ai,WS];rfl
 |cons x xs L=>
  intro i w h D;refine ac3 ?_;have q:x<64:=B x (aP (bU h));have z:wrap .i64 (Int.tdiv (x:Int) 64)=0:=by rw[afk q];rfl
  have F:wrap .u64 (Int.tmod (x:Int) 64)=(x:Int):=by rw[afm q,xZ af]
  have G:min x (IntKind.bits .u64)=x:=by show min x 64=x;omega
  have H:wrap .u64 (1 *2^ x)=((2^ x:Nat):Int):=by
   have K:=FE q
   have:(1 *2^ x:Int)=((2^ x:Nat):Int):=ai
   rw[this,xZ K]
  have I:wrap _ _=((w|||2^ x:Nat)):=aeT D (FE q);simp only[aK (Gy h),aR (Gy h),aj,z,F,G,H,aS,aN (Gy h) aH];rw[cond_neg ai,cond_neg aH,b9 (by decide),b9 (by decide),b9 ai,iE (x:=(w:Int)) ai,b9 (by decide),b9 af,b9 ai,iE (x:=(w:Int)) ai,I];exact L _ _ (aI h) (aeU D (FE q))
def c100 {l:List Nat} (w:l.length<=1048576) (q:∀j∈l,j<64):f100 (cast l)=some (e1 (mk 0 l),0):=by refine e100 ?_;rw[b9 (by decide)];exact h100 w q l 0 0 rfl af
def c103 {w i:Nat} (I:w<18446744073709551616) (F:i<64):f103 (e1 w) i=some (w.testBit i):=by
 refine e103 ?_;have l:wrap .i64 (Int.tdiv (i:Int) 64)=0:=by rw[afk F];rfl
 have q:wrap .u64 (Int.tmod (i:Int) 64)=(i:Int):=by grind[afm,xZ]
 have z:min i (IntKind.bits .u64)=i:=by show min i 64=i;omega
 simp only[l,q,z,aS];rw[cond_neg ai,b9 (by decide)];by_cases D:w=0
 .simp_all[cond_pos,e1]
 .have G:e1 w=[(w:Int)]:=by simp[e1,D]
  rw[G,cond_neg ai,b9 (by decide),KK (x:=(w:Int)) af ai,b9 (by decide),b9 af];have H:w / 2^ i<18446744073709551616:=n9 (Nat.div_le_self _ _) I;have B:=Gt H (v:=1) af;unfold HN at B;congr 1;grind
def bitsOf (w:Nat):List Nat:=(List.range 64).filter w.testBit
def h139 {w:Nat} (G:w<18446744073709551616) (z:w≠0):∀(n i:Nat),64-i=n->i<=64->L7 (e1 w) i (cast ((List.range i).filter w.testBit))=some (cast (bitsOf w)):=by
 have F:e1 w=[(w:Int)]:=by simp[e1,z]
 have l:wrap .i64 (64 *((e1 w).length:Int))=64:=by rw[F];rfl
 intro n;induction n with
 |zero=>
  intro i D q;obtain rfl:i=64:=by omega
  refine Wf ?_;rw[l,cond_neg ai];rfl
 |succ n H=>intro i D q;refine Wf ?_;have B:=H (i+1) af af;rw[lF,EE] at B;rw[l,cond_pos aH,c103 G af,ak,bJ af];cases I:w.testBit i with
  |true=>
   rw[cF _ (by grind) ai af];grind
  |false=>simp_all
def c139 {w:Nat} (q:w<18446744073709551616):f139 (e1 w)=some (cast (bitsOf w)):=by
 refine e139 ?_;by_cases l:w=0
 .subst l;refine Wf ?_;rfl
 .exact h139 q l _ 0 rfl af
def pc (w:Nat):Nat:=(bitsOf w).length
def c105 {w:Nat} (l:w<18446744073709551616):f105 (e1 w)=some (pc w:Int):=by refine e105 ?_;rw[c139 l,ak,bI];rfl
def GC {w:Type} {p q:w->Bool}:∀{l:List w},(∀x∈l,p x=true->q x=true)->(∃x∈l,p x=false/\q x=true)->(l.filter p).length<(l.filter q).length:=by intro l;induction l with
 |nil=>simp
 |cons y l F=>
  have B:∀{l:List _},(∀x∈l,p x=true->q x=true)->(l.filter p).length<=(l.filter q).length:=by intro l;induction l with
   |nil=>simp
   |cons z l D=>grind
  grind
def pc_lt {a b:Nat} (B:b<18446744073709551616) (h:sub a b=true) (l:a≠b):pc a<pc b:=by
 apply GC
 .simp_all[kR]
 .apply eH;intro z;apply l;refine tf h (kR.2 λi q=> ?_);have w:i<64:=by
   apply eH;intro z
   have:b.testBit i=false:=zD (fo (by omega:b<2^ 64) (sF af af))
   rw[this] at q;cases q
  grind
open Classical in
noncomputable def idxs (d:List aB) (all:List bV) (x:bV):List Nat:=(List.range all.length).filter λi=>decide (Le d x (all.getD i []))
noncomputable def cw (d:List aB) (all:List bV) (x:bV):Nat:=mk 0 (idxs d all x)
theorem z7 {d:List aB} {all:List bV} {x:bV} {i:Nat}:(cw d all x).testBit i=true↔i<all.length/\Le d x (all.getD i []):=by simp_all[cw,mk_bit,idxs]
theorem ab7 {d:List aB} {all:List bV} {x:bV} (h:all.length<=64):cw d all x<18446744073709551616:=mk_lt _ _ af λj l=>by have:=gL.1 (dw.1 l).1;omega
def h53 {d:List aB} {all low:List bV} {x:bV} (l:all.length<=64) (B:low.length<=1048576) (I:∀y,y∈low↔Le d x y):∀(n i:Nat),all.length-i=n->i<=all.length->
  UR all low i (cast (open Classical in (List.range i).filter λi=>decide (Le d x (all.getD i []))))=some (e1 (cw d all x)):=by
 intro n;induction n with
 |zero=>
  intro i D w;obtain rfl:i=all.length:=by omega
  refine k53_4 ?_;have z:(idxs d all x).length<=64:=by refine fk (vq _ _) ?_;simpa using l
  have:=c100 (l:=idxs d all x) af λj F=>by have:=gL.1 (dw.1 F).1;omega
  unfold idxs at this;rw[cond_neg ai,this];rfl
 |succ n G=>
  intro i D w;refine k53_4 ?_;have z:=G (i+1) af af;rw[lF,EE] at z;have q:i<all.length:=af;have H:all[i]=all.getD i []:=by rw[bD,aM q];rfl
  rw[cond_pos aH,cR q,c37 _ _ af,ak,bJ af];by_cases K:Le d x (all.getD i [])
  .rw[cF _ (by
    grind) ai af]
   grind
  grind
def c53 {d:List aB} (z:Sz d) {all:List bV} (q:all.length<=64) {x:bV} (D:x∈kZ d):f53 d all x=some (e1 (cw d all x)):=by refine e53 ?_;obtain⟨l,w,_,B,F⟩:=c99 z D;have:=z.len;rw[w,ak];exact h53 q af B _ 0 rfl af
def h101 {l:List Nat} (z:∀c∈l,c<18446744073709551616) (B:l.length<=1048576) {w:Nat} (D:w<18446744073709551616):∀(xs:List Nat) (i:Nat),l.drop i=xs->QN (l.map e1) (e1 w) i=some (decide (w∈xs)):=by intro xs;induction xs with
 |nil=>grind[ac4,bg]
 |cons x xs F=>
  intro i h;refine ac4 ?_;have q:(l.map e1).drop i=e1 x::xs.map e1:=by rw[<-om,h];rfl
  rw[aR q,aK q,o57 (z x (aP (bU h))) D,aN q aH,F _ (aI h)];grind
def c101 {q:List Nat} (z:∀c∈q,c<18446744073709551616) (l:q.length<=1048576) {w:Nat} (B:w<18446744073709551616):f101 (q.map e1) (e1 w)=some (decide (w∈q)):=e101 (h101 z l B _ 0 rfl)
def Bi (l:List Nat) (b:Nat):List Nat:=if b=0\/b∈l then l else l++[b]
def tC (i:Nat):Nat->Nat->List Nat->List Nat
 |0,_,l=>l
 |n+1,k,l=>if l.length<=256 then tC i n (k+1) (Bi l (l.getD i 0&&&l.getD k 0)) else l
def qX:Nat->Nat->List Nat->List Nat
 |0,_,l=>l
 |n+1,i,l=>if i<l.length/\l.length<=256 then qX n (i+1) (tC i i 0 l) else l
def Ba (l:List Nat):List Nat:=qX 258 0 l
def J4 (l:List Nat) (b:Nat):∃e,Bi l b=l++e/\e.length<=1:=by
 unfold Bi;split
 .simp
 simp
def NC (i:Nat):∀(n k:Nat) (l:List Nat),l.length<=257->∃e,tC i n k l=l++e/\(l++e).length<=257:=by intro n;induction n with
 |zero=>simp_all[tC]
 |succ n B=>
  intro k l h;unfold tC;split
  .obtain⟨e,F,z⟩:=J4 l (l.getD i 0&&&l.getD k 0);obtain⟨D,w,q⟩:=B (k+1) (Bi l (l.getD i 0&&&l.getD k 0)) (by grind);simp_all
  simp_all
def XE {l:List Nat} {b:Nat} (z:∀c∈l,c<18446744073709551616) (w:b<18446744073709551616):∀c∈Bi l b,c<18446744073709551616:=by intro c q;unfold Bi at q;grind
def getD_map {l:List Nat} {i:Nat} (h:i<l.length):(l.map e1)[i]? =some (e1 (l.getD i 0)):=by simp_all
theorem Pn {l:List Nat} {i:Nat} (q:∀c∈l,c<18446744073709551616) (h:i<l.length):l.getD i 0<18446744073709551616:=q _ (mA h)
def h54b {i:Nat}:∀(n k:Nat) (l:List Nat),i-k=n->k<=i->i<l.length->l.length<=257->(∀c∈l,c<18446744073709551616)->∀r,
  Ov (i+1:Nat) ((tC i n k l).map e1)=some r->Ow i k (l.map e1)=some r:=by
 intro n;induction n with
 |zero=>intro k l S Q I F w r H;refine k54_6 ?_;rw[cond_neg aH,bJ af];exact H
 |succ n U=>
  intro k l S Q I F w r H;refine k54_6 ?_;rw[cond_pos aH,bJ af,bJ af];unfold tC at H;by_cases B:l.length<=256
  .rw[aC B] at H;have D:=Pn w I;have K:=Pn w (show k<l.length by omega);have z:l.getD i 0&&&l.getD k 0<18446744073709551616:=n9 sE D;rw[cond_pos aH,b9 aH,aS,iE (getD_map I),b9 aH,aS,iE (getD_map af),o61 D K,ak];have G:=J4 l (l.getD i 0&&&l.getD k 0);have q:(Bi l (l.getD i 0&&&l.getD k 0)).length<=257/\i<(Bi l (l.getD i 0&&&l.getD k 0)).length:=by
    obtain⟨e,P,R⟩:=G;rw[P];simp;omega
   have N:=U (k+1) (Bi l (l.getD i 0&&&l.getD k 0)) af af q.2 q.1 (XE w z) r H;by_cases O:l.getD i 0&&&l.getD k 0=0
   .simp_all[cond_neg,e1,Bi]
   .have L:(e1 (l.getD i 0&&&l.getD k 0)).length=1:=by
     unfold e1;rw[aA O];rfl
    rw[cond_pos (by simp_all),c101 w af z];by_cases V:l.getD i 0&&&l.getD k 0∈l
    .simp_all[Bi]
    .rw[cF _ aH ai af];simp_all[Bi]
  grind
theorem acr (i:Nat):∀(n k:Nat) (l:List Nat),(∀c∈l,c<18446744073709551616)->∀c∈tC i n k l,c<18446744073709551616:=by intro n;induction n with
 |zero=>intro k l h;exact h
 |succ n q=>
  intro k l h;unfold tC;split
  .refine q _ _ (XE h ?_);by_cases w:i<l.length
   .grind[Nat.and_le_left,Pn]
   simp_all
  omega
def h54:∀(n i:Nat) (l:List Nat),258<=i+n->l.length<=257->(∀c∈l,c<18446744073709551616)->Ov i (l.map e1)=some ((qX n i l).map e1):=by intro n;induction n with
 |zero=>intro i l D q w;refine k54_3 ?_;rw[cond_neg aH];rfl
 |succ n H=>
  intro i l D q w;refine k54_3 ?_;unfold qX;by_cases z:i<l.length
  .rw[cond_pos aH];by_cases F:l.length<=256
   .rw[cond_pos aH];obtain⟨e,G,B⟩:=NC i i 0 l q;refine h54b i 0 l rfl af z q w _ ?_;grind[acr]
   grind
  grind
def c54 {l:List Nat} (q:∀c∈l,c<18446744073709551616) (w:l.length<=256):f54 (l.map e1)=some ((Ba l).map e1):=by refine e54 ?_;rw[cF _ ai aH af];exact h54 _ 0 _ af af q
structure Fm (cs l:List Nat):Prop where
 nd:l.Nodup
 nz:∀c∈l,c≠0
 gen:∀P:Nat->Prop,(∀c∈cs,P c)->(∀a b,P a->P b->P (a&&&b))->∀c∈l,P c
 pre:∃e,l=cs++e
def Fm.add {D l:List Nat} (h:Fm D l) {i k:Nat} (F:i<l.length) (G:k<l.length):Fm D (Bi l (l.getD i 0&&&l.getD k 0)):=by
 unfold Bi;split
 .exact h
 .refine⟨?_,?_,?_,?_⟩
  .rw[gW];exact⟨h.nd,by simp,λa H b I=>by grind⟩
  .intro c w;rcases bf.1 w with q|q
   .exact h.nz c q
   simp_all
  .intro P B z c w;rcases bf.1 w with q|q
   .exact h.gen P B z c q
   .simp at q;subst q;exact z _ _ (h.gen P B z _ (mA F)) (h.gen P B z _ (mA G))
  .obtain⟨e,K⟩:=h.pre;simp_all
theorem afZ (l:List Nat) (b:Nat):b=0\/b∈Bi l b:=by grind[Bi]
def VP {z:List Nat} (i:Nat):∀(n k:Nat) (l:List Nat),Fm z l->i<l.length->k+n<=i->Fm z (tC i n k l)/\((tC i n k l).length<=256->∀j,k<=j->j<k+n->l.getD i 0&&&l.getD j 0=0\/l.getD i 0&&&l.getD j 0∈tC i n k l)/\∃e,tC i n k l=l++e:=by intro n;induction n with
 |zero=>intro k l h B G;exact⟨h,λ_ j O P=>by omega,[],by simp[tC]⟩
 |succ n H=>
  intro k l h B G;unfold tC;split
  .obtain⟨e,F,_⟩:=J4 l _;have w:i<(Bi l (l.getD i 0&&&l.getD k 0)).length:=by rw[F];simp;omega
   obtain⟨I,K,N,L⟩:=H (k+1) _ (h.add B af) w af;grind[afZ]
  .rename_i D;refine⟨h,λq=>absurd q D,[],ai⟩
def S3 {B:List Nat}:∀(n i:Nat) (l:List Nat),258<=i+n->l.length<=257->Fm B l->(∀a b,a<i->b<a->a<l.length->l.getD a 0&&&l.getD b 0=0\/l.getD a 0&&&l.getD b 0∈l)->
  Fm B (qX n i l)/\(qX n i l).length<=257/\((qX n i l).length<=256->∀a b,b<a->a<(qX n i l).length->(qX n i l).getD a 0&&&(qX n i l).getD b 0=0\/(qX n i l).getD a 0&&&(qX n i l).getD b 0∈qX n i l):=by
 intro n;induction n with
 |zero=>intro i l L q h D;exact⟨h,q,λ_ a b G H=>D a b af G H⟩
 |succ n R=>
  intro i l L q h D;unfold qX;split
  .rename_i K;obtain⟨N,O,e,P⟩:=VP i i 0 l h K.1 af;obtain⟨Q,I,F⟩:=NC i i 0 l q;by_cases w:(tC i i 0 l).length<=256
   .grind
   .have z:∀n,qX n (i+1) (tC i i 0 l)=tC i i 0 l:=by
     intro n;cases n with
     |zero=>rfl
     |succ n=>simp_all[qX,aA]
    grind
  grind
def E6 {l:List Nat} (G:l.Nodup) (H:∀c∈l,c≠0) (K:l.length<=256):Fm l (Ba l)/\(Ba l).length<=257/\((Ba l).length<=256->∀a∈Ba l,∀b∈Ba l,a&&&b≠0->a&&&b∈Ba l):=by
 obtain⟨D,L,I⟩:=S3 258 0 _ af af ⟨G,H,λP D _=>D,[],ai⟩ (λa b h=>by omega);refine⟨D,L,λw a N b O q=> ?_⟩;obtain⟨i,Q,rfl⟩:=iY.1 N;obtain⟨j,R,rfl⟩:=iY.1 O;have z:(Ba _)[i]=(Ba l).getD i 0:=by rw[bD,aM _];rfl
 have B:(Ba _)[j]=(Ba l).getD j 0:=by rw[bD,aM _];rfl
 rw[z,B] at q⊢;by_cases e:i=j
 .grind
 .by_cases F:j<i
  .exact(I w i j F Q).resolve_left q
  .rw[Nat.and_comm] at q⊢;exact(I w j i af R).resolve_left q
end Go.Proofs.YtacapiamkgkkjaaGreatDoor.cl
namespace Go.Proofs.YtacapiamkgkkjaaGreatDoor.cl
open Go Go.AM
def wZ (l:List bV):bV:=(l.map λx=>38::x).flatten
def D2 (x:bV) (l:List bV):yM [38] (x::l)=x++wZ l:=by induction l generalizing x with
 |nil=>simp[yM,wZ]
 |cons y l q=>rw[show yM _ _=x++[38]++yM _ _ from rfl,q y];simp[wZ]
def h55c (l:List bV) (F:l.length<=1048576) (w:∀x∈l,x.length<=1000):∀(xs:List bV) (i:Nat) (s:bV),l.drop i=xs->0<i->s.length<=1001 *i->Hp l s i=some (s++wZ xs):=by intro xs;induction xs with
 |nil=>grind[Wt,bg,wZ]
 |cons x xs B=>intro i s h D G;refine Wt ?_;have q:=eM h;have z:=w x (aP (bU h));rw[aR h,aj,cond_pos aH,b9 aH,aK h,b9 aH,aN h af,B _ _ (aI h) af aH];simp[wZ]
def c55c (l:List bV) (D:l.length<=1048576) (F:∀x∈l,x.length<=1000):Hp l [] 0=some (yM [38] l):=by refine Wt ?_;cases q:l with
 |nil=>rfl
 |cons x xs=>have h:l.drop 0=x::xs:=q;rw[<-q];have B:((0:Nat):Int)=0:=rfl;have w:=aR h;have z:= @aK _ (List UInt8) _ _ _ _ h;rw[B] at w z;rw[w,aj,cond_neg ai,z,b9 (by grind)];have:=h55c l D F _ 1 ([]++x) (aI h) af (by grind);rw[q,D2,<-q];exact this
noncomputable def nN (d:List aB) (w:Nat):List bV->List Nat->Nat->List bV->bV
 |s::ss,c::q,i,l=>if c=w then s else nN d w ss q (i+1) (if w.testBit i=true then l++[s] else l)
 |_,_,_,l=>yM [38] (wL d l)
def TZ {d:List aB} {l:List bV} {x:bV} (h:x∈wL d l):x∈l:=by have:=(dw.1 h).1;simp_all[gH]
theorem TY {d:List aB} {l:List bV}:(wL d l).length<=l.length:=by refine fk (vq _ _) (fk (qM _) (vq _ _))
def subs_eq {c w:Nat} (l:c<18446744073709551616) (q:w<18446744073709551616):f102 (e1 c) (e1 w)=some (decide (c=w)):=by have z:=nH c;have B:=nH w;rw[c102 _ _ af af,aaY (afE l) (afE q),Jp,Jp];grind[VJ]
def h55 {d:List aB} (z:Sz d) (A:Acc d) {all:List bV} {qR:List Nat} (O:qR.length=all.length) (S:all.length<=64) (K:∀x∈all,x.length<=1000) (H:∀c∈qR,c<18446744073709551616) {w:Nat} (Q:w<18446744073709551616):
  ∀(xs:List bV) (q:List Nat) (i:Nat) (l:List bV),all.drop i=xs->qR.drop i=q->i<=all.length->l.length<=i->(∀x∈l,x.length<=1000)->US d all (qR.map e1) (e1 w) i l=some (nN d w xs q i l):=by
 intro xs;induction xs with
 |nil=>
  intro q i l h B F D L;refine k55_3 ?_;have U:=j0 h;have N:q=[]:=by rw[<-B];exact sD af
  subst N;rw[bg h,au,c104 z A l af];simp only[ak];rw[c55c _ (by grind[TY]) (λx I=>L x (TZ I))];rfl
 |cons x xs R=>intro q i l h B F D L;refine k55_3 ?_;have P:=eM h;cases q with
  |nil=>have:=j0 B;omega
  |cons c q=>
   have I:(qR.map e1).drop i=e1 c::q.map e1:=by rw[<-om,B];rfl
   rw[aR h,aj,aK I,subs_eq (H c (aP (bU B))) Q,ak,aK h,c103 Q af,aK h,aN h af];show _=some (if c=w then x else nN d w _ _ _ _);by_cases e:c=w
   .simp_all
   .rw[cond_neg (by simp_all),aA e];cases V:w.testBit i with
    |true=>
     rw[cF _ af ai af,R _ _ _ (aI h) (aI B) af aH (λy G=>by
      rcases bf.1 G with G|G
      .simp_all
      .simp at G;subst G;exact K y (aP (bU h)))]
     simp
    |false=>rw[R _ _ _ (aI h) (aI B) af af L];simp
noncomputable def Fu (d:List aB) (all:List bV) (qR:List Nat) (w:Nat):bV:=nN d w all qR 0 []
def c55 {d:List aB} (z:Sz d) (A:Acc d) {all:List bV} {qR:List Nat} (l:qR.length=all.length) (q:all.length<=64) (D:∀x∈all,x.length<=1000) (B:∀c∈qR,c<18446744073709551616) {w:Nat} (F:w<18446744073709551616):
  f55 d all (qR.map e1) (e1 w)=some (Fu d all qR w):=e55 (h55 z A l q D B F _ _ 0 _ rfl rfl af ai (λx G=>by cases G))
abbrev El:=bV×Nat
def Jb (p:El):fT:=⟨p.1,e1 p.2⟩
def Fq (p q:El):Bool:=decide (pc p.2>pc q.2)||(decide (pc p.2=pc q.2)&&Op.bytesLess p.1 q.1)
def c56 {p q:El} (l:p.2<18446744073709551616) (w:q.2<18446744073709551616):f56 (Jb p) (Jb q)=some (Fq p q):=by
 refine e56 ?_;show Option.bind (f105 (e1 _)) _=_;rw[c105 l];show Option.bind (f105 (e1 _)) _=_;rw[c105 w];unfold Fq;by_cases z:pc p.2>pc q.2
 .simp_all
 .by_cases B:pc p.2=pc q.2
  .simp_all[Jb]
  grind
theorem Jl {p q:El}:Fq p q=true↔pc p.2>pc q.2\/(pc p.2=pc q.2/\Op.bytesLess p.1 q.1=true):=by simp[Fq]
def NW (p q:El) (h:Fq p q=true):Fq q p=false:=by grind[Jl,yB]
theorem WH (x y z:El) (h:Fq x y=true) (l:Fq z y=false):Fq x z=true:=by
 rw[Jl] at h⊢;have D:¬(pc z.2>pc y.2\/(pc z.2=pc y.2/\Op.bytesLess z.1 y.1=true)):=λB=>by grind[Jl]
 rcases h with h|⟨q,w⟩
 .omega
 .by_cases e:pc z.2=pc y.2
  .grind[ri,uq]
  omega
theorem NS {q:Type} (lt:q->q->Bool) (x:q):∀l:List q,(sg lt x l).Perm (x::l):=by intro l;induction l with
 |nil=>rfl
 |cons y l w=>
  unfold sg;split
  .rfl
  .exact(w.cons y).trans (.swap x y l)
def h15c {d:List aB} {all:List bV} {l f:List (List Int)} {E:List El} {p:El} {i:Nat} (N:lu Fq E) (H:∀q∈E,q.2<18446744073709551616) (Q:p.2<18446744073709551616) (O:E.length<=1048576) (U:i<=1048576):
  ∀(v:Nat),v<=E.length->(∀q∈E.drop v,Fq p q=true)->∀r,Eg d all l f ((sg Fq p E).map Jb) (i+1:Nat)=some r->QV d all l f (E.map Jb) i v (Jb p)=some r:=by
 have z:∀(v:Nat),v<=E.length->(∀q∈E.take v,Fq p q=false)->(∀q∈E.drop v,Fq p q=true)->
   (((([]:List fT)++(((E.map Jb).take (Int.toNat (v:Int))).drop 0))++[Jb p])++(((E.map Jb).take (List.length (E.map Jb))).drop (Int.toNat (v:Int))))=(sg Fq p E).map Jb:=by
  intro v I K L;have:=KW Fq K L;rw[jZ] at this;rw[this,fZ];simp
 intro v;induction v with
 |zero=>intro I h r G;refine adj ?_;rw[<-z 0 af ai h] at G;rw[cond_neg ai,b9 ai,b9 ai,b9 ai,b9 ai,b9 aH,bJ af];omega
 |succ v R=>
  intro I h r G;refine adj ?_;have w:v<E.length:=af;have B:(E.map Jb)[v]? =some (Jb E[v]):=by rw[dV,aM w];rfl
  rw[cond_pos ai,qO af,jd B,c56 Q (H _ (cG w)),ak];cases S:Fq p E[v] with
  |true=>rw[aj];refine R af ?_ r G;intro q F;rw[jY w] at F;grind
  |false=>
   have D:∀q∈E.take (v+1),Fq p q=false:=by
    intro q F;rw[qw] at F;obtain⟨k,V,rfl⟩:=F;by_cases P:k=v
    .simp_all
    .have hs:Fq E[v] E[k]=false:=by
      have:=js.1 N k v af w af;exact this
     grind[WH]
   rw[<-z _ af D h] at G;rw[au,b9 aH,b9 aH,b9 aH,b9 aH,b9 aH,bJ af];omega
def aaf {E:List El} {l:List El} (q:lu Fq E):lu Fq (l.foldl (λE p=>sg Fq p E) E)/\(l.foldl (λE p=>sg Fq p E) E).Perm (E++l):=by induction l generalizing E with
 |nil=>simp_all
 |cons p l w=>obtain⟨z,B⟩:=w (xF _ NW WH q (x:=p));grind[NS]
def h15b {d:List aB} (z:Sz d) (A:Acc d) {all:List bV} {qR F:List Nat} (B:qR.length=all.length) (G:all.length<=64) (K:∀x∈all,x.length<=1000) (H:∀c∈qR,c<18446744073709551616)
  (Q:∀w∈F,w<18446744073709551616) (R:F.length<=1000):∀(xs:List Nat) (i:Nat) (E:List El),F.drop i=xs->E.length<=i->i<=F.length->lu Fq E->(∀q∈E,q.2<18446744073709551616)->
  Eg d all (qR.map e1) (F.map e1) (E.map Jb) i=some (((xs.map λw=>((Fu d all qR w,w):El)).foldl (λE p=>sg Fq p E) E).map Jb,0):=by
 intro xs;induction xs with
 |nil=>grind[adi,e1,List.map_drop,bg]
 |cons w xs U=>
  intro i E h P V N S;refine adi ?_;have O:=eM h;have I:(F.map e1).drop i=e1 w::xs.map e1:=by rw[<-om,h];rfl
  have L:=Q w (aP (bU h));rw[aR I,aj,aK I,c55 z A B G K H L,ak,aK I];have l:((E.map Jb).length)=((E.length)):=by simp
  rw[l];refine h15c (p:=(Fu d _ _ w,w)) N S L af af _ (aQ _) ai _ ?_;refine U _ _ (aI h) (by rw[Tw];omega) af (xF _ NW WH N) ?_;intro q D;rcases(Tx _).1 D with rfl|D
  .exact L
  grind
abbrev iZ (d:List aB):List bV:=pI (kZ d)
noncomputable def qR (d:List aB):List Nat:=(iZ d).map (cw d (iZ d))
noncomputable def dR (d:List aB):List El:=((Ba (qR d)).map λw=>((Fu d (iZ d) (qR d) w,w):El)).foldl (λE p=>sg Fq p E) []
theorem pQ {d:List aB}:(iZ d).length<=d.length:=by have:=qM (kZ d);simp_all
def DT {d:List aB} (h:d.length<=64):∀c∈qR d,c<18446744073709551616:=by intro c l;obtain⟨x,_,rfl⟩:=aG.1 l;grind[ab7,pQ]
def h15a {d:List aB} (z:Sz d) (h:d.length<=64) {r:(List fT×Int)}
  (I:(bif(decide ((((Ba (qR d)).map e1).length:Int)>256)) then(some (([]:List fT),(7:Int))) else(Eg d (iZ d) ((qR d).map e1) ((Ba (qR d)).map e1) ([]:List fT) 0))=some r):
  ∀(xs:List bV) (i:Nat),(iZ d).drop i=xs->i<=(iZ d).length->Ze d (iZ d) i ((((iZ d).take i).map (cw d (iZ d))).map e1)=some r:=by
 have w:=pQ (d:=d);have K:=z.len;intro xs;induction xs with
 |nil=>
  intro i l B;refine k15_7 ?_;have q:=j0 l;have e:(((iZ d).take i).map (cw d (iZ d)))=qR d:=by rw[gI q];rfl
  rw[e,bg l,au,c54 (DT h) (by grind)];grind
 |cons x xs G=>
  intro i l B;refine k15_7 ?_;have D:=eM l;have F:x∈kZ d:=gH.1 (aP (bU l));have H:(iZ d).take (i+1)=(iZ d).take i++[x]:=by rw[dy,bU l];rfl
  have:=G _ (aI l) af;rw[aK l,c53 z af F,ak,cF _ aH ai af,aN l af];grind
def Wc {s:bV} (h:isName s=true):s.length<=32:=by simp_all[isName]
def R5 {q l:List Nat} (w:Fm q l) (h:∀c∈q,c<18446744073709551616):∀c∈l,c<18446744073709551616:=
 w.gen _ h λa b z _=>n9 sE z
def Te {d:List aB} {i:Nat} (h:i<(iZ d).length):(iZ d).getD i []∈kZ d:=by grind[gH,List.getElem_mem]
def Pw {d:List aB} {x:bV} (h:x∈kZ d):∃i,i<(iZ d).length/\(iZ d).getD i []=x:=by obtain⟨i,l,e⟩:=iY.1 (gH.2 h);exact⟨i,l,by simp_all⟩
def O5 {d:List aB} {x y:bV} (q:y∈kZ d):sub (cw d (iZ d) y) (cw d (iZ d) x)=true↔Le d x y:=by
 rw[kR];constructor
 .intro h;obtain⟨i,l,e⟩:=Pw q;have:=h i (z7.2 ⟨l,by rw[e];exact .refl⟩);simp_all[z7]
 grind[z7,tH.trans]
def cw_inj {d:List aB} (A:Acc d) {x y:bV} (l:x∈kZ d) (q:y∈kZ d) (h:cw d (iZ d) x=cw d (iZ d) y):x=y:=
 le_antisymm A ((O5 q).1 (by rw[h];exact zc _)) ((O5 l).1 (by rw[h];exact zc _))
def N8 {q w:Type} {f:q->w}:∀{l:List q},l.Nodup->(∀x∈l,∀y∈l,f x=f y->x=y)->(l.map f).Nodup:=by intro l;induction l with
 |nil=>simp
 |cons x l z=>grind
def Cw {d:List aB} (A:Acc d):(qR d).Nodup:=N8 (mX _).nodup λx l y q h=>cw_inj A (gH.1 l) (gH.1 q) h
def O6 {d:List aB}:∀c∈qR d,c≠0:=by
 intro c q;obtain⟨x,z,rfl⟩:=aG.1 q;intro e;obtain⟨i,w,l⟩:=Pw (gH.1 z)
 have:(cw d _ x).testBit i=true:=z7.2 ⟨w,by rw[l];exact .refl⟩
 simp_all
def Je {d:List aB}:(qR d).length<=d.length:=by simp_all[pQ,qR]
def Cy {d:List aB}:lu Fq (dR d)/\(dR d).Perm ((Ba (qR d)).map λw=>((Fu d (iZ d) (qR d) w,w):El)):=by have:=aaf (E:=[]) (l:=(Ba (qR d)).map λw=>((Fu d (iZ d) (qR d) w,w))) (by simp[lu]);assumption
def Cx {d:List aB}:((dR d).map (·.2)).Perm (Ba (qR d)):=by have:=(Cy (d:=d)).2.map (·.2);simp_all[nW]
def V6 {d:List aB} (A:Acc d) (L:d.length<=64) (P:(Ba (qR d)).length<=256):abr ((dR d).map (·.2)):=by
 have I:(qR d).length<=256:=by have:=Je (d:=d);omega
 obtain⟨F,_,F3⟩:=E6 (Cw A) O6 I;have S:=Cx (d:=d);have l:∀c,c∈(dR d).map (·.2)↔c∈Ba (qR d):=λc=>S.mem_iff
 have Q:=R5 F (DT L);have R:((dR d).map (·.2)).Nodup:=S.nodup_iff.2 F.nd;have q:∀(i:Nat) (H:i<((dR d).map (·.2)).length),((dR d).map (·.2)).getD i 0=((dR d)[i]'(by simp_all)).2:=by intro i H;rw[bD,aM H];simp
 have z:∀i j,i<((dR d).map (·.2)).length->j<((dR d).map (·.2)).length->sub (((dR d).map (·.2)).getD j 0) (((dR d).map (·.2)).getD i 0)=true->i<=j:=by
  intro i j H hj hs;apply eH;intro G;have O:j<i:=af;have K:=js.1 (Cy (d:=d)).1 j i (by simp_all) (by simp_all) O;have B:((dR d).map (·.2)).getD j 0≠((dR d).map (·.2)).getD i 0:=λe=>by grind[getD_inj]
  have V:=pc_lt (Q _ ((l _).1 (mA H))) hs B;rw[q i H,q j hj] at V
  have:Fq ((dR d)[i]'(by grind)) ((dR d)[j]'(by grind))=true:=Jl.2 (.inl V)
  rw[this] at K;cases K
 obtain⟨t,ht,D⟩:=root A;have hr:cw d (iZ d) t∈Ba (qR d):=by obtain⟨e,he⟩:=F.pre;rw[he];exact dx _ (jq (gH.2 ht))
 have hsub:∀c∈Ba (qR d),sub c (cw d (iZ d) t)=true:=F.gen (λc=>sub c (cw d (iZ d) t)=true) (λc G=>by
  obtain⟨x,hx,rfl⟩:=aG.1 G
  exact(O5 (gH.1 hx)).2 (D x (gH.1 hx))) (λa b N _=>ze (FR a b) N)
 have w:0<((dR d).map (·.2)).length:=zy ((l _).2 hr);obtain⟨k,U,hke⟩:∃k,k<((dR d).map (·.2)).length/\((dR d).map (·.2)).getD k 0=cw d (iZ d) t:=by obtain⟨k,U,h1,_⟩:=Pj ((l _).2 hr);grind
 have hk0 :=by have:=z k 0 U w (by grind[mA]);omega
 refine⟨R,λc G=>F.nz c ((l c).1 G),λa N b hb B=>(l _).2 (F3 P a ((l a).1 N) b ((l b).1 hb) B),λc G=>by simp_all,w,z⟩
def cd_ents {d:List aB} (A:Acc d) (q:d.length<=64) (B:(Ba (qR d)).length<=256):Cd ((dR d).map Jb) ((dR d).map (·.2)):=by
 have l:(qR d).length<=256:=by have:=Je (d:=d);omega
 obtain⟨F,_,D⟩:=E6 (Cw A) O6 l;have w:=Cx (d:=d);refine⟨by simp[Jb],λc z=>R5 F (DT q) c (w.mem_iff.1 z),?_⟩;rw[w.length_eq];omega
def c15 {d:List aB} (z:Sz d) (l:d.length<=64):f15 d=some (if Jd d≠0 then([],Jd d) else if(Ba (qR d)).length>256 then([],7) else((dR d).map Jb,0)):=by
 have G:=pQ (d:=d);refine e15 ?_;rw[c32 z,ak];by_cases B:Jd d=0
 .have A:=JZ B;rw[B,cond_neg ai,c52 d af,ak];refine h15a z l ?_ _ 0 rfl af;by_cases D:(Ba (qR d)).length>256
  .grind
  .rw[cond_neg aH,aA D];have w:(qR d).length<=256:=by have:=Je (d:=d);omega
   obtain⟨F,_,_⟩:=E6 (Cw A) O6 w
   exact h15b z A (by simp[qR]) af (λx K=>by
    obtain⟨t,I,rfl⟩:=aG.1 (gH.1 K)
    have:=Wc (A.name t I);omega) (DT l) (R5 F (DT l)) af _ 0 [] rfl ai af (by simp[lu]) (λq H=>by cases H)
 grind
end Go.Proofs.YtacapiamkgkkjaaGreatDoor.cl
namespace Go.Proofs.YtacapiamkgkkjaaGreatDoor.cl
open Go Go.AM
def Gu (a b:bV) (h:Op.bytesLess a b=true):Op.bytesLess b a=false:=yB h
def abJ (x y z:bV) (h:Op.bytesLess x y=true) (l:Op.bytesLess z y=false):Op.bytesLess x z=true:=by
 by_cases e:z=y
 .rw[e];exact h
 .exact ri _ _ _ h (uq _ _ l e)
def VS {B:Type} (lt:B->B->Bool) (q:∀a b,lt a b=true->lt b a=false) (up:∀x y z,lt x y=true->lt z y=false->lt x z=true):∀(l E:List B),lu lt E->lu lt (l.foldl (λout x=>sg lt x out) E)/\(l.foldl (λout x=>sg lt x out) E).Perm (E++l):=by intro l;induction l with
 |nil=>intro E w;exact⟨w,ai⟩
 |cons p l G=>intro E w;obtain⟨D,F⟩:=G _ (xF lt q up w (x:=p));refine⟨D,F.trans ?_⟩;refine((NS lt p E).append_right l).trans ?_;exact(List.perm_middle (a:=p) (l₁:=E) (l₂:=l)).symm
def KX {w:Type} (lt:w->w->Bool) (q:∀a b,lt a b=true->lt b a=false) (up:∀x y z,lt x y=true->lt z y=false->lt x z=true) (l:List w):lu lt (oM lt l)/\(oM lt l).Perm l:=by have:=VS lt q up l [] (by simp[lu]);simpa[oM] using this
def NZ {l:List bV} {x:bV}:x∈oM Op.bytesLess l↔x∈l:=(KX Op.bytesLess Gu abJ l).2.mem_iff
def Ae (l:List bV):(oM Op.bytesLess l).length=l.length:=(KX Op.bytesLess Gu abJ l).2.length_eq
noncomputable def p6 (o:List bV):List (bV×Bool):=o.foldl (λm x=>uz m x true) []
def P0 (o:List bV) (x:bV):p6 (o++[x])=uz (p6 o) x true:=by simp[p6]
def Ad (o:List bV) (x:bV):getM (p6 o) x=if x∈o then some true else none:=by
 have key:∀(l:List bV) (m:List (bV×Bool)) (s:List bV),(∀x,getM m x=if x∈s then some true else none)->∀x,getM (l.foldl (λm x=>uz m x true) m) x=if x∈s++l then some true else none:=by intro l;induction l with
  |nil=>intro m s h x;simpa using h x
  |cons y l q=>
   intro m s h x
   rw[gA,q _ (s++[y]) (λz=>by
    rw[Fe,h]
    by_cases e:z=y<;>simp[e])]
   simp
 have:=key o [] [] (λx=>by rw[KL];simp) x;simpa[p6] using this
end Go.Proofs.YtacapiamkgkkjaaGreatDoor.cl
namespace Go.Proofs.YtacapiamkgkkjaaGreatDoor.cl
open Go Go.AM
noncomputable def bn (d:List aB) (w:Nat):List bV:=(bitsOf w).map λi=>(iZ d).getD i []
noncomputable def nmW (d:List aB) (w:Nat):bV:=Fu d (iZ d) (qR d) w
def T6 {d:List aB} {w:Nat}:∀(ss:List bV) (q:List Nat) (i:Nat) (l:List bV) (k:Nat),ss.length=q.length->jy (λc=>c==w) q i=(k:Int)->i<=k/\ss[k-i]? =some (nN d w ss q i l):=by intro ss;induction ss with
 |nil=>intro q i l k z h;have :=ou.1 z.symm;subst this;have D:(-1:Int)=(k):=h;omega
 |cons s ss B=>intro q i l k z h;cases q with
  |nil=>simp at z
  |cons c q=>
   rw[jy] at h;simp[nN];by_cases e:c=w
   .grind
   .rw[show(c==w)=false by simp_all] at h;rw[aA e];obtain⟨F,G⟩:=B _ _ _ k (by simp_all) h;refine⟨af,?_⟩;rw[show k-i=(k-(i+1))+1 by omega,sB];omega
def P8 {d:List aB} {w:Nat}:∀(ss:List bV) (q:List Nat) (i:Nat) (l:List bV),ss.length=q.length->(∀c∈q,c≠w)->nN d w ss q i l=yM [38] (wL d (l++((List.range ss.length).filter λj=>w.testBit (i+j)).map λj=>ss.getD j [])):=by intro ss;induction ss with
 |nil=>grind[nN]
 |cons s ss D=>intro q i l B h;cases q with
  |nil=>simp at B
  |cons c q=>
   simp only[nN];rw[bA,List.range_succ_eq_map];have e:((List.range ss.length).filter ((λj=>w.testBit (i+j))∘Nat.succ)).map ((λj=>(s::ss).getD j [])∘Nat.succ)=((List.range ss.length).filter λj=>w.testBit (i+1+j)).map λj=>ss.getD j []:=by
    have e1:((λj=>w.testBit (i+j))∘Nat.succ)=λj=>w.testBit (i+1+j):=by funext j;simp;congr 1;omega
    have z:((λj=>(s::ss).getD j [])∘Nat.succ)=λj=>ss.getD j _:=rfl
    rw[e1,z]
   grind
def OS {w n:Nat} (B:n<=64) (h:∀i,w.testBit i=true->i<n):bitsOf w=(List.range n).filter w.testBit:=by
 unfold bitsOf;have z:=xg (n:=n) (m:=64-n)
 have:List.filter w.testBit (List.map (n+ ·) (List.range (64-n)))=[]:=by rw[zn];intro j q l;obtain⟨i,_,rfl⟩:=aG.1 q;have:=h _ l;omega
 simp_all
structure Dn (d:List aB) (w:Nat):Prop where
 lt:∀i,w.testBit i=true->i<(iZ d).length
 dn:∀i j,i<(iZ d).length->j<(iZ d).length->w.testBit i=true->Le d ((iZ d).getD i []) ((iZ d).getD j [])->w.testBit j=true
def ab9 {d:List aB} (x:bV):Dn d (cw d (iZ d) x):=
 ⟨λi h=>(z7.1 h).1,λi j w l h q=>z7.2 ⟨l,tH.trans (z7.1 h).2 q⟩⟩
def dn_and {d:List aB} {a b:Nat} (l:Dn d a) (B:Dn d b):Dn d (a&&&b):=by
 refine⟨λi h=> ?_,λi j q w h z=> ?_⟩
 .rw[mJ,aT] at h;exact l.lt i h.1
 .rw[mJ,aT] at h⊢;exact⟨l.dn i j q w h.1 z,B.dn i j q w h.2 z⟩
def Ah {w i:Nat} (l:w<18446744073709551616):i∈bitsOf w↔w.testBit i=true:=by unfold bitsOf;rw[dw,gL];refine⟨λh=>h.2,λh=>⟨?_,h⟩⟩;apply eH;intro q;rw[zD (fo l (sF (n:=2) (i:=64) af af))] at h;cases h
theorem bn_SS {d:List aB} {w:Nat} (h:∀i,w.testBit i=true->i<(iZ d).length):SS (bn d w):=by have G:=js.1 (mX (kZ d));unfold bn SS;rw[ic];have F:(bitsOf w).Pairwise _:=(List.pairwise_lt_range).sublist zH;refine F.imp_of_mem ?_;intro a b l B z;have q:=h a (dw.1 l).2;have D:=h b (dw.1 B).2;simp_all
def abL {d:List aB} {w:Nat} (h:∀i,w.testBit i=true->i<(iZ d).length):∀x∈bn d w,x∈kZ d:=by intro x q;obtain⟨i,l,rfl⟩:=aG.1 q;exact Te (h i (dw.1 l).2)
def Jn {d:List aB} {w:Nat} (h:∀i,w.testBit i=true->i<(iZ d).length):wL d (bn d w)=(bn d w).filter (sP d (bn d w)):=by
 have q:(bn d w).filter (λs=>decide _)=bn d w:=zl.2 λx l=>by simpa using abL h x l
 grind[SS.ext,mX,bn_SS,gH,wL]
theorem CB {d:List aB} {l:List bV} {x:bV}:sP d l x=true↔∀y∈l,Le d y x->y=x:=by unfold sP;grind
theorem GN {d:List aB} (A:Acc d) {l:List bV}:∀x∈l,∃m∈l.filter (sP d l),Le d m x:=by
 obtain⟨r,B⟩:=A.rk;have key:∀(n) (x),r x=n->x∈l->∃m∈l.filter (sP d l),Le d m x:=by intro n;induction n using Nat.strongRecOn with
  |_ n I=>
   intro x e D;by_cases q:sP d l x=true
   .exact⟨x,dw.2 ⟨D,q⟩, .refl⟩
   .rw[CB] at q;obtain⟨y,F⟩:=Classical.not_forall.1 q;obtain⟨G,w⟩:=Classical.not_imp.1 F;obtain⟨z,H⟩:=Classical.not_imp.1 w
    have:r y<r x:=by
     rcases PV B z with h|h
     .simp_all
     .exact h
    grind[tH.trans]
 simp_all
def Vr {d:List aB} {w:Nat} (z:w<18446744073709551616) (D:Dn d w) {i:Nat} (B:i<(iZ d).length):w.testBit i=true↔(iZ d).getD i []∈bn d w:=by
 unfold bn;rw[aG];constructor
 .intro h;exact⟨i,(Ah z).2 h,rfl⟩
 .rintro⟨j,F,e⟩;have l:=(Ah z).1 F;have q:=D.lt j l;rw[bD,bD,aM B,aM q] at e;have:=(sC (mX _).nodup).1 e;simp_all
theorem aeq {d:List aB} (A:Acc d) {w v:Nat} (I:w<18446744073709551616) (H:v<18446744073709551616) (B:Dn d w) (z:Dn d v) (h:wL d (bn d w)=wL d (bn d v)):w=v:=by
 have key:∀{w v:Nat},w<18446744073709551616->v<18446744073709551616->Dn d w->Dn d v->wL d (bn d w)=wL d (bn d v)->∀i,w.testBit i=true->v.testBit i=true:=by intro w v I H B z h i F;have l:=B.lt i F;obtain⟨m,G,L⟩:=GN A _ ((Vr I B l).1 F);rw[<-Jn B.lt,h,Jn z.lt] at G;have D:=(dw.1 G).1;obtain⟨j,K,rfl⟩:=aG.1 D;have q:=(Ah H).1 K;exact z.dn j i (z.lt j q) l q L
 apply vn;grind
def YM {d:List aB} (A:Acc d) (B:d.length<=64) {x:bV} (I:x∈kZ d):wL d (bn d (cw d (iZ d) x))=[x]:=by
 have F:=pQ (d:=d);have w:cw d (iZ d) x<18446744073709551616:=ab7 af;have D:=ab9 (d:=d) x;rw[Jn D.lt];have l:∀y,y∈(bn d (cw d (iZ d) x)).filter (sP d (bn d (cw d (iZ d) x)))↔y∈[x]:=by
  intro y;have K:x∈bn d (cw d (iZ d) x):=by obtain⟨i,q,e⟩:=Pw I;have h:=(Vr w D q).1 (z7.2 ⟨q,by rw[e];exact .refl⟩);rw[e] at h;exact h
  have H:∀z∈bn d (cw d (iZ d) x),Le d x z:=by intro z L;obtain⟨j,G,rfl⟩:=aG.1 L;exact(z7.1 ((Ah w).1 G)).2
  rw[dw,CB];constructor
  .simp_all
  .grind[le_antisymm]
 refine SS.ext ?_ (by simp[SS]) l;exact(bn_SS D.lt).sublist zH
def TD {s:bV} (h:isName s=true):(38:UInt8)∉s:=by unfold isName at h;grind[pe,BO]
def cut38:∀{x l t q:bV},(38:UInt8)∉x->(38:UInt8)∉l->(t=[]\/∃u,t=38::u)->(q=[]\/∃u,q=38::u)->x++t=l++q->x=l/\t=q:=by intro x;induction x with
 |nil=>intro l t q w z B D h;cases l with
  |nil=>simp_all
  |cons c l=>simp_all
 |cons c x F=>intro l t q w z B D h;cases l with
  |nil=>grind
  |cons c' l=>grind
def Ge (l:List bV):wZ l=[]\/∃u,wZ l=38::u:=by cases l with
 |nil=>exact .inl rfl
 |cons x l=>simp_all[wZ]
theorem aa1:∀{l q:List bV},(∀x∈l,(38:UInt8)∉x)->(∀x∈q,(38:UInt8)∉x)->wZ l=wZ q->l=q:=by intro l;induction l with
 |nil=>intro q _ _ h;cases q with
  |nil=>rfl
  |cons x q=>simp[wZ] at h
 |cons x l B=>intro q w z h;cases q with
  |nil=>simp[wZ] at h
  |cons D q=>
   have e:∀(y) (m),wZ (y::m)=38::(y++wZ m):=λy m=>by rfl
   rw[e,e,c9] at h;obtain⟨a,b⟩:=cut38 (w x ai) (z _ ai) (Ge l) (Ge _) h.2;grind
theorem aaw {l q:List bV} (D:l≠[]) (B:q≠[]) (w:∀x∈l,(38:UInt8)∉x) (z:∀x∈q,(38:UInt8)∉x) (h:yM [38] l=yM [38] q):l=q:=by cases l with
 |nil=>simp_all
 |cons x l=>cases q with
  |nil=>simp_all
  |cons F q=>rw[D2,D2] at h;obtain⟨a,b⟩:=cut38 (w x ai) (z _ ai) (Ge l) (Ge _) h;grind[aa1]
def acA {d:List aB} {i:Nat} (l:i<(iZ d).length):(qR d)[i]? =some (cw d (iZ d) ((iZ d).getD i [])):=by simp_all[qR]
def ac1 {l:Type} (p:l->Bool):∀(xs:List l) (i k:Nat),jy p xs i=(k:Int)->i<=k/\∃x,xs[k-i]? =some x/\p x=true:=by intro xs;induction xs with
 |nil=>intro i k h;have q:(-1:Int)=(k):=h;omega
 |cons x xs w=>intro i k h;rw[jy] at h;grind
def nmW_out {d:List aB} (l:d.length<=64) {w:Nat} (D:Dn d w) (h:∀c∈qR d,c≠w):nmW d w=yM [38] (wL d (bn d w)):=by have q:=pQ (d:=d);unfold nmW Fu;rw[P8 _ _ _ _ (by simp[qR]) h,bn,OS af D.lt];simp
def WO {d:List aB} (A:Acc d) (l:d.length<=64) {w:Nat} (D:Dn d w):nmW d w=yM [38] (wL d (bn d w)):=by
 by_cases h:∀c∈qR d,c≠w
 .exact nmW_out l D h
 .have K:¬jy (λc=>c==w) (qR d) 0<0:=by
   rw[ac2];intro N;exact h λc I=>by simp_all
  obtain⟨k,G⟩:∃k:Nat,jy (λc=>c==w) (qR d) 0=(k):=⟨(jy (λc=>c==w) (qR d) 0).toNat,af⟩
  obtain⟨_,e⟩:=T6 (iZ d) _ 0 _ k (by simp[qR]) G;obtain⟨_,c,z,H⟩:=ac1 _ _ _ _ G;rw[vo] at e z;have q:=(bu.1 e).1;rw[acA q] at z;have B:cw d (iZ d) ((iZ d).getD k [])=w:=by rw[<-(jo.1 H)];exact fc z
  have F:(iZ d).getD k []=nmW d w:=by rw[bD,e];rfl
  rw[F] at B;have L:nmW d w∈kZ d:=by rw[<-F];exact Te q
  have:=YM A l L;rw[B] at this;rw[this];rfl
def nmW_inj {d:List aB} (A:Acc d) (l:d.length<=64) {w v:Nat} (B:w<18446744073709551616) (P:v<18446744073709551616) (N:w≠0) (L:v≠0) (G:Dn d w) (F:Dn d v) (h:nmW d w=nmW d v):w=v:=by
 rw[WO A l G,WO A l F] at h;have ne:∀{w:Nat},w<18446744073709551616->w≠0->Dn d w->wL d (bn d w)≠[]:=by intro w B H D I;obtain⟨i,q⟩:=Nat.exists_testBit_of_ne_zero H;obtain⟨m,z,_⟩:=GN A _ ((Vr B D (D.lt i q)).1 q);rw[<-Jn D.lt,I] at z;cases z
 have fr:∀{w:Nat},Dn d w->∀x∈wL d (bn d w),(38)∉x:=by intro w D x O;obtain⟨t,K,rfl⟩:=aG.1 (abL D.lt x (TZ O));exact TD (A.name t K)
 grind[aeq,aaw]
