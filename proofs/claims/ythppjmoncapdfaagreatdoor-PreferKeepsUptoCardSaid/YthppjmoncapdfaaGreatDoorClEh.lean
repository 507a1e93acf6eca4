/- The hierarchy of one type with features. -/
import Derived.Test.YthppjmoncapdfaaGreatDoorClEa
import Derived.Test.YthppjmoncapdfaaGreatDoorClSh
import Derived.Test.YthppjmoncapdfaaGreatDoorClXs
import Derived.KernelRfl
set_option linter.all false
set_option maxRecDepth 100000
open List (replicate)
namespace Go.Proofs.YthppjmoncapdfaaGreatDoor.cl.pf
open Go Go.AM
def nmT (k:Nat):List UInt8:=70::PZ k
def yG:List UInt8:=[116,111,112]
def XL (n:Nat):List bS:=(List.range n).map λk=>⟨nmT k,yG⟩
def RA {K V:Type} {l:List (K×V)} {k:K} {v:V} (h:k∉l.map Prod.fst):wA l k v=l++[(k,v)]:=by induction l with
 |nil=>rw[Je];rfl
 |cons x l q=>rw[aR,aF,jS] at h;rw[LD,aq h.1,q h.2];rfl
open Classical in
def aab {α K V:Type} {l:List α} {f:α->K} {v:V} {k:K}:getM (l.map λx=>(f x,v)) k=if k∈l.map f then some v else none:=by induction l with
 |nil=>exact Il _
 |cons x l q=>
  rw[aR,oW];by_cases h:k=f x
  .rw[au h,au (by simp[h])]
  .rw[aq h,q,aR];simp only[aF,h,false_or]
section
variable {α R:Type}
def yt (x:α):decide ((0:Int)<([x].length:Int))=true:=by simp
def Nq (x:α):decide ((1:Int)<([x].length:Int))=false:=by simp
def u6 (x:α) (k:α->Option R):aV [x] 0 k=k x:=by simp[aV]
def acE:decide ((1:Int)<1)=false:=rfl
def Nr:IntKind.wrap .i64 (0+1)=1:=by decide
end
def aac {K V:Type} {l:List (K×V)} {k:K} (h:k∉l.map Prod.fst):getM l k=none:=by induction l with
 |nil=>exact Il _
 |cons x l q=>rw[aR,aF,jS] at h;rw[oW,aq h.1,q h.2]
abbrev cT:List dX:=[⟨yG,[1]⟩]
def mT:List (List UInt8×Int):=[(yG,0)]
def t366 (F:List bS):f366 cT ⟨yG,[],F⟩=some 0:=iS (E:=EN Q5) (qe.2 ⟨200,by kernel_rfl⟩)
def t27:f27 cT 0=some []:=iS (E:=EN Q15) (qe.2 ⟨200,by kernel_rfl⟩)
def t18:f18 cT [1]=some 0:=iS (E:=EN Q5) (qe.2 ⟨200,by kernel_rfl⟩)
def t63:f63 [1] [1]=some true:=iS (E:=EN Q0) (qe.2 ⟨200,by kernel_rfl⟩)
section
variable (F:List bS) (A:List (List UInt8)) (B:List Int) (C:List (List c8))
theorem t383:f383 yG [⟨yG,[],F⟩] cT mT A B C=some [1]:=iS (E:=E383r _ _ _ _ _ _) (qe.2 ⟨200,by kernel_rfl⟩)
end
def k221:lR (λ_ _ _=>none) 221 ((List.range 64).map λk=>([.str (nmT k)], .bool true))=true:=by kernel_rfl
def t380 {k:Nat} (h:k<64):f380 (nmT k)=some true:=
 iS (E:=EN Q0) (mY Np k221 _ (aC.2 ⟨k,eH.2 h,rfl⟩))
def t24:f24 cT 0 0=some true:=iS (E:=EN Q0) (qe.2 ⟨200,by kernel_rfl⟩)
structure FT (F:List bS):Prop where
 len:F.length<=64
 nd:(F.map (·.aS)).Nodup
 val:∀x∈F,x.Value=yG
 txt:∀x∈F,f380 x.aS=some true
 cod:f14 [⟨yG,[],F⟩]=some (cT,0)
def sT (F:List bS):List (List UInt8):=lC Op.bytesLess (F.map (·.aS))
abbrev dT (F:List bS):List aA:=[⟨yG,[],F⟩]
def MA {F:List bS} {V:Type} (v:V):(F.map λx=>(x.aS,v)).map Prod.fst=F.map (·.aS):=by rw[eS];rfl
def Ni {F:List bS} (h:(F.map (·.aS)).Nodup) {x:bS} {xs:List bS} {i:Nat} (e:F.drop i=x::xs):x.aS∉(F.take i).map (·.aS):=by rw[<-jl i F,bJ,e,aR] at h;have:=gV.1 h;intro l;exact this.2.2 _ l _ (qQ ..) rfl
def Fa {α:Type} {l:List α} {i:Nat} {x:α} {xs:List α} (e:l.drop i=x::xs):l.take (i+1)=l.take i++[x]:=by rw[cg,bB e];rfl
def aap (x:List UInt8) (l:List (List UInt8)):(pY Op.bytesLess x l).Perm (x::l):=by induction l with
 |nil=>exact .refl _
 |cons y l q=>
  unfold pY;split
  .exact .refl _
  .exact(q.cons y).trans (.swap x y l)
def UP (F:List bS):(sT F).Perm (F.map (·.aS)):=by
 have key:∀(l E:List (List UInt8)),(l.foldl (λout x=>pY Op.bytesLess x out) E).Perm (E++l):=by intro l;induction l with
  |nil=>intro E;simp
  |cons p l q=>exact λE=>(q _).trans (((aap p E).append_right l).trans (xQ (a:=p) (l₁:=E) (l₂:=l)).symm)
 exact key _ []
section
variable {F:List bS} (H:FT F) {A:List (List UInt8)} {B:List Int} {C:List (List c8)}
include H
theorem WH:(sT F).length=F.length:=by rw[(UP F).length_eq,aU]
theorem u367a {r} (q:Oj (dT F) 1 1 (F.map λx=>(x.aS,true)) (dT F) cT mT A B C=some r):∀(xs:List bS) (i:Nat),F.drop i=xs->i<=F.length->
  Ol (dT F) 1 0 F F.length i ⟨yG,[],F⟩ ((F.take i).map λx=>(x.aS,true)) (dT F) cT mT A B C=some r:=by
 have z:=H.len;intro xs;induction xs with
 |nil=>
  intro i h l;refine aa3 ?_
  have:i=F.length:=by have:=iF h;omega
  subst this;rw[bp h,az,fJ];exact q
 |cons x xs w=>intro i h l;refine aa3 ?_;have:=w (i+1) (aG h) (c7 h);rw[Fa h,bJ] at this;rw[aZ h,ai,aQ h,sB,aY h af,RA (by rw[MA];exact Ni H.nd h)];exact this
theorem u367b {M:List (List UInt8×Bool)} {r} (z:G4 (dT F) 1 1 M (dT F) cT mT A B C=some r):∀(xs:List bS) (i:Nat),F.drop i=xs->
  G5 (dT F) 1 0 F F.length i ⟨yG,[],F⟩ M (dT F) cT mT A B C=some r:=by
 have K:=H.len;intro xs;induction xs with
 |nil=>intro i h;refine V2 ?_;rw[bp h];exact z
 |cons x xs G=>
  intro i h;refine V2 ?_;have l:x∈F:=aH (bB h);have I:=c7 h;have q:f381 ((F.take (Int.toNat (i:Int))).drop 0) x=some false:=by
   rw[aP,tX];refine e381 ?_
   have:f384 (F.take i) x=some (gJ (λy=>y.aS==x.aS) (F.take i) 0):=e384 (h384 (by rw[fF];omega) x _ 0 rfl)
   rw[this,ak,Za];congr 1;rw[qJ];intro y D w;exact Ni H.nd h (aC.2 ⟨y,D,by simpa using w⟩)
  rw[aZ h,ai,aQ h,H.txt x l,ak,cond_neg (by rfl),bh (by simp only;omega),q,ak,az,H.val x l,uU (v:=0) (by unfold mT;rw[oW,au rfl]),aY h af];exact G (i+1) (aG h)
theorem u367:f367 (dT F) cT mT [] B C=some (0,mT,sT F,B,C):=by have l:=H.len;refine e367 ?_;refine aa2 ?_;rw[yt,ai,u6];refine u367a H ?_ F 0 rfl af;refine aa2 ?_;rw[acE,az,cond_neg (by rw[aU,bM];omega)];refine V1 ?_;rw[yt,ai,u6];refine u367b H ?_ F 0 rfl;refine V1 ?_;rw[acE,az,bh (by rw[aU];simp;omega),MA];rfl
theorem u109:ZS [0] [0] (dT F) cT mT A B C=some 0:=by
 refine e109a (k109_2a ?_);have q:f390 0 0 (dT F) cT mT A B C=some false:=e390 (by rw[t24];rfl);have w:f67a [0] 0 (dT F) cT mT A B C=some false:=by
  refine e67a ?_
  have:ZT [0] 0 (dT F) cT mT A B C=some (-1):=by refine e109b (VT ?_);rw[yt,ai,u6,q,ak,az,Nr];exact VT (by rw[Nq];rfl)
  rw[this];rfl
 have l:f382 0 [0] (dT F) cT mT A B C=some true:=e382 (by rw[w];rfl);rw[yt,ai,u6,l];rfl
theorem u376 {s:List UInt8} (q:s∈F.map (·.aS)):f376 s (dT F) cT mT A B C=some [0]:=by
 have z:=H.len;refine e376 (aa9 ?_);have l:ZU F s=some true:=by
  refine e381a ?_
  have:ZV F s=some (gJ (λy=>y.aS==s) F 0):=e384a (h384a af s F 0 rfl)
  rw[this,ak,Za];congr 1;rw[mP];obtain⟨y,w,e⟩:=aC.1 q;exact⟨y,w,by simpa using e⟩
 rw[yt,ai,u6,l,ak,ai,uU (v:=0) (by unfold mT;rw[oW,au rfl]),bT _ ah ah af,Nr];exact aa9 (by rw[Nq];rfl)
theorem u368:∀(xs:List (List UInt8)) (i:Nat),(sT F).drop i=xs->i<=(sT F).length->Om (sT F).length i (dT F) cT mT (sT F) (replicate i 0) C=some (0,mT,sT F,replicate (sT F).length 0,C):=by have z:=H.len;have D:=WH H;intro xs;induction xs with
 |nil=>
  intro i h l;refine aa4 ?_
  have:i=(sT F).length:=by have:=iF h;omega
  subst this;rw[bp h,az]
 |cons x xs w=>intro i h _;refine aa4 ?_;have q:x∈F.map (·.aS):=(UP F).mem_iff.1 (aH (bB h));have l:=c7 h;rw[aZ h,ai,sU h,sR h,u376 H q,ak,u109 H,ak,cond_neg (by rfl),u6,bT _ aD ah af,aY h af];have:=w (i+1) (aG h) l;rw[mX] at this;exact this
theorem u385 {x:bS} (l:x.Value=yG) {M:List (List UInt8×List Int)} (h:x.aS∉M.map Prod.fst):f385 x (dT F) cT M mT A B C=some ((),M++[(x.aS,[1])]):=by refine e385 ?_;rw[l,t383,ak,B5 (aac h),sB,RA h]
theorem u377a:∀(xs:List bS) (i:Nat),F.drop i=xs->i<=F.length->
  Oq 0 (dT F) 1 0 F F.length i ⟨yG,[],F⟩ ((F.take i).map λx=>(x.aS,[1])) (dT F) cT mT A B C=some (F.map λx=>(x.aS,[1])):=by
 have w:=H.len;intro xs;induction xs with
 |nil=>
  intro i h l;refine abb ?_
  have:i=F.length:=by have:=iF h;omega
  subst this;rw[bp h,az,fJ];exact aba rfl
 |cons x xs q=>intro i h l;refine abb ?_;have:=q (i+1) (aG h) (c7 h);rw[Fa h,bJ] at this;rw[aZ h,ai,aQ h,u385 H (H.val x (aH (bB h))) (by rw[MA];exact Ni H.nd h),rW,aY h af];exact this
theorem u377:f377 0 (dT F) cT mT A B C=some (F.map λx=>(x.aS,[1])):=by refine e377 (aba ?_);rw[yt,ai,u6];rw[u6,t383,ak,t63,ak,ai];exact u377a H F 0 rfl af
def apT (n:Nat):List c8:=(List.range n).map λ(k:Nat)=>⟨k,0⟩
theorem u369a:∀(xs:List (List UInt8)) (i:Nat),(sT F).drop i=xs->i<=(sT F).length->
  JO (F.map λx=>(x.aS,[1])) 1 0 (sT F).length i (apT i) (dT F) cT mT (sT F) B []=some (0,mT,sT F,B,[apT F.length]):=by
 have D:=H.len;have q:=WH H;intro xs;induction xs with
 |nil=>
  intro i h l;refine aa6 ?_
  have:i=(sT F).length:=by have:=iF h;omega
  subst this;rw[bp h,az,bh ah,q];exact aa5 rfl
 |cons x xs z=>intro i h _;refine aa6 ?_;have w:x∈F.map (·.aS):=(UP F).mem_iff.1 (aH (bB h));have l:=c7 h;have:=z (i+1) (aG h) l;unfold apT at this;rw[iN,bJ] at this;rw[aZ h,ai,sU h,sR h,uU (v:=[1]) (by rw[aab,au w]),t18,ak,cond_neg (by rfl),bT _ (by simp[apT];omega) ah af,aY h af];exact this
theorem u369:f369 (dT F) cT mT (sT F) B []=some (0,mT,sT F,B,[apT F.length]):=by refine e369 (aa5 ?_);rw[yt,ai,u377 H,ak];exact u369a H (sT F) 0 rfl af
def tabT (F:List bS):table:=⟨dT F,cT,mT,sT F,replicate F.length 0,[apT F.length]⟩
theorem u344:f344 (dT F)=some (some (tabT F),0):=by refine e344 ?_;rw[H.cod,ak,cond_neg (by rfl)];refine aaR ?_;have l:f368 (dT F) cT mT (sT F) [] []=some (0,mT,sT F,replicate F.length 0,[]):=e368 (by rw[<-WH H];exact u368 H (sT F) 0 rfl af);rw[yt,ai,u6,t366,ak,sB,Je,Nr];refine aaR ?_;rw[Nq,az];show Ft (f367 (dT F) cT mT [] [] []) _=_;rw[u367 H,rX,cond_neg (by rfl),l,rX,cond_neg (by rfl),u369 H,rX];rfl
theorem u319:f319 (dT F)=some ((sT F).map λs=>⟨s,0⟩,0):=by
 have w:=H.len;have z:=WH H;refine e319 ?_;rw[u344 H,ak,cond_neg (by rfl)];have key:∀(xs:List (List UInt8)) (i:Nat),(sT F).drop i=xs->i<=(sT F).length->N7 (some (tabT F)) (sT F) (sT F).length i (((sT F).take i).map λs=>⟨s,0⟩)=some ((sT F).map λs=>⟨s,0⟩,0):=by intro xs;induction xs with
  |nil=>
   intro i h l;refine aaM ?_
   have:i=(sT F).length:=by have:=iF h;omega
   subst this;rw[bp h,az,fJ]
  |cons x xs q=>intro i h _;refine aaM ?_;have l:=c7 h;have:=q (i+1) (aG h) l;rw[Fa h,bJ] at this;rw[aZ h,ai,aQ h];show aV (replicate F.length 0) i _=_;rw[ew (x:=0) (by rw[jm,au af]),bT _ aD ah af,aY h af];exact this
 exact key _ 0 rfl af
theorem u331:f331 (dT F)=some (⟨[⟨yG,[1],[],apT F.length⟩],(sT F).map λs=>⟨s,0⟩⟩,0):=by refine e331 ?_;have l:f322 (dT F)=some ([apT F.length],0):=e322 (by rw[u344 H,ak,cond_neg (by rfl)];rfl);rw[u319 H,ak,cond_neg (by rfl),l,ak,cond_neg (by rfl),H.cod,ak,cond_neg (by rfl)];refine VZ ?_;rw[yt,ai,u6,t27,ak,u6,bT _ ah ah af,Nr];exact VZ rfl
end
noncomputable def ck86 (a n:Nat):Bool:=lR (λ_ _ _=>none) 86 ((List.range n).map λk=>([.dH 3 (List.map aA.enc (dT (XL (a+k))))],Q13 (cT,0)))
def k86a:ck86 0 33=true:=by kernel_rfl
def k86b:ck86 33 32=true:=by kernel_rfl
def Zw {a n:Nat} (h:ck86 a n=true) {k:Nat} (l:k<n):f14 (dT (XL (a+k)))=some (cT,0):=
 iS (E:=EN Q13) (mY Np h _ (aC.2 ⟨k,eH.2 l,rfl⟩))
def nm_nd:((List.range 64).map nmT).Nodup:=by decide+kernel
def ft_ok {n:Nat} (w:n<=64):FT (XL n):=by
 refine⟨by simp[XL];omega,?_,λx l=> ?_,λx l=> ?_,?_⟩
 .have:(XL n).map (·.aS)=((List.range 64).map nmT).take n:=by
   rw[<-List.map_take,List.take_range,zu w,XL,eS];rfl
  rw[this];exact nm_nd.sublist (List.take_sublist _ _)
 .obtain⟨k,_,rfl⟩:=aC.1 l;rfl
 .obtain⟨k,q,rfl⟩:=aC.1 l;exact t380 (by have:=eH.1 q;omega)
 .by_cases h:n<33
  .have:=Zw k86a h;rwa[gv] at this
  .have:=Zw k86b (k:=n-33) af;rwa[show 33+(n-33)=n from by omega] at this
def c459 {k:Nat} (h:k<100):f459 (k:Int)=some (PZ k):=by refine iS (E:=EN Q20) ?_;refine mK ?_;have l:Nat.blt k 100=true:=ig h;show(bif Nat.blt k 100 then _ else _)=_;rw[l];rfl
section
variable (A:List c8) (F:List c4)
theorem t335:f335 ⟨[⟨yG,[1],[],A⟩],F⟩ 0 0=some (0,true):=iS (E:=EN Q19) (qe.2 ⟨200,by kernel_rfl⟩)
theorem t336:f336 ⟨[⟨yG,[1],[],A⟩],F⟩ 0 0=some (0,true):=iS (E:=EN Q19) (qe.2 ⟨200,by kernel_rfl⟩)
end
def Pb:Vg:=λn D=>by
 have H:=ft_ok D;refine⟨⟨[⟨yG,[1],[],apT (XL n).length⟩],(sT (XL n)).map λs=>⟨s,0⟩⟩,e428 ?_,⟨⟨λh=> ?_,λh=> ?_,λh q=> ?_,λh q=> ?_,λh q=> ?_,λh q=> ?_⟩,λa b I K L N=> ?_⟩⟩
 .have key:∀(k i:Nat) (w:bQ) (a:List bS) (b:List (List UInt8)),n=i+k->ON (n:Int) (i:Int) w yG b a [] (XL i)=some ⟨[⟨yG,[1],[],apT (XL n).length⟩],(sT (XL n)).map λs=>⟨s,0⟩⟩:=by
   intro k;induction k with
   |zero=>intro i w a b z;have e:i=n:=af;subst e;refine abx ?_;rw[cond_neg (by rw[bM];omega),u331 H,ak]
   |succ k G=>
    intro i w a b z;refine abx ?_;have l:f447 (i:Int)=some (PZ i):=e447 (by rw[c459 af,ak]);have O:(PZ i).length<=2:=by unfold PZ;cases Nat.blt i 10<;>simp
    rw[cond_pos (by rw[bF];omega),l,ak,bh aD,bT _ (by simp[XL];omega) ah af,bl af];have:=G (i+1) w a b af;unfold XL at this;rw[iN,bJ] at this;exact this
  exact key n 0 _ _ _ af
 .obtain⟨rfl,_⟩:=h;omega
 .obtain⟨_,rfl⟩:=h;omega
 .exact⟨af,af⟩
 .exact⟨h.1,q.2⟩
 .rw[h.1,q.1]
 .exact⟨rfl,af⟩
 .obtain rfl:a=0:=by omega
  obtain rfl:b=0:=by omega
  exact .inl ⟨0,t335 _ _,t336 _ _,⟨rfl,rfl⟩,⟨rfl,rfl⟩,λc h _=>h⟩
