/- The hierarchy of one type with features. -/
import Derived.Test.YthppjmoncapdfaaGreatDoorClEa
import Derived.Test.YthppjmoncapdfaaGreatDoorClXb
import Derived.Test.YthppjmoncapdfaaGreatDoorClXs
import Derived.KernelRfl
set_option linter.all false
set_option maxRecDepth 100000
open List (replicate)
namespace Go.Proofs.YthppjmoncapdfaaGreatDoor.cl.pf
open Go Go.AM
def WE (k:Nat):List UInt8:=70::G1 k
def ug:List UInt8:=[116,111,112]
def MF (n:Nat):List bR:=(List.range n).map λk=>⟨WE k,ug⟩
def Ip {K V:Type} {l:List (K×V)} {k:K} {v:V} (h:k∉l.map Prod.fst):yJ l k v=l++[(k,v)]:=by induction l with
 |nil=>rw[Iq];rfl
 |cons x l q=>rw[aK,aD,not_or] at h;rw[Nd,az h.1,q h.2];rfl
open Classical in
def OK {α K V:Type} {l:List α} {f:α->K} {v:V} {k:K}:getM (l.map λx=>(f x,v)) k=if k∈l.map f then some v else none:=by induction l with
 |nil=>exact Hw _
 |cons x l q=>
  rw[aK,vN];by_cases h:k=f x
  .rw[ak h,ak (by simp[h])]
  .rw[az h,q,aK];simp only[aD,h,false_or]
section
variable {α R:Type}
def tT (x:α):decide ((0:Int)<([x].length:Int))=true:=by simp
def E8 (x:α):decide ((1:Int)<([x].length:Int))=false:=by simp
def qK (x:α) (k:α->Option R):bF [x] 0 k=k x:=by simp[bF]
def Qk:decide ((1:Int)<1)=false:=rfl
def E9:IntKind.wrap .i64 (0+1)=1:=by decide
end
def OL {K V:Type} {l:List (K×V)} {k:K} (h:k∉l.map Prod.fst):getM l k=none:=by induction l with
 |nil=>exact Hw _
 |cons x l q=>rw[aK,aD,not_or] at h;rw[vN,az h.1,q h.2]
abbrev cT:List gz:=[⟨ug,[1]⟩]
def mT:List (List UInt8×Int):=[(ug,0)]
def t366 (F:List bR):f366 cT ⟨ug,[],F⟩=some 0:=gD (E:=EN Q5) (mz.2 ⟨200,by kernel_rfl⟩)
def t27:f27 cT 0=some []:=gD (E:=EN Q15) (mz.2 ⟨200,by kernel_rfl⟩)
def t18:f18 cT [1]=some 0:=gD (E:=EN Q5) (mz.2 ⟨200,by kernel_rfl⟩)
def t63:f63 [1] [1]=some true:=gD (E:=EN Q0) (mz.2 ⟨200,by kernel_rfl⟩)
section
variable (F:List bR) (A:List (List UInt8)) (B:List Int) (C:List (List dB))
theorem t383:f383 ug [⟨ug,[],F⟩] cT mT A B C=some [1]:=gD (E:=Ss _ _ _ _ _ _) (mz.2 ⟨200,by kernel_rfl⟩)
end
def k221:jA (λ_ _ _=>none) 221 ((List.range 64).map λk=>([.str (WE k)], .bool true))=true:=by kernel_rfl
def t380 {k:Nat} (h:k<64):f380 (WE k)=some true:=
 gD (E:=EN Q0) (j6 E7 k221 _ (aA.2 ⟨k,fC.2 h,rfl⟩))
def t24:f24 cT 0 0=some true:=gD (E:=EN Q0) (mz.2 ⟨200,by kernel_rfl⟩)
structure FT (F:List bR):Prop where
 len:F.length<=64
 nd:(F.map (·.aV)).Nodup
 val:∀x∈F,x.Value=ug
 txt:∀x∈F,f380 x.aV=some true
 cod:f14 [⟨ug,[],F⟩]=some (cT,0)
def sT (F:List bR):List (List UInt8):=jB Op.bytesLess (F.map (·.aV))
abbrev dT (F:List bR):List cZ:=[⟨ug,[],F⟩]
def EG {F:List bR} {V:Type} (v:V):(F.map λx=>(x.aV,v)).map Prod.fst=F.map (·.aV):=by rw[dw];rfl
def E1 {F:List bR} (h:(F.map (·.aV)).Nodup) {x:bR} {xs:List bR} {i:Nat} (e:F.drop i=x::xs):x.aV∉(F.take i).map (·.aV):=by rw[<-kX i F,bw,e,aK] at h;have:=jU.1 h;intro l;exact this.2.2 _ l _ (sW ..) rfl
def zF {α:Type} {l:List α} {i:Nat} {x:α} {xs:List α} (e:l.drop i=x::xs):l.take (i+1)=l.take i++[x]:=by rw[cS,dP e];rfl
def O0 (x:List UInt8) (l:List (List UInt8)):(w8 Op.bytesLess x l).Perm (x::l):=by induction l with
 |nil=>exact .refl _
 |cons y l q=>
  unfold w8;split
  .exact .refl _
  .exact(q.cons y).trans (.swap x y l)
def KP (F:List bR):(sT F).Perm (F.map (·.aV)):=by
 have key:∀(l E:List (List UInt8)),(l.foldl (λout x=>w8 Op.bytesLess x out) E).Perm (E++l):=by intro l;induction l with
  |nil=>intro E;simp
  |cons p l q=>exact λE=>(q _).trans (((O0 p E).append_right l).trans (List.perm_middle (a:=p) (l₁:=E) (l₂:=l)).symm)
 exact key _ []
section
variable {F:List bR} (H:FT F) {A:List (List UInt8)} {B:List Int} {C:List (List dB)}
include H
theorem L3:(sT F).length=F.length:=by rw[(KP F).length_eq,aR]
theorem WY {r} (q:FH (dT F) 1 1 (F.map λx=>(x.aV,true)) (dT F) cT mT A B C=some r):∀(xs:List bR) (i:Nat),F.drop i=xs->i<=F.length->
  FI (dT F) 1 0 F F.length i ⟨ug,[],F⟩ ((F.take i).map λx=>(x.aV,true)) (dT F) cT mT A B C=some r:=by
 have z:=H.len;intro xs;induction xs with
 |nil=>
  intro i h l;refine Pb ?_
  have:i=F.length:=by have:=oz h;omega
  subst this;rw[dA h,aj,fF];exact q
 |cons x xs w=>intro i h l;refine Pb ?_;have:=w (i+1) (cg h) (iL h);rw[zF h,bw] at this;rw[cN h,ai,bN h,rA,dF h af,Ip (by rw[EG];exact E1 H.nd h)];exact this
theorem WZ {M:List (List UInt8×Bool)} {r} (z:A4 (dT F) 1 1 M (dT F) cT mT A B C=some r):∀(xs:List bR) (i:Nat),F.drop i=xs->
  A5 (dT F) 1 0 F F.length i ⟨ug,[],F⟩ M (dT F) cT mT A B C=some r:=by
 have K:=H.len;intro xs;induction xs with
 |nil=>intro i h;refine LI ?_;rw[dA h];exact z
 |cons x xs G=>
  intro i h;refine LI ?_;have l:x∈F:=aS (dP h);have I:=iL h;have q:f381 ((F.take (Int.toNat (i:Int))).drop 0) x=some false:=by
   rw[bf,List.drop_zero];refine e381 ?_
   have:f384 (F.take i) x=some (tQ (λy=>y.aV==x.aV) (F.take i) 0):=e384 (h384 (by rw[gB];omega) x _ 0 rfl)
   rw[this,aI,NW];congr 1;rw[pV];intro y D w;exact E1 H.nd h (aA.2 ⟨y,D,by simpa using w⟩)
  rw[cN h,ai,bN h,H.txt x l,aI,cond_neg (by rfl),bJ (by simp only;omega),q,aI,aj,H.val x l,xb (v:=0) (by unfold mT;rw[vN,ak rfl]),dF h af];exact G (i+1) (cg h)
theorem u367:f367 (dT F) cT mT [] B C=some (0,mT,sT F,B,C):=by have l:=H.len;refine e367 ?_;refine Pa ?_;rw[tT,ai,qK];refine WY H ?_ F 0 rfl af;refine Pa ?_;rw[Qk,aj,cond_neg (by rw[aR,bM];omega)];refine LH ?_;rw[tT,ai,qK];refine WZ H ?_ F 0 rfl;refine LH ?_;rw[Qk,aj,bJ (by rw[aR];simp;omega),EG];rfl
theorem u109:Ox [0] [0] (dT F) cT mT A B C=some 0:=by
 refine VO (RO ?_);have q:f390 0 0 (dT F) cT mT A B C=some false:=e390 (by rw[t24];rfl);have w:TU [0] 0 (dT F) cT mT A B C=some false:=by
  refine e67a ?_
  have:Oy [0] 0 (dT F) cT mT A B C=some (-1):=by refine VP (LF ?_);rw[tT,ai,qK,q,aI,aj,E9];exact LF (by rw[E8];rfl)
  rw[this];rfl
 have l:f382 0 [0] (dT F) cT mT A B C=some true:=e382 (by rw[w];rfl);rw[tT,ai,qK,l];rfl
theorem u376 {s:List UInt8} (q:s∈F.map (·.aV)):f376 s (dT F) cT mT A B C=some [0]:=by
 have z:=H.len;refine e376 (Pf ?_);have l:Oz F s=some true:=by
  refine VQ ?_
  have:OA F s=some (tQ (λy=>y.aV==s) F 0):=VR (VZ af s F 0 rfl)
  rw[this,aI,NW];congr 1;rw[List.any_eq_true];obtain⟨y,w,e⟩:=aA.1 q;exact⟨y,w,by simpa using e⟩
 rw[tT,ai,qK,l,aI,ai,xb (v:=0) (by unfold mT;rw[vN,ak rfl]),cu _ ah ah af,E9];exact Pf (by rw[E8];rfl)
theorem u368:∀(xs:List (List UInt8)) (i:Nat),(sT F).drop i=xs->i<=(sT F).length->FJ (sT F).length i (dT F) cT mT (sT F) (replicate i 0) C=some (0,mT,sT F,replicate (sT F).length 0,C):=by have z:=H.len;have D:=L3 H;intro xs;induction xs with
 |nil=>
  intro i h l;refine Pc ?_
  have:i=(sT F).length:=by have:=oz h;omega
  subst this;rw[dA h,aj]
 |cons x xs w=>intro i h _;refine Pc ?_;have q:x∈F.map (·.aV):=(KP F).mem_iff.1 (aS (dP h));have l:=iL h;rw[cN h,ai,GV h,GA h,u376 H q,aI,u109 H,aI,cond_neg (by rfl),qK,cu _ aX ah af,dF h af];have:=w (i+1) (cg h) l;rw[nk] at this;exact this
theorem u385 {x:bR} (l:x.Value=ug) {M:List (List UInt8×List Int)} (h:x.aV∉M.map Prod.fst):f385 x (dT F) cT M mT A B C=some ((),M++[(x.aV,[1])]):=by refine e385 ?_;rw[l,t383,aI,Kq (OL h),rA,Ip h]
theorem W5:∀(xs:List bR) (i:Nat),F.drop i=xs->i<=F.length->
  FM 0 (dT F) 1 0 F F.length i ⟨ug,[],F⟩ ((F.take i).map λx=>(x.aV,[1])) (dT F) cT mT A B C=some (F.map λx=>(x.aV,[1])):=by
 have w:=H.len;intro xs;induction xs with
 |nil=>
  intro i h l;refine Ph ?_
  have:i=F.length:=by have:=oz h;omega
  subst this;rw[dA h,aj,fF];exact Pg rfl
 |cons x xs q=>intro i h l;refine Ph ?_;have:=q (i+1) (cg h) (iL h);rw[zF h,bw] at this;rw[cN h,ai,bN h,u385 H (H.val x (aS (dP h))) (by rw[EG];exact E1 H.nd h),Bo,dF h af];exact this
theorem u377:f377 0 (dT F) cT mT A B C=some (F.map λx=>(x.aV,[1])):=by refine e377 (Pg ?_);rw[tT,ai,qK];rw[qK,t383,aI,t63,aI,ai];exact W5 H F 0 rfl af
def QM (n:Nat):List dB:=(List.range n).map λ(k:Nat)=>⟨k,0⟩
theorem W4:∀(xs:List (List UInt8)) (i:Nat),(sT F).drop i=xs->i<=(sT F).length->
  Cw (F.map λx=>(x.aV,[1])) 1 0 (sT F).length i (QM i) (dT F) cT mT (sT F) B []=some (0,mT,sT F,B,[QM F.length]):=by
 have D:=H.len;have q:=L3 H;intro xs;induction xs with
 |nil=>
  intro i h l;refine Pe ?_
  have:i=(sT F).length:=by have:=oz h;omega
  subst this;rw[dA h,aj,bJ ah,q];exact Pd rfl
 |cons x xs z=>intro i h _;refine Pe ?_;have w:x∈F.map (·.aV):=(KP F).mem_iff.1 (aS (dP h));have l:=iL h;have:=z (i+1) (cg h) l;unfold QM at this;rw[nq,bw] at this;rw[cN h,ai,GV h,GA h,xb (v:=[1]) (by rw[OK,ak w]),t18,aI,cond_neg (by rfl),cu _ (by simp[QM];omega) ah af,dF h af];exact this
theorem u369:f369 (dT F) cT mT (sT F) B []=some (0,mT,sT F,B,[QM F.length]):=by refine e369 (Pd ?_);rw[tT,ai,u377 H,aI];exact W4 H (sT F) 0 rfl af
def WW (F:List bR):table:=⟨dT F,cT,mT,sT F,replicate F.length 0,[QM F.length]⟩
theorem WX:f344 (dT F)=some (some (WW F),0):=by refine e344 ?_;rw[H.cod,aI,cond_neg (by rfl)];refine O9 ?_;have l:f368 (dT F) cT mT (sT F) [] []=some (0,mT,sT F,replicate F.length 0,[]):=e368 (by rw[<-L3 H];exact u368 H (sT F) 0 rfl af);rw[tT,ai,qK,t366,aI,rA,Iq,E9];refine O9 ?_;rw[E8,aj];show zT (f367 (dT F) cT mT [] [] []) _=_;rw[u367 H,od,cond_neg (by rfl),l,od,cond_neg (by rfl),u369 H,od];rfl
theorem u319:f319 (dT F)=some ((sT F).map λs=>⟨s,0⟩,0):=by
 have w:=H.len;have z:=L3 H;refine e319 ?_;rw[WX H,aI,cond_neg (by rfl)];have key:∀(xs:List (List UInt8)) (i:Nat),(sT F).drop i=xs->i<=(sT F).length->FF (some (WW F)) (sT F) (sT F).length i (((sT F).take i).map λs=>⟨s,0⟩)=some ((sT F).map λs=>⟨s,0⟩,0):=by intro xs;induction xs with
  |nil=>
   intro i h l;refine O8 ?_
   have:i=(sT F).length:=by have:=oz h;omega
   subst this;rw[dA h,aj,fF]
  |cons x xs q=>intro i h _;refine O8 ?_;have l:=iL h;have:=q (i+1) (cg h) l;rw[zF h,bw] at this;rw[cN h,ai,bN h];show bF (replicate F.length 0) i _=_;rw[ff (x:=0) (by rw[ja,ak af]),cu _ aX ah af,dF h af];exact this
 exact key _ 0 rfl af
theorem u331:f331 (dT F)=some (⟨[⟨ug,[1],[],QM F.length⟩],(sT F).map λs=>⟨s,0⟩⟩,0):=by refine e331 ?_;have l:f322 (dT F)=some ([QM F.length],0):=e322 (by rw[WX H,aI,cond_neg (by rfl)];rfl);rw[u319 H,aI,cond_neg (by rfl),l,aI,cond_neg (by rfl),H.cod,aI,cond_neg (by rfl)];refine LG ?_;rw[tT,ai,qK,t27,aI,qK,cu _ ah ah af,E9];exact LG rfl
end
noncomputable def TF (a n:Nat):Bool:=jA (λ_ _ _=>none) 86 ((List.range n).map λk=>([.c4 3 (List.map cZ.enc (dT (MF (a+k))))],Q13 (cT,0)))
def k86a:TF 0 33=true:=by kernel_rfl
def k86b:TF 33 32=true:=by kernel_rfl
def Og {a n:Nat} (h:TF a n=true) {k:Nat} (l:k<n):f14 (dT (MF (a+k)))=some (cT,0):=
 gD (E:=EN Q13) (j6 E7 h _ (aA.2 ⟨k,fC.2 l,rfl⟩))
def WG:((List.range 64).map WE).Nodup:=by decide+kernel
def VW {n:Nat} (w:n<=64):FT (MF n):=by
 refine⟨by simp[MF];omega,?_,λx l=> ?_,λx l=> ?_,?_⟩
 .have:(MF n).map (·.aV)=((List.range 64).map WE).take n:=by
   rw[<-List.map_take,List.take_range,zQ w,MF,dw];rfl
  rw[this];exact WG.sublist (List.take_sublist _ _)
 .obtain⟨k,_,rfl⟩:=aA.1 l;rfl
 .obtain⟨k,q,rfl⟩:=aA.1 l;exact t380 (by have:=fC.1 q;omega)
 .by_cases h:n<33
  .have:=Og k86a h;rwa[fW] at this
  .have:=Og k86b (k:=n-33) af;rwa[show 33+(n-33)=n from by omega] at this
def c459 {k:Nat} (h:k<100):f459 (k:Int)=some (G1 k):=by refine gD (E:=EN Q20) ?_;refine mR ?_;have l:Nat.blt k 100=true:=gp h;show(bif Nat.blt k 100 then _ else _)=_;rw[l];rfl
section
variable (A:List dB) (F:List dg)
theorem t335:f335 ⟨[⟨ug,[1],[],A⟩],F⟩ 0 0=some (0,true):=gD (E:=EN Q19) (mz.2 ⟨200,by kernel_rfl⟩)
theorem t336:f336 ⟨[⟨ug,[1],[],A⟩],F⟩ 0 0=some (0,true):=gD (E:=EN Q19) (mz.2 ⟨200,by kernel_rfl⟩)
end
def U0:NQ:=λn D=>by
 have H:=VW D;refine⟨⟨[⟨ug,[1],[],QM (MF n).length⟩],(sT (MF n)).map λs=>⟨s,0⟩⟩,e428 ?_,⟨⟨λh=> ?_,λh=> ?_,λh q=> ?_,λh q=> ?_,λh q=> ?_,λh q=> ?_⟩,λa b I K L N=> ?_⟩⟩
 .have key:∀(k i:Nat) (w:dr) (a:List bR) (b:List (List UInt8)),n=i+k->F4 (n:Int) (i:Int) w ug b a [] (MF i)=some ⟨[⟨ug,[1],[],QM (MF n).length⟩],(sT (MF n)).map λs=>⟨s,0⟩⟩:=by
   intro k;induction k with
   |zero=>intro i w a b z;have e:i=n:=af;subst e;refine Px ?_;rw[cond_neg (by rw[bM];omega),u331 H,aI]
   |succ k G=>
    intro i w a b z;refine Px ?_;have l:f447 (i:Int)=some (G1 i):=e447 (by rw[c459 af,aI]);have O:(G1 i).length<=2:=by unfold G1;cases Nat.blt i 10<;>simp
    rw[cond_pos (by rw[bG];omega),l,aI,bJ aX,cu _ (by simp[MF];omega) ah af,cQ af];have:=G (i+1) w a b af;unfold MF at this;rw[nq,bw] at this;exact this
  exact key n 0 _ _ _ af
 .obtain⟨rfl,_⟩:=h;omega
 .obtain⟨_,rfl⟩:=h;omega
 .exact⟨af,af⟩
 .exact⟨h.1,q.2⟩
 .rw[h.1,q.1]
 .exact⟨rfl,af⟩
 .obtain rfl:a=0:=by omega
  obtain rfl:b=0:=by omega
  exact .inl ⟨0,t335 _ _,t336 _ _,⟨rfl,rfl⟩,⟨rfl,rfl⟩,λc h _=>h⟩
