/- The hierarchy of one type with features. -/
import Derived.Test.YthppjmoncapdfaaGreatDoorClEa
import Derived.Test.YthppjmoncapdfaaGreatDoorClSh
import Derived.Test.YthppjmoncapdfaaGreatDoorClXs
import Derived.KernelRfl
set_option linter.all false
set_option maxRecDepth 100000
open List (replicate)
namespace Go.Proofs.YthppjmoncapdfaaGreatDoor.cl.pf
open Go Go.AM
def nmT (k:Nat):List UInt8:=70::P9 k
def yT:List UInt8:=[116,111,112]
def XX (n:Nat):List bT:=(List.range n).map λk=>⟨nmT k,yT⟩
def RK {K V:Type} {l:List (K×V)} {k:K} {v:V} (h:k∉l.map Prod.fst):wE l k v=l++[(k,v)]:=by induction l with
 |nil=>rw[Jn];rfl
 |cons x l q=>rw[aS,aG,jW] at h;rw[LN,au h.1,q h.2];rfl
open Classical in
def aat {α K V:Type} {l:List α} {f:α->K} {v:V} {k:K}:getM (l.map λx=>(f x,v)) k=if k∈l.map f then some v else none:=by induction l with
 |nil=>exact Iy _
 |cons x l q=>
  rw[aS,pe];by_cases h:k=f x
  .rw[az h,az (by simp[h])]
  .rw[au h,q,aS];simp only[aG,h,false_or]
section
variable {α R:Type}
def yH (x:α):decide ((0:Int)<([x].length:Int))=true:=by simp
def Nz (x:α):decide ((1:Int)<([x].length:Int))=false:=by simp
def ve (x:α) (k:α->Option R):aW [x] 0 k=k x:=by simp[aW]
def acZ:decide ((1:Int)<1)=false:=rfl
def NA:IntKind.wrap .i64 (0+1)=1:=by decide
end
def aau {K V:Type} {l:List (K×V)} {k:K} (h:k∉l.map Prod.fst):getM l k=none:=by induction l with
 |nil=>exact Iy _
 |cons x l q=>rw[aS,aG,jW] at h;rw[pe,au h.1,q h.2]
abbrev cT:List dY:=[⟨yT,[1]⟩]
def mT:List (List UInt8×Int):=[(yT,0)]
def t366 (F:List bT):f366 cT ⟨yT,[],F⟩=some 0:=iV (E:=EN Q5) (qg.2 ⟨200,by kernel_rfl⟩)
def t27:f27 cT 0=some []:=iV (E:=EN Q15) (qg.2 ⟨200,by kernel_rfl⟩)
def t18:f18 cT [1]=some 0:=iV (E:=EN Q5) (qg.2 ⟨200,by kernel_rfl⟩)
def t63:f63 [1] [1]=some true:=iV (E:=EN Q0) (qg.2 ⟨200,by kernel_rfl⟩)
section
variable (F:List bT) (A:List (List UInt8)) (B:List Int) (C:List (List dc))
theorem t383:f383 yT [⟨yT,[],F⟩] cT mT A B C=some [1]:=iV (E:=E383r _ _ _ _ _ _) (qg.2 ⟨200,by kernel_rfl⟩)
end
def k221:lS (λ_ _ _=>none) 221 ((List.range 64).map λk=>([.str (nmT k)], .bool true))=true:=by kernel_rfl
def t380 {k:Nat} (h:k<64):f380 (nmT k)=some true:=
 iV (E:=EN Q0) (mZ Ny k221 _ (aD.2 ⟨k,eM.2 h,rfl⟩))
def t24:f24 cT 0 0=some true:=iV (E:=EN Q0) (qg.2 ⟨200,by kernel_rfl⟩)
structure FT (F:List bT):Prop where
 len:F.length<=64
 nd:(F.map (·.aT)).Nodup
 val:∀x∈F,x.Value=yT
 txt:∀x∈F,f380 x.aT=some true
 cod:f14 [⟨yT,[],F⟩]=some (cT,0)
def sT (F:List bT):List (List UInt8):=lD Op.bytesLess (F.map (·.aT))
abbrev dT (F:List bT):List aB:=[⟨yT,[],F⟩]
def ML {F:List bT} {V:Type} (v:V):(F.map λx=>(x.aT,v)).map Prod.fst=F.map (·.aT):=by rw[eV];rfl
def Nt {F:List bT} (h:(F.map (·.aT)).Nodup) {x:bT} {xs:List bT} {i:Nat} (e:F.drop i=x::xs):x.aT∉(F.take i).map (·.aT):=by rw[<-jq i F,bM,e,aS] at h;have:=gW.1 h;intro l;exact this.2.2 _ l _ (qS ..) rfl
def Fp {α:Type} {l:List α} {i:Nat} {x:α} {xs:List α} (e:l.drop i=x::xs):l.take (i+1)=l.take i++[x]:=by rw[cr,bA e];rfl
def aaI (x:List UInt8) (l:List (List UInt8)):(p7 Op.bytesLess x l).Perm (x::l):=by induction l with
 |nil=>exact .refl _
 |cons y l q=>
  unfold p7;split
  .exact .refl _
  .exact(q.cons y).trans (.swap x y l)
def UZ (F:List bT):(sT F).Perm (F.map (·.aT)):=by
 have key:∀(l E:List (List UInt8)),(l.foldl (λout x=>p7 Op.bytesLess x out) E).Perm (E++l):=by intro l;induction l with
  |nil=>intro E;simp
  |cons p l q=>exact λE=>(q _).trans (((aaI p E).append_right l).trans (xY (a:=p) (l₁:=E) (l₂:=l)).symm)
 exact key _ []
section
variable {F:List bT} (H:FT F) {A:List (List UInt8)} {B:List Int} {C:List (List dc)}
include H
theorem WV:(sT F).length=F.length:=by rw[(UZ F).length_eq,aV]
theorem u367a {r} (q:Ow (dT F) 1 1 (F.map λx=>(x.aT,true)) (dT F) cT mT A B C=some r):∀(xs:List bT) (i:Nat),F.drop i=xs->i<=F.length->
  Ox (dT F) 1 0 F F.length i ⟨yT,[],F⟩ ((F.take i).map λx=>(x.aT,true)) (dT F) cT mT A B C=some r:=by
 have z:=H.len;intro xs;induction xs with
 |nil=>
  intro i h l;refine abm ?_
  have:i=F.length:=by have:=iq h;omega
  subst this;rw[bq h,aA,fC];exact q
 |cons x xs w=>intro i h l;refine abm ?_;have:=w (i+1) (aH h) (c9 h);rw[Fp h,bM] at this;rw[bf h,ai,aQ h,sG,aX h af,RK (by rw[ML];exact Nt H.nd h)];exact this
theorem u367b {M:List (List UInt8×Bool)} {r} (z:Hh (dT F) 1 1 M (dT F) cT mT A B C=some r):∀(xs:List bT) (i:Nat),F.drop i=xs->
  Hi (dT F) 1 0 F F.length i ⟨yT,[],F⟩ M (dT F) cT mT A B C=some r:=by
 have K:=H.len;intro xs;induction xs with
 |nil=>intro i h;refine Wh ?_;rw[bq h];exact z
 |cons x xs G=>
  intro i h;refine Wh ?_;have l:x∈F:=aI (bA h);have I:=c9 h;have q:f381 ((F.take (Int.toNat (i:Int))).drop 0) x=some false:=by
   rw[aR,uf];refine e381 ?_
   have:f384 (F.take i) x=some (gK (λy=>y.aT==x.aT) (F.take i) 0):=e384 (h384 (by rw[fI];omega) x _ 0 rfl)
   rw[this,ak,Zq];congr 1;rw[qL];intro y D w;exact Nt H.nd h (aD.2 ⟨y,D,by simpa using w⟩)
  rw[bf h,ai,aQ h,H.txt x l,ak,cond_neg (by rfl),bh (by simp only;omega),q,ak,aA,H.val x l,uY (v:=0) (by unfold mT;rw[pe,az rfl]),aX h af];exact G (i+1) (aH h)
theorem u367:f367 (dT F) cT mT [] B C=some (0,mT,sT F,B,C):=by have l:=H.len;refine e367 ?_;refine abl ?_;rw[yH,ai,ve];refine u367a H ?_ F 0 rfl af;refine abl ?_;rw[acZ,aA,cond_neg (by rw[aV,bP];omega)];refine Wg ?_;rw[yH,ai,ve];refine u367b H ?_ F 0 rfl;refine Wg ?_;rw[acZ,aA,bh (by rw[aV];simp;omega),ML];rfl
theorem u109:aaa [0] [0] (dT F) cT mT A B C=some 0:=by
 refine e109a (k109_2a ?_);have q:f390 0 0 (dT F) cT mT A B C=some false:=e390 (by rw[t24];rfl);have w:f67a [0] 0 (dT F) cT mT A B C=some false:=by
  refine e67a ?_
  have:aab [0] 0 (dT F) cT mT A B C=some (-1):=by refine e109b (V6 ?_);rw[yH,ai,ve,q,ak,aA,NA];exact V6 (by rw[Nz];rfl)
  rw[this];rfl
 have l:f382 0 [0] (dT F) cT mT A B C=some true:=e382 (by rw[w];rfl);rw[yH,ai,ve,l];rfl
theorem u376 {s:List UInt8} (q:s∈F.map (·.aT)):f376 s (dT F) cT mT A B C=some [0]:=by
 have z:=H.len;refine e376 (abt ?_);have l:aac F s=some true:=by
  refine e381a ?_
  have:aad F s=some (gK (λy=>y.aT==s) F 0):=e384a (h384a af s F 0 rfl)
  rw[this,ak,Zq];congr 1;rw[mQ];obtain⟨y,w,e⟩:=aD.1 q;exact⟨y,w,by simpa using e⟩
 rw[yH,ai,ve,l,ak,ai,uY (v:=0) (by unfold mT;rw[pe,az rfl]),bU _ ah ah af,NA];exact abt (by rw[Nz];rfl)
theorem u368:∀(xs:List (List UInt8)) (i:Nat),(sT F).drop i=xs->i<=(sT F).length->Oy (sT F).length i (dT F) cT mT (sT F) (replicate i 0) C=some (0,mT,sT F,replicate (sT F).length 0,C):=by have z:=H.len;have D:=WV H;intro xs;induction xs with
 |nil=>
  intro i h l;refine abn ?_
  have:i=(sT F).length:=by have:=iq h;omega
  subst this;rw[bq h,aA]
 |cons x xs w=>intro i h _;refine abn ?_;have q:x∈F.map (·.aT):=(UZ F).mem_iff.1 (aI (bA h));have l:=c9 h;rw[bf h,ai,s5 h,sY h,u376 H q,ak,u109 H,ak,cond_neg (by rfl),ve,bU _ aF ah af,aX h af];have:=w (i+1) (aH h) l;rw[mY] at this;exact this
theorem u385 {x:bT} (l:x.Value=yT) {M:List (List UInt8×List Int)} (h:x.aT∉M.map Prod.fst):f385 x (dT F) cT M mT A B C=some ((),M++[(x.aT,[1])]):=by refine e385 ?_;rw[l,t383,ak,Cb (aau h),sG,RK h]
theorem u377a:∀(xs:List bT) (i:Nat),F.drop i=xs->i<=F.length->
  OB 0 (dT F) 1 0 F F.length i ⟨yT,[],F⟩ ((F.take i).map λx=>(x.aT,[1])) (dT F) cT mT A B C=some (F.map λx=>(x.aT,[1])):=by
 have w:=H.len;intro xs;induction xs with
 |nil=>
  intro i h l;refine abv ?_
  have:i=F.length:=by have:=iq h;omega
  subst this;rw[bq h,aA,fC];exact abu rfl
 |cons x xs q=>intro i h l;refine abv ?_;have:=q (i+1) (aH h) (c9 h);rw[Fp h,bM] at this;rw[bf h,ai,aQ h,u385 H (H.val x (aI (bA h))) (by rw[ML];exact Nt H.nd h),r6,aX h af];exact this
theorem u377:f377 0 (dT F) cT mT A B C=some (F.map λx=>(x.aT,[1])):=by refine e377 (abu ?_);rw[yH,ai,ve];rw[ve,t383,ak,t63,ak,ai];exact u377a H F 0 rfl af
def apT (n:Nat):List dc:=(List.range n).map λ(k:Nat)=>⟨k,0⟩
theorem u369a:∀(xs:List (List UInt8)) (i:Nat),(sT F).drop i=xs->i<=(sT F).length->
  JW (F.map λx=>(x.aT,[1])) 1 0 (sT F).length i (apT i) (dT F) cT mT (sT F) B []=some (0,mT,sT F,B,[apT F.length]):=by
 have D:=H.len;have q:=WV H;intro xs;induction xs with
 |nil=>
  intro i h l;refine abp ?_
  have:i=(sT F).length:=by have:=iq h;omega
  subst this;rw[bq h,aA,bh ah,q];exact abo rfl
 |cons x xs z=>intro i h _;refine abp ?_;have w:x∈F.map (·.aT):=(UZ F).mem_iff.1 (aI (bA h));have l:=c9 h;have:=z (i+1) (aH h) l;unfold apT at this;rw[iP,bM] at this;rw[bf h,ai,s5 h,sY h,uY (v:=[1]) (by rw[aat,az w]),t18,ak,cond_neg (by rfl),bU _ (by simp[apT];omega) ah af,aX h af];exact this
theorem u369:f369 (dT F) cT mT (sT F) B []=some (0,mT,sT F,B,[apT F.length]):=by refine e369 (abo ?_);rw[yH,ai,u377 H,ak];exact u369a H (sT F) 0 rfl af
def tabT (F:List bT):table:=⟨dT F,cT,mT,sT F,replicate F.length 0,[apT F.length]⟩
theorem u344:f344 (dT F)=some (some (tabT F),0):=by refine e344 ?_;rw[H.cod,ak,cond_neg (by rfl)];refine aba ?_;have l:f368 (dT F) cT mT (sT F) [] []=some (0,mT,sT F,replicate F.length 0,[]):=e368 (by rw[<-WV H];exact u368 H (sT F) 0 rfl af);rw[yH,ai,ve,t366,ak,sG,Jn,NA];refine aba ?_;rw[Nz,aA];show FG (f367 (dT F) cT mT [] [] []) _=_;rw[u367 H,r7,cond_neg (by rfl),l,r7,cond_neg (by rfl),u369 H,r7];rfl
theorem u319:f319 (dT F)=some ((sT F).map λs=>⟨s,0⟩,0):=by
 have w:=H.len;have z:=WV H;refine e319 ?_;rw[u344 H,ak,cond_neg (by rfl)];have key:∀(xs:List (List UInt8)) (i:Nat),(sT F).drop i=xs->i<=(sT F).length->Oh (some (tabT F)) (sT F) (sT F).length i (((sT F).take i).map λs=>⟨s,0⟩)=some ((sT F).map λs=>⟨s,0⟩,0):=by intro xs;induction xs with
  |nil=>
   intro i h l;refine aa5 ?_
   have:i=(sT F).length:=by have:=iq h;omega
   subst this;rw[bq h,aA,fC]
  |cons x xs q=>intro i h _;refine aa5 ?_;have l:=c9 h;have:=q (i+1) (aH h) l;rw[Fp h,bM] at this;rw[bf h,ai,aQ h];show aW (replicate F.length 0) i _=_;rw[ey (x:=0) (by rw[jr,az af]),bU _ aF ah af,aX h af];exact this
 exact key _ 0 rfl af
theorem u331:f331 (dT F)=some (⟨[⟨yT,[1],[],apT F.length⟩],(sT F).map λs=>⟨s,0⟩⟩,0):=by refine e331 ?_;have l:f322 (dT F)=some ([apT F.length],0):=e322 (by rw[u344 H,ak,cond_neg (by rfl)];rfl);rw[u319 H,ak,cond_neg (by rfl),l,ak,cond_neg (by rfl),H.cod,ak,cond_neg (by rfl)];refine We ?_;rw[yH,ai,ve,t27,ak,ve,bU _ ah ah af,NA];exact We rfl
end
noncomputable def ck86 (a n:Nat):Bool:=lS (λ_ _ _=>none) 86 ((List.range n).map λk=>([.dK 3 (List.map aB.enc (dT (XX (a+k))))],Q13 (cT,0)))
def k86a:ck86 0 33=true:=by kernel_rfl
def k86b:ck86 33 32=true:=by kernel_rfl
def ZO {a n:Nat} (h:ck86 a n=true) {k:Nat} (l:k<n):f14 (dT (XX (a+k)))=some (cT,0):=
 iV (E:=EN Q13) (mZ Ny h _ (aD.2 ⟨k,eM.2 l,rfl⟩))
def nm_nd:((List.range 64).map nmT).Nodup:=by decide+kernel
def ft_ok {n:Nat} (w:n<=64):FT (XX n):=by
 refine⟨by simp[XX];omega,?_,λx l=> ?_,λx l=> ?_,?_⟩
 .have:(XX n).map (·.aT)=((List.range 64).map nmT).take n:=by
   rw[<-List.map_take,List.take_range,zJ w,XX,eV];rfl
  rw[this];exact nm_nd.sublist (List.take_sublist _ _)
 .obtain⟨k,_,rfl⟩:=aD.1 l;rfl
 .obtain⟨k,q,rfl⟩:=aD.1 l;exact t380 (by have:=eM.1 q;omega)
 .by_cases h:n<33
  .have:=ZO k86a h;rwa[gy] at this
  .have:=ZO k86b (k:=n-33) af;rwa[show 33+(n-33)=n from by omega] at this
def c459 {k:Nat} (h:k<100):f459 (k:Int)=some (P9 k):=by refine iV (E:=EN Q20) ?_;refine mL ?_;have l:Nat.blt k 100=true:=ij h;show(bif Nat.blt k 100 then _ else _)=_;rw[l];rfl
section
variable (A:List dc) (F:List c8)
theorem t335:f335 ⟨[⟨yT,[1],[],A⟩],F⟩ 0 0=some (0,true):=iV (E:=EN Q19) (qg.2 ⟨200,by kernel_rfl⟩)
theorem t336:f336 ⟨[⟨yT,[1],[],A⟩],F⟩ 0 0=some (0,true):=iV (E:=EN Q19) (qg.2 ⟨200,by kernel_rfl⟩)
end
def Kr:Vq:=λn D=>by
 have H:=ft_ok D;refine⟨⟨[⟨yT,[1],[],apT (XX n).length⟩],(sT (XX n)).map λs=>⟨s,0⟩⟩,e428 ?_,⟨⟨λh=> ?_,λh=> ?_,λh q=> ?_,λh q=> ?_,λh q=> ?_,λh q=> ?_⟩,λa b I K L N=> ?_⟩⟩
 .have key:∀(k i:Nat) (w:bR) (a:List bT) (b:List (List UInt8)),n=i+k->OX (n:Int) (i:Int) w yT b a [] (XX i)=some ⟨[⟨yT,[1],[],apT (XX n).length⟩],(sT (XX n)).map λs=>⟨s,0⟩⟩:=by
   intro k;induction k with
   |zero=>intro i w a b z;have e:i=n:=af;subst e;refine abS ?_;rw[cond_neg (by rw[bP];omega),u331 H,ak]
   |succ k G=>
    intro i w a b z;refine abS ?_;have l:f447 (i:Int)=some (P9 i):=e447 (by rw[c459 af,ak]);have O:(P9 i).length<=2:=by unfold P9;cases Nat.blt i 10<;>simp
    rw[cond_pos (by rw[bH];omega),l,ak,bh aF,bU _ (by simp[XX];omega) ah af,bp af];have:=G (i+1) w a b af;unfold XX at this;rw[iP,bM] at this;exact this
  exact key n 0 _ _ _ af
 .obtain⟨rfl,_⟩:=h;omega
 .obtain⟨_,rfl⟩:=h;omega
 .exact⟨af,af⟩
 .exact⟨h.1,q.2⟩
 .rw[h.1,q.1]
 .exact⟨rfl,af⟩
 .obtain rfl:a=0:=by omega
  obtain rfl:b=0:=by omega
  exact .inl ⟨0,t335 _ _,t336 _ _,⟨rfl,rfl⟩,⟨rfl,rfl⟩,λc h _=>h⟩
