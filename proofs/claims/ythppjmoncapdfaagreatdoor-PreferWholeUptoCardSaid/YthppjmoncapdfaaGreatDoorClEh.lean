/- The hierarchy of one type with features. -/
import Derived.Test.YthppjmoncapdfaaGreatDoorClEa
import Derived.Test.YthppjmoncapdfaaGreatDoorClSh
import Derived.Test.YthppjmoncapdfaaGreatDoorClXv
import Derived.KernelRfl
set_option maxRecDepth 100000
set_option linter.all false
open List (replicate)
namespace Go.Proofs.YthppjmoncapdfaaGreatDoor.cl.pf
open Go Go.AM
def nmT (k:Nat):List UInt8:=70::PN k
def y6:List UInt8:=[116,111,112]
def XD (n:Nat):List bQ:=(List.range n).map fun k=>⟨nmT k,y6⟩
theorem Rs {K V:Type} {l:List (K×V)} {k:K} {v:V} (h:k∉l.map Prod.fst):Ed l k v=l++[(k,v)]:=by
 induction l with
 |nil=>rw [Rt];rfl
 |cons x l ih=>
  rw [aP,aD,jx] at h;rw [Yp,ak h.1,ih h.2];rfl
open Classical in
theorem aab {α K V:Type} {l:List α} {f:α→K} {v:V} {k:K}:getM (l.map fun x=>(f x,v)) k=if k∈l.map f then some v else none:=by
 induction l with
 |nil=>exact Qh _
 |cons x l ih=>
  rw [aP,A8];by_cases h:k=f x
  ·rw [au h,au (by simp [h])]
  ·rw [ak h,ih,aP]
   simp only [aD,h,false_or]
section
variable {α R:Type}
theorem yO (x:α):decide ((0:Int)<([x].length:Int))=true:=by simp
theorem Nu (x:α):decide ((1:Int)<([x].length:Int))=false:=by simp
theorem vn (x:α) (k:α→Option R):bw [x] 0 k=k x:=by simp [bw]
theorem acg:decide ((1:Int)<1)=false:=rfl
theorem Nv:IntKind.wrap .i64 (0+1)=1:=by decide
end
theorem aac {K V:Type} {l:List (K×V)} {k:K} (h:k∉l.map Prod.fst):getM l k=none:=by
 induction l with
 |nil=>exact Qh _
 |cons x l ih=>
  rw [aP,aD,jx] at h;rw [A8,ak h.1,ih h.2]
abbrev cT:List dR:=[⟨y6,[1]⟩]
def mT:List (List UInt8×Int):=[(y6,0)]
theorem t366 (F:List bQ):f366 cT ⟨y6,[],F⟩=some 0:=jM (E:=EN Q5) (qD.2 ⟨200,by kernel_rfl⟩)
theorem t27:f27 cT 0=some []:=jM (E:=EN Q15) (qD.2 ⟨200,by kernel_rfl⟩)
theorem t18:f18 cT [1]=some 0:=jM (E:=EN Q5) (qD.2 ⟨200,by kernel_rfl⟩)
theorem t63:f63 [1] [1]=some true:=jM (E:=EN Q0) (qD.2 ⟨200,by kernel_rfl⟩)
section
variable (F:List bQ) (A:List (List UInt8)) (B:List Int) (C:List (List dg))
theorem t383:f383 y6 [⟨y6,[],F⟩] cT mT A B C=some [1]:=jM (E:=E383r _ _ _ _ _ _) (qD.2 ⟨200,by kernel_rfl⟩)
end
theorem k221:mw (fun _ _ _=>none) 221 ((List.range 64).map fun k=>([.str (nmT k)], .bool true))=true:=by kernel_rfl
theorem t380 {k:Nat} (h:k<64):f380 (nmT k)=some true:=
 jM (E:=EN Q0) (nD Nt k221 _ (aB.2 ⟨k,eT.2 h,rfl⟩))
theorem t24:f24 cT 0 0=some true:=jM (E:=EN Q0) (qD.2 ⟨200,by kernel_rfl⟩)
structure FT (F:List bQ):Prop where
 len:F.length≤64
 nd:(F.map (·.aY)).Nodup
 val:∀x∈F,x.Value=y6
 txt:∀x∈F,f380 x.aY=some true
 cod:f14 [⟨y6,[],F⟩]=some (cT,0)
def sT (F:List bQ):List (List UInt8):=mz Op.bytesLess (F.map (·.aY))
abbrev dT (F:List bQ):List aq:=[⟨y6,[],F⟩]
theorem MH {F:List bQ} {V:Type} (v:V):(F.map fun x=>(x.aY,v)).map Prod.fst=F.map (·.aY):=by rw [eO];rfl
theorem Nn {F:List bQ} (h:(F.map (·.aY)).Nodup) {x:bQ} {xs:List bQ} {i:Nat} (e:F.drop i=x::xs):x.aY∉(F.take i).map (·.aY):=by
 rw [←kj i F,bT,e,aP] at h;have:=jq.1 h;intro hx;exact this.2.2 _ hx _ (nv ..) rfl
theorem FB {α:Type} {l:List α} {i:Nat} {x:α} {xs:List α} (e:l.drop i=x::xs):l.take (i+1)=l.take i++[x]:=by
 rw [c8,b9 e];rfl
theorem aat (x:List UInt8) (l:List (List UInt8)):(qV Op.bytesLess x l).Perm (x::l):=by
 induction l with
 |nil=>exact .refl _
 |cons y l ih=>
  unfold qV;split
  ·exact .refl _
  ·exact (ih.cons y).trans (.swap x y l)
theorem UA (F:List bQ):(sT F).Perm (F.map (·.aY)):=by
 have key:∀(l E:List (List UInt8)),(l.foldl (fun out x=>qV Op.bytesLess x out) E).Perm (E++l):=by
  intro l
  induction l with
  |nil=>intro E;simp
  |cons p l ih=>exact fun E=>(ih _).trans (((aat p E).append_right l).trans (ya (a:=p) (l₁:=E) (l₂:=l)).symm)
 exact key _ []
section
variable {F:List bQ} (H:FT F) {A:List (List UInt8)} {B:List Int} {C:List (List dg)}
include H
theorem Wt:(sT F).length=F.length:=by rw [(UA F).length_eq,aW]
theorem u367a {r} (hr:Oq (dT F) 1 1 (F.map fun x=>(x.aY,true)) (dT F) cT mT A B C=some r):∀(xs:List bQ) (i:Nat),F.drop i=xs→i≤F.length→
  Ot (dT F) 1 0 F F.length i ⟨y6,[],F⟩ ((F.take i).map fun x=>(x.aY,true)) (dT F) cT mT A B C=some r:=by
 have hl:=H.len;intro xs
 induction xs with
 |nil=>
  intro i h hi;refine aa7 ?_;have:i=F.length:=by have:=jU h;omega
  subst this;rw [bI h,aj,gw];exact hr
 |cons x xs ih=>
  intro i h hi;refine aa7 ?_;have:=ih (i+1) (aN h) (eo h);rw [FB h,bT] at this;rw [bH h,ai,aX h,vS,bJ h (by omega),Rs (by rw [MH];exact Nn H.nd h)];exact this
theorem u367b {M:List (List UInt8×Bool)} {r} (hr:HE (dT F) 1 1 M (dT F) cT mT A B C=some r):∀(xs:List bQ) (i:Nat),F.drop i=xs→
  HF (dT F) 1 0 F F.length i ⟨y6,[],F⟩ M (dT F) cT mT A B C=some r:=by
 have hl:=H.len;intro xs
 induction xs with
 |nil=>
  intro i h;refine VR ?_;rw [bI h];exact hr
 |cons x xs ih=>
  intro i h;refine VR ?_;have hx:x∈F:=aT (b9 h);have hi:=eo h;have hc:f381 ((F.take (Int.toNat (i:Int))).drop 0) x=some false:=by
   rw [aR,yd];refine e381 ?_;have:f384 (F.take i) x=some (gP (fun y=>y.aY==x.aY) (F.take i) 0):=e384 (h384 (by rw [gD];omega) x _ 0 rfl);rw [this,aA,Zd]
   congr 1
   rw [qZ];intro y hy he;exact Nn H.nd h (aB.2 ⟨y,hy,by simpa using he⟩)
  rw [bH h,ai,aX h,H.txt x hx,aA,cond_neg (by rfl),bp (by simp only;omega),hc,aA,aj,H.val x hx,Co (v:=0) (by unfold mT;rw [A8,au rfl]),bJ h (by omega)];exact ih (i+1) (aN h)
theorem u367:f367 (dT F) cT mT [] B C=some (0,mT,sT F,B,C):=by
 have hl:=H.len;refine e367 ?_;refine aa6 ?_;rw [yO,ai,vn];refine u367a H ?_ F 0 rfl (by omega);refine aa6 ?_;rw [acg,aj,cond_neg (by rw [aW,bA];omega)];refine VQ ?_;rw [yO,ai,vn];refine u367b H ?_ F 0 rfl;refine VQ ?_;rw [acg,aj,bp (by rw [aW];simp;omega),MH];rfl
theorem u109:ZT [0] [0] (dT F) cT mT A B C=some 0:=by
 refine e109a (k109_2a ?_);have h390:f390 0 0 (dT F) cT mT A B C=some false:=e390 (by rw [t24];rfl);have h67:f67a [0] 0 (dT F) cT mT A B C=some false:=by
  refine e67a ?_;have:ZU [0] 0 (dT F) cT mT A B C=some (-1):=by
   refine e109b (VI ?_);rw [yO,ai,vn,h390,aA,aj,Nv];exact VI (by rw [Nu];rfl)
  rw [this];rfl
 have h382:f382 0 [0] (dT F) cT mT A B C=some true:=e382 (by rw [h67];rfl);rw [yO,ai,vn,h382];rfl
theorem u376 {s:List UInt8} (hs:s∈F.map (·.aY)):f376 s (dT F) cT mT A B C=some [0]:=by
 have hl:=H.len;refine e376 (abd ?_);have hc:ZV F s=some true:=by
  refine e381a ?_;have:ZW F s=some (gP (fun y=>y.aY==s) F 0):=e384a (h384a (by omega) s F 0 rfl);rw [this,aA,Zd]
  congr 1
  rw [j9];obtain ⟨y,hy,e⟩:=aB.1 hs;exact ⟨y,hy,by simpa using e⟩
 rw [yO,ai,vn,hc,aA,ai,Co (v:=0) (by unfold mT;rw [A8,au rfl]),cz _ (by simp) (by simp) (by omega),Nv];exact abd (by rw [Nu];rfl)
theorem u368:∀(xs:List (List UInt8)) (i:Nat),(sT F).drop i=xs→i≤(sT F).length→Ou (sT F).length i (dT F) cT mT (sT F) (replicate i 0) C=some (0,mT,sT F,replicate (sT F).length 0,C):=by
 have hl:=H.len;have hs:=Wt H;intro xs
 induction xs with
 |nil=>
  intro i h hi;refine aa8 ?_;have:i=(sT F).length:=by have:=jU h;omega
  subst this;rw [bI h,aj]
 |cons x xs ih=>
  intro i h _;refine aa8 ?_;have hx:x∈F.map (·.aY):=(UA F).mem_iff.1 (aT (b9 h));have hi:=eo h;rw [bH h,ai,DA h,Dp h,u376 H hx,aA,u109 H,aA,cond_neg (by rfl),vn,cz _ (by simp;omega) (by simp) (by omega),bJ h (by omega)];have:=ih (i+1) (aN h) hi;rw [pE] at this;exact this
theorem u385 {x:bQ} (hx:x.Value=y6) {M:List (List UInt8×List Int)} (h:x.aY∉M.map Prod.fst):f385 x (dT F) cT M mT A B C=some ((),M++[(x.aY,[1])]):=by
 refine e385 ?_;rw [hx,t383,aA,T6 (aac h),vS,Rs h]
theorem u377a:∀(xs:List bQ) (i:Nat),F.drop i=xs→i≤F.length→
  Ox 0 (dT F) 1 0 F F.length i ⟨y6,[],F⟩ ((F.take i).map fun x=>(x.aY,[1])) (dT F) cT mT A B C=some (F.map fun x=>(x.aY,[1])):=by
 have hl:=H.len;intro xs
 induction xs with
 |nil=>
  intro i h hi;refine abf ?_;have:i=F.length:=by have:=jU h;omega
  subst this;rw [bI h,aj,gw];exact abe rfl
 |cons x xs ih=>
  intro i h hi;refine abf ?_;have:=ih (i+1) (aN h) (eo h);rw [FB h,bT] at this;rw [bH h,ai,aX h,u385 H (H.val x (aT (b9 h))) (by rw [MH];exact Nn H.nd h),Ij,bJ h (by omega)];exact this
theorem u377:f377 0 (dT F) cT mT A B C=some (F.map fun x=>(x.aY,[1])):=by
 refine e377 (abe ?_);rw [yO,ai,vn];rw [vn,t383,aA,t63,aA,ai];exact u377a H F 0 rfl (by omega)
def apT (n:Nat):List dg:=(List.range n).map fun (k:Nat)=>⟨k,0⟩
theorem u369a:∀(xs:List (List UInt8)) (i:Nat),(sT F).drop i=xs→i≤(sT F).length→
  Kf (F.map fun x=>(x.aY,[1])) 1 0 (sT F).length i (apT i) (dT F) cT mT (sT F) B []=some (0,mT,sT F,B,[apT F.length]):=by
 have hl:=H.len;have hs:=Wt H;intro xs
 induction xs with
 |nil=>
  intro i h hi;refine aba ?_;have:i=(sT F).length:=by have:=jU h;omega
  subst this;rw [bI h,aj,bp (by simp),hs];exact aa9 rfl
 |cons x xs ih=>
  intro i h _;refine aba ?_;have hx:x∈F.map (·.aY):=(UA F).mem_iff.1 (aT (b9 h));have hi:=eo h;have:=ih (i+1) (aN h) hi;unfold apT at this;rw [jC,bT] at this;rw [bH h,ai,DA h,Dp h,Co (v:=[1]) (by rw [aab,au hx]),t18,aA,cond_neg (by rfl),cz _ (by simp [apT];omega) (by simp) (by omega),bJ h (by omega)];exact this
theorem u369:f369 (dT F) cT mT (sT F) B []=some (0,mT,sT F,B,[apT F.length]):=by
 refine e369 (aa9 ?_);rw [yO,ai,u377 H,aA];exact u369a H (sT F) 0 rfl (by omega)
def tabT (F:List bQ):table:=⟨dT F,cT,mT,sT F,replicate F.length 0,[apT F.length]⟩
theorem u344:f344 (dT F)=some (some (tabT F),0):=by
 refine e344 ?_;rw [H.cod,aA,cond_neg (by rfl)];refine aaV ?_;have h368:f368 (dT F) cT mT (sT F) [] []=some (0,mT,sT F,replicate F.length 0,[]):=e368 (by rw [←Wt H];exact u368 H (sT F) 0 rfl (by omega));rw [yO,ai,vn,t366,aA,vS,Rt,Nv];refine aaV ?_;rw [Nu,aj];show FQ (f367 (dT F) cT mT [] [] []) _=_;rw [u367 H,su,cond_neg (by rfl),h368,su,cond_neg (by rfl),u369 H,su];rfl
theorem u319:f319 (dT F)=some ((sT F).map fun s=>⟨s,0⟩,0):=by
 have hl:=H.len;have hs:=Wt H;refine e319 ?_;rw [u344 H,aA,cond_neg (by rfl)];have key:∀(xs:List (List UInt8)) (i:Nat),(sT F).drop i=xs→i≤(sT F).length→Od (some (tabT F)) (sT F) (sT F).length i (((sT F).take i).map fun s=>⟨s,0⟩)=some ((sT F).map fun s=>⟨s,0⟩,0):=by
  intro xs
  induction xs with
  |nil=>
   intro i h hi;refine aaQ ?_;have:i=(sT F).length:=by have:=jU h;omega
   subst this;rw [bI h,aj,gw]
  |cons x xs ih=>
   intro i h _;refine aaQ ?_;have hi:=eo h;have:=ih (i+1) (aN h) hi;rw [FB h,bT] at this;rw [bH h,ai,aX h];show bw (replicate F.length 0) i _=_;rw [gW (x:=0) (by rw [jD,au (by omega)]),cz _ (by simp;omega) (by simp) (by omega),bJ h (by omega)];exact this
 exact key _ 0 rfl (by omega)
theorem u331:f331 (dT F)=some (⟨[⟨y6,[1],[],apT F.length⟩],(sT F).map fun s=>⟨s,0⟩⟩,0):=by
 refine e331 ?_;have h322:f322 (dT F)=some ([apT F.length],0):=e322 (by rw [u344 H,aA,cond_neg (by rfl)];rfl);rw [u319 H,aA,cond_neg (by rfl),h322,aA,cond_neg (by rfl),H.cod,aA,cond_neg (by rfl)];refine VO ?_;rw [yO,ai,vn,t27,aA,vn,cz _ (by simp) (by simp) (by omega),Nv];exact VO rfl
end
noncomputable def ck86 (a n:Nat):Bool:=mw (fun _ _ _=>none) 86 ((List.range n).map fun k=>([.eH 3 (List.map aq.enc (dT (XD (a+k))))],Q13 (cT,0)))
theorem k86a:ck86 0 33=true:=by kernel_rfl
theorem k86b:ck86 33 32=true:=by kernel_rfl
theorem ZA {a n:Nat} (h:ck86 a n=true) {k:Nat} (hk:k<n):f14 (dT (XD (a+k)))=some (cT,0):=
 jM (E:=EN Q13) (nD Nt h _ (aB.2 ⟨k,eT.2 hk,rfl⟩))
theorem nm_nd:((List.range 64).map nmT).Nodup:=by decide+kernel
theorem ft_ok {n:Nat} (hn:n≤64):FT (XD n):=by
 refine ⟨by simp [XD];omega,?_,fun x hx=> ?_,fun x hx=> ?_,?_⟩
 ·have:(XD n).map (·.aY)=((List.range 64).map nmT).take n:=by
   rw [←List.map_take,List.take_range,zP hn,XD,eO];rfl
  rw [this];exact nm_nd.sublist (List.take_sublist _ _)
 ·obtain ⟨k,_,rfl⟩:=aB.1 hx;rfl
 ·obtain ⟨k,hk,rfl⟩:=aB.1 hx
  exact t380 (by have:=eT.1 hk;omega)
 ·by_cases h:n<33
  ·have:=ZA k86a h
   rwa [gE] at this
  ·have:=ZA k86b (k:=n-33) (by omega)
   rwa [show 33+(n-33)=n from by omega] at this
theorem c459 {k:Nat} (h:k<100):f459 (k:Int)=some (PN k):=by
 refine jM (E:=EN Q20) ?_;refine qU ?_;have hb:Nat.blt k 100=true:=jA h;show (bif Nat.blt k 100 then _ else _)=_;rw [hb];rfl
section
variable (A:List dg) (F:List dH)
theorem t335:f335 ⟨[⟨y6,[1],[],A⟩],F⟩ 0 0=some (0,true):=jM (E:=EN Q19) (qD.2 ⟨200,by kernel_rfl⟩)
theorem t336:f336 ⟨[⟨y6,[1],[],A⟩],F⟩ 0 0=some (0,true):=jM (E:=EN Q19) (qD.2 ⟨200,by kernel_rfl⟩)
end
theorem top_ok:Y7:=fun n hn=>by
 have H:=ft_ok hn;refine ⟨⟨[⟨y6,[1],[],apT (XD n).length⟩],(sT (XD n)).map fun s=>⟨s,0⟩⟩,e428 ?_,⟨⟨fun h=> ?_,fun h=> ?_,fun h h'=> ?_,fun h h'=> ?_,fun h h'=> ?_,fun h h'=> ?_⟩,fun a b a0 a1 b0 b1=> ?_⟩⟩
 ·have key:∀(k i:Nat) (o2:bZ) (a:List bQ) (b:List (List UInt8)),n=i+k→OL (n:Int) (i:Int) o2 y6 b a [] (XD i)=some ⟨[⟨y6,[1],[],apT (XD n).length⟩],(sT (XD n)).map fun s=>⟨s,0⟩⟩:=by
   intro k
   induction k with
   |zero=>
    intro i o2 a b hi;have e:i=n:=by omega
    subst e;refine abv ?_;rw [cond_neg (by rw [bA];omega),u331 H,aA]
   |succ k ih=>
    intro i o2 a b hi;refine abv ?_;have c447:f447 (i:Int)=some (PN i):=e447 (by rw [c459 (by omega),aA]);have hd:(PN i).length≤2:=by unfold PN;cases Nat.blt i 10<;>simp
    rw [cond_pos (by rw [bB];omega),c447,aA,bp (by simp;omega),cz _ (by simp [XD];omega) (by simp) (by omega),bG (by omega)];have:=ih (i+1) o2 a b (by omega);unfold XD at this;rw [jC,bT] at this;exact this
  exact key n 0 _ _ _ (by omega)
 ·obtain ⟨rfl,_⟩:=h;omega
 ·obtain ⟨_,rfl⟩:=h;omega
 ·exact ⟨by omega,by omega⟩
 ·exact ⟨h.1,h'.2⟩
 ·rw [h.1,h'.1]
 ·exact ⟨rfl,by omega⟩
 ·obtain rfl:a=0:=by omega
  obtain rfl:b=0:=by omega
  exact .inl ⟨0,t335 _ _,t336 _ _,⟨rfl,rfl⟩,⟨rfl,rfl⟩,fun c h _=>h⟩
end Go.Proofs.YthppjmoncapdfaaGreatDoor.cl.pf
