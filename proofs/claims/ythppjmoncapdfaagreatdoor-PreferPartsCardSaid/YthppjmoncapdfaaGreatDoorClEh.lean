/- The hierarchy of one type with features. -/
import Derived.Test.YthppjmoncapdfaaGreatDoorClEa
import Derived.Test.YthppjmoncapdfaaGreatDoorClXb
import Derived.Test.YthppjmoncapdfaaGreatDoorClXs
import Derived.KernelRfl
set_option linter.unusedVariables false
set_option linter.unusedSimpArgs false
set_option linter.unusedSectionVars false
set_option maxRecDepth 100000
namespace Go.Proofs.YthppjmoncapdfaaGreatDoor.cl.pf
open Go Go.AM
def nmT (k:Nat):List UInt8:=70::Jn k
def tF:List UInt8:=[116,111,112]
def Pv (n:Nat):List aK:=(List.range n).map fun k=>⟨nmT k,tF⟩
theorem Ku {K V:Type} {l:List (K×V)} {k:K} {v:V} (h:k∉l.map Prod.fst):zP l k v=l++[(k,v)]:=by
 induction l with
 |nil=>rw [Kv];rfl
 |cons x l ih=>
  rw [List.map_cons,List.mem_cons,not_or] at h;rw [Qf,if_neg h.1,ih h.2];rfl
open Classical in
theorem Sa {α K V:Type} {l:List α} {f:α→K} {v:V} {k:K}:getM (l.map fun x=>(f x,v)) k=if k∈l.map f then some v else none:=by
 induction l with
 |nil=>exact JJ _
 |cons x l ih=>
  rw [List.map_cons,vg];by_cases h:k=f x
  ·rw [if_pos h,if_pos (by simp [h])]
  ·rw [if_neg h,ih,List.map_cons]
   simp only [List.mem_cons,h,false_or]
section
variable {α R:Type}
theorem tn (x:α):decide ((0:Int)<([x].length:Int))=true:=by simp
theorem G4 (x:α):decide ((1:Int)<([x].length:Int))=false:=by simp
theorem qq (x:α) (k:α→Option R):bS [x] 0 k=k x:=by simp [bS]
theorem TX:decide ((1:Int)<1)=false:=rfl
theorem G5:IntKind.wrap .i64 (0+1)=1:=by decide
end
theorem Sb {K V:Type} {l:List (K×V)} {k:K} (h:k∉l.map Prod.fst):getM l k=none:=by
 induction l with
 |nil=>exact JJ _
 |cons x l ih=>
  rw [List.map_cons,List.mem_cons,not_or] at h;rw [vg,if_neg h.1,ih h.2]
abbrev cT:List bR:=[⟨tF,[1]⟩]
def mT:List (List UInt8×Int):=[(tF,0)]
theorem t366 (F:List aK):f366 cT ⟨tF,[],F⟩=some 0:=fG (E:=EN Q5) (kS.2 ⟨200,by kernel_rfl⟩)
theorem t27:f27 cT 0=some []:=fG (E:=EN Q15) (kS.2 ⟨200,by kernel_rfl⟩)
theorem t18:f18 cT [1]=some 0:=fG (E:=EN Q5) (kS.2 ⟨200,by kernel_rfl⟩)
theorem t63:f63 [1] [1]=some true:=fG (E:=EN Q0) (kS.2 ⟨200,by kernel_rfl⟩)
section
variable (F:List aK) (A:List (List UInt8)) (B:List Int) (C:List (List aM))
theorem t383:f383 tF [⟨tF,[],F⟩] cT mT A B C=some [1]:=fG (E:=EK _ _ _ _ _ _) (kS.2 ⟨200,by kernel_rfl⟩)
end
theorem k221:gY (fun _ _ _=>none) 221 ((List.range 64).map fun k=>([.str (nmT k)], .bool true))=true:=by kernel_rfl
theorem t380 {k:Nat} (h:k<64):f380 (nmT k)=some true:=
 fG (E:=EN Q0) (iW GB k221 _ (List.mem_map.2 ⟨k,List.mem_range.2 h,rfl⟩))
theorem t24:f24 cT 0 0=some true:=fG (E:=EN Q0) (kS.2 ⟨200,by kernel_rfl⟩)
structure FT (F:List aK):Prop where
 len:F.length≤64
 nd:(F.map (·.aP)).Nodup
 val:∀x∈F,x.Value=tF
 txt:∀x∈F,f380 x.aP=some true
 cod:f14 [⟨tF,[],F⟩]=some (cT,0)
def sT (F:List aK):List (List UInt8):=gZ Op.bytesLess (F.map (·.aP))
abbrev dT (F:List aK):List aC:=[⟨tF,[],F⟩]
theorem Gc {F:List aK} {V:Type} (v:V):(F.map fun x=>(x.aP,v)).map Prod.fst=F.map (·.aP):=by rw [List.map_map];rfl
theorem Gy {F:List aK} (h:(F.map (·.aP)).Nodup) {x:aK} {xs:List aK} {i:Nat} (e:F.drop i=x::xs):x.aP∉(F.take i).map (·.aP):=by
 rw [←List.take_append_drop i F,List.map_append,e,List.map_cons] at h;have:=List.nodup_append.1 h;intro hx;exact this.2.2 _ hx _ (List.mem_cons_self ..) rfl
theorem Aa {α:Type} {l:List α} {i:Nat} {x:α} {xs:List α} (e:l.drop i=x::xs):l.take (i+1)=l.take i++[x]:=by
 rw [List.take_add_one,dG e];rfl
theorem SD (x:List UInt8) (l:List (List UInt8)):(wD Op.bytesLess x l).Perm (x::l):=by
 induction l with
 |nil=>exact .refl _
 |cons y l ih=>
  unfold wD;split
  ·exact .refl _
  ·exact (ih.cons y).trans (.swap x y l)
theorem Ng (F:List aK):(sT F).Perm (F.map (·.aP)):=by
 have key:∀(l E:List (List UInt8)),(l.foldl (fun out x=>wD Op.bytesLess x out) E).Perm (E++l):=by
  intro l
  induction l with
  |nil=>intro E;simp
  |cons p l ih=>exact fun E=>(ih _).trans (((SD p E).append_right l).trans (List.perm_middle (a:=p) (l₁:=E) (l₂:=l)).symm)
 exact key _ []
section
variable {F:List aK} (H:FT F) {A:List (List UInt8)} {B:List Int} {C:List (List aM)}
include H
theorem OQ:(sT F).length=F.length:=by rw [(Ng F).length_eq,List.length_map]
theorem u367a {r} (hr:HN (dT F) 1 1 (F.map fun x=>(x.aP,true)) (dT F) cT mT A B C=some r):∀(xs:List aK) (i:Nat),F.drop i=xs→i≤F.length→
  HO (dT F) 1 0 F F.length i ⟨tF,[],F⟩ ((F.take i).map fun x=>(x.aP,true)) (dT F) cT mT A B C=some r:=by
 have hl:=H.len;intro xs
 induction xs with
 |nil=>
  intro i h hi;refine SQ _ _ _ _ _ _ _ _ _ _ _ _ _ _ ?_;have:i=F.length:=by have:=nw h;omega
  subst this;rw [dm h,cond_false,List.take_length];exact hr
 |cons x xs ih=>
  intro i h hi;refine SQ _ _ _ _ _ _ _ _ _ _ _ _ _ _ ?_;have:=ih (i+1) (cH h) (gA h);rw [Aa h,List.map_append] at this;rw [cR h,cond_true,bX h,qP,dA h (by omega),Ku (by rw [Gc];exact Gy H.nd h)];exact this
theorem u367b {M:List (List UInt8×Bool)} {r} (hr:BC (dT F) 1 1 M (dT F) cT mT A B C=some r):∀(xs:List aK) (i:Nat),F.drop i=xs→
  BD (dT F) 1 0 F F.length i ⟨tF,[],F⟩ M (dT F) cT mT A B C=some r:=by
 have hl:=H.len;intro xs
 induction xs with
 |nil=>
  intro i h;refine On _ _ _ _ _ _ _ _ _ _ _ _ _ _ ?_;rw [dm h];exact hr
 |cons x xs ih=>
  intro i h;refine On _ _ _ _ _ _ _ _ _ _ _ _ _ _ ?_;have hx:x∈F:=List.mem_of_getElem? (dG h);have hi:=gA h;have hc:f381 ((F.take (Int.toNat (i:Int))).drop 0) x=some false:=by
   rw [Int.toNat_natCast,List.drop_zero];refine e381 _ _ ?_;have:f384 (F.take i) x=some (sN (fun y=>y.aP==x.aP) (F.take i) 0):=e384 _ _ (h384 (by rw [List.length_take];omega) x _ 0 rfl);rw [this,aH,Rr]
   congr 1
   rw [List.any_eq_false];intro y hy he;exact Gy H.nd h (List.mem_map.2 ⟨y,hy,by simpa using he⟩)
  rw [cR h,cond_true,bX h,H.txt x hx,aH,cond_neg (by rfl),bY (by simp only;omega),hc,aH,cond_false,H.val x hx,wL (v:=0) (by unfold mT;rw [vg,if_pos rfl]),dA h (by omega)];exact ih (i+1) (cH h)
theorem u367:f367 (dT F) cT mT [] B C=some (0,mT,sT F,B,C):=by
 have hl:=H.len;refine e367 _ _ _ _ _ _ ?_;refine SP _ _ _ _ _ _ _ _ _ _ ?_;rw [tn,cond_true,qq];refine u367a H ?_ F 0 rfl (by omega);refine SP _ _ _ _ _ _ _ _ _ _ ?_;rw [TX,cond_false,cond_neg (by rw [List.length_map,decide_eq_false_iff_not];omega)];refine Om _ _ _ _ _ _ _ _ _ _ ?_;rw [tn,cond_true,qq];refine u367b H ?_ F 0 rfl;refine Om _ _ _ _ _ _ _ _ _ _ ?_;rw [TX,cond_false,bY (by rw [List.length_map];simp;omega),Gc];rfl
theorem u109:RX [0] [0] (dT F) cT mT A B C=some 0:=by
 refine ZU _ _ _ _ _ _ _ _ (VB _ _ _ _ _ _ _ _ _ _ ?_);have h390:f390 0 0 (dT F) cT mT A B C=some false:=e390 _ _ _ _ _ _ _ _ (by rw [t24];rfl);have h67:XP [0] 0 (dT F) cT mT A B C=some false:=by
  refine e67a _ _ _ _ _ _ _ _ ?_;have:RY [0] 0 (dT F) cT mT A B C=some (-1):=by
   refine ZV _ _ _ _ _ _ _ _ (Oj _ _ _ _ _ _ _ _ _ _ ?_);rw [tn,cond_true,qq,h390,aH,cond_false,G5];exact Oj _ _ _ _ _ _ _ _ _ _ (by rw [G4];rfl)
  rw [this];rfl
 have h382:f382 0 [0] (dT F) cT mT A B C=some true:=e382 _ _ _ _ _ _ _ _ (by rw [h67];rfl);rw [tn,cond_true,qq,h382];rfl
theorem u376 {s:List UInt8} (hs:s∈F.map (·.aP)):f376 s (dT F) cT mT A B C=some [0]:=by
 have hl:=H.len;refine e376 _ _ _ _ _ _ _ (SX _ _ _ _ _ _ _ _ _ _ _ ?_);have hc:RZ F s=some true:=by
  refine ZW _ _ ?_;have:R1 F s=some (sN (fun y=>y.aP==s) F 0):=ZX _ _ (Z6 (by omega) s F 0 rfl);rw [this,aH,Rr]
  congr 1
  rw [List.any_eq_true];obtain ⟨y,hy,e⟩:=List.mem_map.1 hs;exact ⟨y,hy,by simpa using e⟩
 rw [tn,cond_true,qq,hc,aH,cond_true,wL (v:=0) (by unfold mT;rw [vg,if_pos rfl]),cM _ (by simp) (by simp) (by omega),G5];exact SX _ _ _ _ _ _ _ _ _ _ _ (by rw [G4];rfl)
theorem u368:∀(xs:List (List UInt8)) (i:Nat),(sT F).drop i=xs→i≤(sT F).length→HP (sT F).length i (dT F) cT mT (sT F) (List.replicate i 0) C=some (0,mT,sT F,List.replicate (sT F).length 0,C):=by
 have hl:=H.len;have hs:=OQ H;intro xs
 induction xs with
 |nil=>
  intro i h hi;refine SR _ _ _ _ _ _ _ _ ?_;have:i=(sT F).length:=by have:=nw h;omega
  subst this;rw [dm h,cond_false]
 |cons x xs ih=>
  intro i h _;refine SR _ _ _ _ _ _ _ _ ?_;have hx:x∈F.map (·.aP):=(Ng F).mem_iff.1 (List.mem_of_getElem? (dG h));have hi:=gA h;rw [cR h,cond_true,Ji h,IZ h,u376 H hx,aH,u109 H,aH,cond_neg (by rfl),qq,cM _ (by simp;omega) (by simp) (by omega),dA h (by omega)];have:=ih (i+1) (cH h) hi;rw [List.replicate_succ'] at this;exact this
theorem u385 {x:aK} (hx:x.Value=tF) {M:List (List UInt8×List Int)} (h:x.aP∉M.map Prod.fst):f385 x (dT F) cT M mT A B C=some ((),M++[(x.aP,[1])]):=by
 refine e385 _ _ _ _ _ _ _ _ ?_;rw [hx,t383,aH,MT (Sb h),qP,Ku h]
theorem u377a:∀(xs:List aK) (i:Nat),F.drop i=xs→i≤F.length→
  HR 0 (dT F) 1 0 F F.length i ⟨tF,[],F⟩ ((F.take i).map fun x=>(x.aP,[1])) (dT F) cT mT A B C=some (F.map fun x=>(x.aP,[1])):=by
 have hl:=H.len;intro xs
 induction xs with
 |nil=>
  intro i h hi;refine SZ _ _ _ _ _ _ _ _ _ _ _ _ _ _ _ ?_;have:i=F.length:=by have:=nw h;omega
  subst this;rw [dm h,cond_false,List.take_length];exact SY _ _ _ _ _ _ _ _ _ _ _ rfl
 |cons x xs ih=>
  intro i h hi;refine SZ _ _ _ _ _ _ _ _ _ _ _ _ _ _ _ ?_;have:=ih (i+1) (cH h) (gA h);rw [Aa h,List.map_append] at this;rw [cR h,cond_true,bX h,u385 H (H.val x (List.mem_of_getElem? (dG h))) (by rw [Gc];exact Gy H.nd h),B9,dA h (by omega)];exact this
theorem u377:f377 0 (dT F) cT mT A B C=some (F.map fun x=>(x.aP,[1])):=by
 refine e377 _ _ _ _ _ _ _ (SY _ _ _ _ _ _ _ _ _ _ _ ?_);rw [tn,cond_true,qq];rw [qq,t383,aH,t63,aH,cond_true];exact u377a H F 0 rfl (by omega)
def Ut (n:Nat):List aM:=(List.range n).map fun (k:Nat)=>⟨k,0⟩
theorem u369a:∀(xs:List (List UInt8)) (i:Nat),(sT F).drop i=xs→i≤(sT F).length→
  DJ (F.map fun x=>(x.aP,[1])) 1 0 (sT F).length i (Ut i) (dT F) cT mT (sT F) B []=some (0,mT,sT F,B,[Ut F.length]):=by
 have hl:=H.len;have hs:=OQ H;intro xs
 induction xs with
 |nil=>
  intro i h hi;refine SU _ _ _ _ _ _ _ _ _ _ _ _ ?_;have:i=(sT F).length:=by have:=nw h;omega
  subst this;rw [dm h,cond_false,bY (by simp),hs];exact SS _ _ _ _ _ _ _ _ rfl
 |cons x xs ih=>
  intro i h _;refine SU _ _ _ _ _ _ _ _ _ _ _ _ ?_;have hx:x∈F.map (·.aP):=(Ng F).mem_iff.1 (List.mem_of_getElem? (dG h));have hi:=gA h;have:=ih (i+1) (cH h) hi;unfold Ut at this;rw [List.range_succ,List.map_append] at this;rw [cR h,cond_true,Ji h,IZ h,wL (v:=[1]) (by rw [Sa,if_pos hx]),t18,aH,cond_neg (by rfl),cM _ (by simp [Ut];omega) (by simp) (by omega),dA h (by omega)];exact this
theorem u369:f369 (dT F) cT mT (sT F) B []=some (0,mT,sT F,B,[Ut F.length]):=by
 refine e369 _ _ _ _ _ _ (SS _ _ _ _ _ _ _ _ ?_);rw [tn,cond_true,u377 H,aH];exact u369a H (sT F) 0 rfl (by omega)
def tabT (F:List aK):table:=⟨dT F,cT,mT,sT F,List.replicate F.length 0,[Ut F.length]⟩
theorem u344:f344 (dT F)=some (some (tabT F),0):=by
 refine e344 _ ?_;rw [H.cod,aH,cond_neg (by rfl)];refine SO _ _ _ _ _ _ _ _ _ _ _ _ ?_;have h368:f368 (dT F) cT mT (sT F) [] []=some (0,mT,sT F,List.replicate F.length 0,[]):=e368 _ _ _ _ _ _ (by rw [←OQ H];exact u368 H (sT F) 0 rfl (by omega));rw [tn,cond_true,qq,t366,aH,qP,Kv,G5];refine SO _ _ _ _ _ _ _ _ _ _ _ _ ?_;rw [G4,cond_false];show Ao (f367 (dT F) cT mT [] [] []) _=_;rw [u367 H,mI,cond_neg (by rfl),h368,mI,cond_neg (by rfl),u369 H,mI];rfl
theorem u319:f319 (dT F)=some ((sT F).map fun s=>⟨s,0⟩,0):=by
 have hl:=H.len;have hs:=OQ H;refine e319 _ ?_;rw [u344 H,aH,cond_neg (by rfl)];have key:∀(xs:List (List UInt8)) (i:Nat),(sT F).drop i=xs→i≤(sT F).length→HK (some (tabT F)) (sT F) (sT F).length i (((sT F).take i).map fun s=>⟨s,0⟩)=some ((sT F).map fun s=>⟨s,0⟩,0):=by
  intro xs
  induction xs with
  |nil=>
   intro i h hi;refine SN _ _ _ _ _ ?_;have:i=(sT F).length:=by have:=nw h;omega
   subst this;rw [dm h,cond_false,List.take_length]
  |cons x xs ih=>
   intro i h _;refine SN _ _ _ _ _ ?_;have hi:=gA h;have:=ih (i+1) (cH h) hi;rw [Aa h,List.map_append] at this;rw [cR h,cond_true,bX h];show bS (List.replicate F.length 0) i _=_;rw [eo (x:=0) (by rw [List.getElem?_replicate,if_pos (by omega)]),cM _ (by simp;omega) (by simp) (by omega),dA h (by omega)];exact this
 exact key _ 0 rfl (by omega)
theorem u331:f331 (dT F)=some (⟨[⟨tF,[1],[],Ut F.length⟩],(sT F).map fun s=>⟨s,0⟩⟩,0):=by
 refine e331 _ ?_;have h322:f322 (dT F)=some ([Ut F.length],0):=e322 _ (by rw [u344 H,aH,cond_neg (by rfl)];rfl);rw [u319 H,aH,cond_neg (by rfl),h322,aH,cond_neg (by rfl),H.cod,aH,cond_neg (by rfl)];refine Ol _ _ _ _ _ _ _ _ _ _ _ ?_;rw [tn,cond_true,qq,t27,aH,qq,cM _ (by simp) (by simp) (by omega),G5];exact Ol _ _ _ _ _ _ _ _ _ _ _ rfl
end
noncomputable def XE (a n:Nat):Bool:=gY (fun _ _ _=>none) 86 ((List.range n).map fun k=>([.aW 3 (List.map aC.enc (dT (Pv (a+k))))],Q13 (cT,0)))
theorem k86a:XE 0 33=true:=by kernel_rfl
theorem k86b:XE 33 32=true:=by kernel_rfl
theorem RJ {a n:Nat} (h:XE a n=true) {k:Nat} (hk:k<n):f14 (dT (Pv (a+k)))=some (cT,0):=
 fG (E:=EN Q13) (iW GB h _ (List.mem_map.2 ⟨k,List.mem_range.2 hk,rfl⟩))
theorem nm_nd:((List.range 64).map nmT).Nodup:=by decide+kernel
theorem Z3 {n:Nat} (hn:n≤64):FT (Pv n):=by
 refine ⟨by simp [Pv];omega,?_,fun x hx=> ?_,fun x hx=> ?_,?_⟩
 ·have:(Pv n).map (·.aP)=((List.range 64).map nmT).take n:=by
   rw [←List.map_take,List.take_range,Nat.min_eq_left hn,Pv,List.map_map];rfl
  rw [this];exact nm_nd.sublist (List.take_sublist _ _)
 ·obtain ⟨k,_,rfl⟩:=List.mem_map.1 hx;rfl
 ·obtain ⟨k,hk,rfl⟩:=List.mem_map.1 hx
  exact t380 (by have:=List.mem_range.1 hk;omega)
 ·by_cases h:n<33
  ·have:=RJ k86a h
   rwa [Nat.zero_add] at this
  ·have:=RJ k86b (k:=n-33) (by omega)
   rwa [show 33+(n-33)=n from by omega] at this
theorem c459 {k:Nat} (h:k<100):f459 (k:Int)=some (Jn k):=by
 refine fG (E:=EN Q20) ?_;refine lC ?_;have hb:Nat.blt k 100=true:=Nat.ble_eq_true_of_le h;show (bif Nat.blt k 100 then _ else _)=_;rw [hb];rfl
section
variable (A:List aM) (F:List au)
theorem t335:f335 ⟨[⟨tF,[1],[],A⟩],F⟩ 0 0=some (0,true):=fG (E:=EN Q19) (kS.2 ⟨200,by kernel_rfl⟩)
theorem t336:f336 ⟨[⟨tF,[1],[],A⟩],F⟩ 0 0=some (0,true):=fG (E:=EN Q19) (kS.2 ⟨200,by kernel_rfl⟩)
end
theorem Zb:NH:=fun n hn=>by
 have H:=Z3 hn;refine ⟨⟨[⟨tF,[1],[],Ut (Pv n).length⟩],(sT (Pv n)).map fun s=>⟨s,0⟩⟩,e428 _ ?_,⟨⟨fun h=> ?_,fun h=> ?_,fun h h'=> ?_,fun h h'=> ?_,fun h h'=> ?_,fun h h'=> ?_⟩,fun a b a0 a1 b0 b1=> ?_⟩⟩
 ·have key:∀(k i:Nat) (o2:bq) (a:List aK) (b:List (List UInt8)),n=i+k→Ii (n:Int) (i:Int) o2 tF b a [] (Pv i)=some ⟨[⟨tF,[1],[],Ut (Pv n).length⟩],(sT (Pv n)).map fun s=>⟨s,0⟩⟩:=by
   intro k
   induction k with
   |zero=>
    intro i o2 a b hi;have e:i=n:=by omega
    subst e;refine Tf _ _ _ _ _ _ _ _ ?_;rw [cond_neg (by rw [decide_eq_false_iff_not];omega),u331 H,aH]
   |succ k ih=>
    intro i o2 a b hi;refine Tf _ _ _ _ _ _ _ _ ?_;have c447:f447 (i:Int)=some (Jn i):=e447 _ (by rw [c459 (by omega),aH]);have hd:(Jn i).length≤2:=by unfold Jn;cases Nat.blt i 10<;>simp
    rw [cond_pos (by rw [decide_eq_true_iff];omega),c447,aH,bY (by simp;omega),cM _ (by simp [Pv];omega) (by simp) (by omega),cU (by omega)];have:=ih (i+1) o2 a b (by omega);unfold Pv at this;rw [List.range_succ,List.map_append] at this;exact this
  exact key n 0 _ _ _ (by omega)
 ·obtain ⟨rfl,_⟩:=h;omega
 ·obtain ⟨_,rfl⟩:=h;omega
 ·exact ⟨by omega,by omega⟩
 ·exact ⟨h.1,h'.2⟩
 ·rw [h.1,h'.1]
 ·exact ⟨rfl,by omega⟩
 ·obtain rfl:a=0:=by omega
  obtain rfl:b=0:=by omega
  exact .inl ⟨0,t335 _ _,t336 _ _,⟨rfl,rfl⟩,⟨rfl,rfl⟩,fun c h _=>h⟩
end Go.Proofs.YthppjmoncapdfaaGreatDoor.cl.pf
