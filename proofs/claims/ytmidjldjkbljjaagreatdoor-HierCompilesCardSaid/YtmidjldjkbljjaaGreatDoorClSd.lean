/- Layer 5. -/
import Derived.Test.YtmidjldjkbljjaaGreatDoorClSb
set_option linter.unusedVariables false
set_option linter.unusedSimpArgs false
set_option linter.unusedSectionVars false
namespace Go.AM
section
variable {K V:Type}
theorem S5 (k:K) (v:V):∀l:List (K×V),(ec l k v).map Prod.fst=open Classical in if k∈l.map Prod.fst then l.map Prod.fst else l.map Prod.fst++[k]:=by
 intro l
 induction l with
 |nil=>rw [BW];simp
 |cons x l ih=>
  rw [yH];by_cases h:k=x.1
  ·rw [if_pos h,if_pos (by rw [h];simp),List.map_cons,List.map_cons,h]
  ·rw [if_neg h,List.map_cons,ih,List.map_cons]
   by_cases h2:k∈l.map Prod.fst
   ·rw [if_pos h2,if_pos (List.mem_cons_of_mem _ h2)]
   ·rw [if_neg h2,if_neg (by
     rw [List.mem_cons];rintro (e|e)
     ·exact h e
     ·exact h2 e)];rfl
end
end Go.AM
namespace Go.Proofs.YtmidjldjkbljjaaGreatDoor.cl
open Go Go.AM
theorem J2 {α:Type} (p:α→Bool):∀(xs:List α) (i:Nat),decide (bI p xs i≥0)=xs.any p:=by
 intro xs
 induction xs with
 |nil=>intro i;rfl
 |cons x xs ih=>
  intro i;rw [bI,List.any_cons];cases h:p x with
  |true=>simp
  |false=>rw [←ih (i+1)];simp
theorem S4 (o:List aT):((j0 o).map Prod.fst).Nodup∧∀x,x∈(j0 o).map Prod.fst↔x∈o:=by
 have key:∀(l:List aT) (m:List (aT×Bool)),(m.map Prod.fst).Nodup→((l.foldl (fun m x=>ec m x true) m).map Prod.fst).Nodup∧∀x,x∈(l.foldl (fun m x=>ec m x true) m).map Prod.fst↔x∈m.map Prod.fst∨x∈l:=by
  intro l
  induction l with
  |nil=>intro m h;exact ⟨h,fun x=>by simp⟩
  |cons y l ih=>
   intro m h;rw [List.foldl_cons];have hk:=S5 y true m;have hn:((ec m y true).map Prod.fst).Nodup:=by
    rw [hk];split
    ·exact h
    ·rename_i hy
     rw [List.nodup_append];refine ⟨h,by simp,fun a ha b hb=> ?_⟩;simp only [List.mem_singleton] at hb
     rintro rfl
     exact hy (hb▸ha)
   obtain ⟨a,b⟩:=ih _ hn;refine ⟨a,fun x=> ?_⟩;rw [b,hk];split
   ·rename_i hy
    constructor
    ·rintro (h|h)
     ·exact .inl h
     ·exact .inr (by simp [h])
    ·rintro (h|h)
     ·exact .inl h
     ·rcases List.mem_cons.1 h with rfl|h
      ·exact .inl hy
      ·exact .inr h
   ·rw [List.mem_append,List.mem_singleton,List.mem_cons,or_assoc]
 have:=key o [] (by simp);exact ⟨this.1,fun x=>by rw [j0,this.2];simp⟩
theorem IK (o:List aT):eA Op.bytesLess ((j0 o).map Prod.fst)=fo o:=by
 obtain ⟨h1,h2⟩:=S4 o;exact SS.ext (wu h1) (cT o) fun y=>by rw [tY,h2,cL]
theorem LF (o:List aT):(j0 o).length=(fo o).length:=by
 rw [←IK,wv,List.length_map]
theorem h366 {l:List aq} (hl:l.length≤1048576) (t:af):∀(xs:List aq) (i:Nat),l.drop i=xs→CJ l t l.length i=some (bI (fun c=>c.Name==t.Name) xs i):=by
 intro xs
 induction xs with
 |nil=>intro i h;refine SC _ _ _ _ ?_;rw [aP h];rfl
 |cons y xs ih=>
  intro i h;refine SC _ _ _ _ ?_;have h375:f375 y t=some (y.Name==t.Name):=e375 _ _ rfl;rw [aU h,cond_true,aL h,h375,ah,aM h (by omega),ih (i+1) (az h),bI];cases y.Name==t.Name<;>rfl
theorem o366 {d:List af} (O:Ok d) {t:af} (hx:t.Name∈cO d):f366 (fN d) t=some (nu d t.Name:Int):=by
 have hl:=O.bU;rw [←dL] at hl;refine e366 _ _ ((h366 (l:=fN d) (by omega) t (fN d) 0 rfl).trans ?_);rw [(O.mV hx).1]
noncomputable def LN (d l:List af):List (aT×Int):=l.foldl (fun m t=>ec m t.Name (nu d t.Name:Int)) []
noncomputable abbrev gL (d:List af):List (aT×Int):=LN d d
theorem D9 (d l:List af) (x:aT):getM (LN d l) x=if x∈cO l then some (nu d x:Int) else none:=by
 have key:∀(l:List af) (m:List (aT×Int)) (s:List aT),(∀x,getM m x=if x∈s then some (nu d x:Int) else none)→∀x,getM (l.foldl (fun m t=>ec m t.Name (nu d t.Name:Int)) m) x=if x∈s++cO l then some (nu d x:Int) else none:=by
  intro l
  induction l with
  |nil=>intro m s h x;simpa using h x
  |cons y l ih=>
   intro m s h x
   rw [List.foldl_cons,ih _ (s++[y.Name]) (fun z=>by
    rw [iM,h]
    by_cases e:z=y.Name<;>simp [e])]
   simp
 have:=key l [] [] (fun x=>by rw [gR];simp) x;simpa [LN] using this
theorem NB {d:List af} {x:aT} (h:x∈cO d):getM (gL d) x=some (nu d x:Int):=by rw [gL,D9,if_pos h]
theorem O2 {d l:List af} {i:Nat} {t:af} (h:l[i]? =some t):LN d (l.take (i+1))=ec (LN d (l.take i)) t.Name (nu d t.Name:Int):=by
 rw [List.take_add_one,h];simp [LN]
theorem h344 {d:List af} (O:Ok d) {a:List af} {b:List aq} {A:List aT} {B:List Int} {C:List (List au)} {r:(Option table)×Int} (hr:vv (fN d) d d.length d.length (gL d) d (fN d) a b A B C=some r):∀(xs:List af) (i:Nat),d.drop i=xs→i≤d.length→
  vv (fN d) d d.length i (LN d (d.take i)) d (fN d) a b A B C=some r:=by
 have hl:=O.len;intro xs
 induction xs with
 |nil=>
  intro i h hi;have:i=d.length:=by have:=dM h;omega
  subst this;rw [List.take_length];exact hr
 |cons t xs ih=>
  intro i h hi;refine Bu _ _ _ _ _ _ _ _ _ _ _ _ ?_;have MU:t∈d:=List.mem_of_getElem? (aW h);rw [aU h,cond_true,aL h,o366 O (nV MU),ah,jJ,aM h (by omega),←O2 (aW h)];exact ih (i+1) (az h) (bL h)
theorem h384 {s:List aj} (hs:s.length≤1000) (x:aj):∀(xs:List aj) (i:Nat),s.drop i=xs→CL s s.length i x=some (bI (fun y=>y.cF==x.cF) xs i):=by
 intro xs
 induction xs with
 |nil=>intro i h;refine SJ _ _ _ _ ?_;rw [aP h];rfl
 |cons y xs ih=>
  intro i h;refine SJ _ _ _ _ ?_;have h388:f388 y x=some (y.cF==x.cF):=e388 _ _ rfl;rw [aU h,cond_true,aL h,h388,ah,aM h (by omega),ih (i+1) (az h),bI];cases y.cF==x.cF<;>rfl
theorem i381 {s:List aj} (hs:s.length≤1000) (x:aj):f381 s x=some (decide (x.cF∈s.map (·.cF))):=by
 refine e381 _ _ ?_;have:f384 s x=some (bI (fun y=>y.cF==x.cF) s 0):=e384 _ _ (h384 hs x s 0 rfl);rw [this,ah,J2]
 congr 1
 rw [Bool.eq_iff_iff,List.any_eq_true,decide_eq_true_iff,List.mem_map];constructor
 ·rintro ⟨y,hy,e⟩;exact ⟨y,hy,by simpa using e⟩
 ·rintro ⟨y,hy,e⟩;exact ⟨y,hy,by simpa using e⟩
theorem LD (o:List aT) (x:aT):ec (j0 o) x true=j0 (o++[x]):=(wH o x).symm
section
variable {d:List af} {N:List (aT×Int)} {B:List Int} {C:List (List au)} {L:List aq} {A:List aT} {r:Int×(List ((List UInt8)×Int))×(List (List UInt8))×(List Int)×(List (List au))}
theorem ZT {i:Nat} {t:af} (hi:i<1000000) (ht:t.aR.length≤1000) {o:List aT} (hr:vw d d.length (i+1:Nat) (j0 (o++fns t)) d L N A B C=some r):∀(xs:List aj) (k:Nat),t.aR.drop k=xs→k≤t.aR.length→
  CK d d.length i t.aR t.aR.length k t (j0 (o++(t.aR.take k).map (·.cF))) d L N A B C=some r:=by
 intro xs
 induction xs with
 |nil=>
  intro k h hk;refine SE _ _ _ _ _ _ _ _ _ _ _ _ _ _ ?_;have:k=t.aR.length:=by have:=dM h;omega
  subst this;rw [aP h,cond_false,bh (by omega),List.take_length];exact hr
 |cons x xs ih=>
  intro k h hk;refine SE _ _ _ _ _ _ _ _ _ _ _ _ _ _ ?_;have e:(t.aR.take k).map (·.cF)++[x.cF]=(t.aR.take (k+1)).map (·.cF):=by
   rw [List.take_add_one,aW h];simp
  rw [aU h,cond_true,aL h,jJ,aM h (by omega),LD,List.append_assoc,e];exact ih (k+1) (az h) (bL h)
theorem ZS (hd:d.length≤1000) (hf:Fz d) (hr:vw d d.length d.length (j0 (QL d)) d L N A B C=some r):∀(xs:List af) (i:Nat),d.drop i=xs→i≤d.length→
  vw d d.length i (j0 (QL (d.take i))) d L N A B C=some r:=by
 intro xs
 induction xs with
 |nil=>
  intro i h hi;have:i=d.length:=by have:=dM h;omega
  subst this;rw [List.take_length];exact hr
 |cons t xs ih=>
  intro i h hi;refine SD _ _ _ _ _ _ _ _ _ _ ?_;have ht:=hf t (List.mem_of_getElem? (aW h));rw [aU h,cond_true,aL h];have hs:=ih (i+1) (az h) (bL h);have e:QL (d.take (i+1))=QL (d.take i)++fns t:=by
   rw [List.take_add_one,aW h];simp [QL]
  rw [e] at hs;have:=ZT (by omega) ht hs t.aR 0 rfl (by omega);simpa using this
theorem ZV {i:Nat} {t:af} {M:List (aT×Bool)} (hi:i<1000000) (hd:d.length≤1000) (hN:∀x,(getM N x).isSome=decide (x∈cO d)) (ht:t.aR.length≤1000) {R:Int×(List ((List UInt8)×Int))×(List (List UInt8))×(List Int)×(List (List au))}
  (hr:uj d d.length (i+1:Nat) M d L N A B C=some R):∀(xs:List aj) (k:Nat),t.aR.drop k=xs→
  xD d d.length i t.aR t.aR.length k t M d L N A B C=some (if Db (cO d) ((t.aR.take k).map (·.cF)) xs=0 then R else (Db (cO d) ((t.aR.take k).map (·.cF)) xs,N,A,B,C)):=by
 intro xs
 induction xs with
 |nil=>
  intro k h;refine Nk _ _ _ _ _ _ _ _ _ _ _ _ _ _ ?_;rw [aP h,cond_false,bh (by omega),hr];rfl
 |cons x xs ih=>
  intro k h;refine Nk _ _ _ _ _ _ _ _ _ _ _ _ _ _ ?_;have hk:=bL h;have e:(t.aR.take k).map (·.cF)++[x.cF]=(t.aR.take (k+1)).map (·.cF):=by
   rw [List.take_add_one,aW h];simp
  rw [aU h,cond_true,aL h,i380,ah];unfold Db;cases h1:jT x.cF with
  |false=>rfl
  |true=>
   rw [Bool.not_true,cond_false,if_neg (by simp:¬(true=false)),aV ⟨by omega,by omega⟩,Int.toNat_natCast,List.drop_zero,i381 (by rw [List.length_take];omega),ah];by_cases h2:x.cF∈(t.aR.take k).map (·.cF)
   ·rw [if_pos h2,cond_pos (by simpa using h2)];rfl
   ·rw [if_neg h2,cond_neg (by simpa using h2)]
    have hx:=hN x.Value;by_cases h3:x.Value∈cO d
    ·rw [if_pos h3,e]
     cases hg:getM N x.Value with
     |none=>rw [hg] at hx;simp [h3] at hx
     |some v=>
      rw [dU hg,aM h (by omega)];exact ih (k+1) (az h)
    ·rw [if_neg h3]
     cases hg:getM N x.Value with
     |some v=>rw [hg] at hx;simp [h3] at hx
     |none=>rw [iO hg];rfl
theorem ZU {M:List (aT×Bool)} (hd:d.length≤1000) (hf:Fz d) (hN:∀x,(getM N x).isSome=decide (x∈cO d)) (hM:M.length≤1000000) (hA:A.length≤1000000):∀(xs:List af) (i:Nat),d.drop i=xs→
  uj d d.length i M d L N A B C=some (if fZ (cO d) xs=0 then (0,N,eA Op.bytesLess (A++M.map Prod.fst),B,C) else (fZ (cO d) xs,N,A,B,C)):=by
 intro xs
 induction xs with
 |nil=>
  intro i h;refine Nj _ _ _ _ _ _ _ _ _ _ ?_;rw [aP h,cond_false,aV (by omega)];rfl
 |cons t xs ih=>
  intro i h;refine Nj _ _ _ _ _ _ _ _ _ _ ?_;have hi:=bL h;have ht:=hf t (List.mem_of_getElem? (aW h));rw [aU h,cond_true,aL h];refine (ZV (by omega) hd hN ht (ih (i+1) (az h)) t.aR 0 rfl).trans ?_;rw [List.take_zero,List.map_nil,show fZ (cO d) (t::xs)=if Db (cO d) [] t.aR=0 then fZ (cO d) xs else Db (cO d) [] t.aR from rfl];by_cases h0:Db (cO d) [] t.aR=0
  ·rw [if_pos h0,if_pos h0]
  ·rw [if_neg h0,if_neg h0,if_neg h0]
end
theorem i367 {d:List af} (hd:d.length≤64) (hf:Fz d) {N:List (aT×Int)} (hN:∀x,(getM N x).isSome=decide (x∈cO d)) {L:List aq} {B:List Int} {C:List (List au)}:
  f367 d L N [] B C=some (if (eR d).length>64 then (7,N,[],B,C) else if fZ (cO d) d=0 then (0,N,eR d,B,C) else (fZ (cO d) d,N,[],B,C)):=by
 refine e367 _ _ _ _ _ _ ?_;have hlen:=LF (QL d);refine ZS (by omega) hf ?_ d 0 rfl (by omega);refine SD _ _ _ _ _ _ _ _ _ _ ?_;rw [cond_neg (by simp),hlen];by_cases h:(eR d).length>64
 ·rw [if_pos h,cond_pos (by rw [decide_eq_true_iff];unfold eR at h;omega)]
 ·have hl:(j0 (QL d)).length≤1000000:=by rw [hlen];unfold eR at h;omega
  rw [if_neg h,cond_neg (by rw [decide_eq_false_iff_not];unfold eR at h;omega),show (0:Int)=((0:Nat):Int) from rfl,ZU (by omega) hf hN hl (by simp) d 0 rfl,List.nil_append,IK];rfl
theorem ZZ {s:List aj} (hs:s.length≤1000) (F:aT):∀(xs:List aj) (i:Nat),s.drop i=xs→xE s F s.length i=some (bI (fun y=>y.cF==F) xs i):=by
 intro xs
 induction xs with
 |nil=>intro i h;refine Nl _ _ _ _ ?_;rw [aP h];rfl
 |cons y xs ih=>
  intro i h;refine Nl _ _ _ _ ?_;have h389:f389 y F=some (y.cF==F):=e389 _ _ rfl;rw [aU h,cond_true,aL h,h389,ah,aM h (by omega),ih (i+1) (az h),bI];cases y.cF==F<;>rfl
theorem i381a {t:af} (hs:t.aR.length≤1000) (F:aT):QJ t.aR F=some (val t F).isSome:=by
 refine Zq _ _ ?_;have:QK t.aR F=some (bI (fun y=>y.cF==F) t.aR 0):=Zr _ _ (ZZ hs F t.aR 0 rfl);rw [this,ah,J2]
 congr 1
 rw [Bool.eq_iff_iff,List.any_eq_true,Mf];constructor
 ·rintro ⟨y,hy,e⟩;exact ⟨y,hy,by simpa using e⟩
 ·rintro ⟨y,hy,e⟩;exact ⟨y,hy,by simpa using e⟩
noncomputable def zQ (d:List af) (U:List aT):List Int:=U.map fun x=>(nu d x:Int)
theorem rj {d:List af} (U:List aT):(zQ d U).length=U.length:=by simp [zQ]
theorem qx {d:List af} {U:List aT} {i:Nat} {x:aT} {xs:List aT} (h:U.drop i=x::xs):(zQ d U).drop i=(nu d x:Int)::zQ d xs:=by
 unfold zQ;rw [←List.map_drop,h];rfl
theorem NC {d:List af} {U:List aT} {i:Nat} (h:U.drop i=[]):(zQ d U).drop i=[]:=by
 unfold zQ;rw [←List.map_drop,h];rfl
section
variable {d:List af} (O:Ok d) (hf:Fz d) {A:List aT} {B:List Int} {C:List (List au)}
include O hf
theorem h376 (F:aT):∀(xs:List af) (i:Nat) (U:List aT),d.drop i=xs→U.length≤i→
  rN F d d.length i (zQ d U) d (fN d) (gL d) A B C=some (zQ d (U++dG xs F)):=by
 have hl:=O.len;intro xs
 induction xs with
 |nil=>
  intro i U h hU;refine SH _ _ _ _ _ _ _ _ _ _ _ ?_;rw [aP h];simp [dG]
 |cons t xs ih=>
  intro i U h hU;refine SH _ _ _ _ _ _ _ _ _ _ _ ?_;have MU:t∈d:=List.mem_of_getElem? (aW h);have hi:=bL h;rw [aU h,cond_true,aL h,i381a (hf t MU),ah,aM h (by omega)];cases hv:(val t F).isSome with
  |false=>
   rw [cond_false,ih (i+1) U (az h) (by omega)];have:dG (t::xs) F=dG xs F:=by simp [dG,List.filter_cons,hv]
   rw [this]
  |true=>
   rw [cond_true,dU (NB (nV MU)),cg _ (by rw [rj];omega) (by simp) (by omega)];have:dG (t::xs) F=t.Name::dG xs F:=by simp [dG,List.filter_cons,hv]
   have e:zQ d U++[(nu d t.Name:Int)]=zQ d (U++[t.Name]):=by simp [zQ]
   rw [e,ih (i+1) (U++[t.Name]) (az h) (by rw [List.length_append];simp;omega),this,List.append_assoc];rfl
theorem i376 (F:aT):f376 F d (fN d) (gL d) A B C=some (zQ d (dG d F)):=by
 refine e376 _ _ _ _ _ _ _ ?_;exact h376 O hf F d 0 [] rfl (by simp)
omit hf in
theorem Zx {U:List aT} (hU:∀x∈U,x∈cO d) (Z2:U.length≤1000) {u:aT} (hu:u∈cO d):∀(xs:List aT) (i:Nat),U.drop i=xs→
  xu (zQ d U) (zQ d U).length i (nu d u) d (fN d) (gL d) A B C=some (bI (fun v=> !sub (cwd d v) (cwd d u)) xs i):=by
 intro xs
 induction xs with
 |nil=>intro i h;refine M0 _ _ _ _ _ _ _ _ _ _ ?_;rw [aP (NC (d:=d) h)];rfl
 |cons x xs ih=>
  intro i h;refine M0 _ _ _ _ _ _ _ _ _ _ ?_;have hx:=hU x (List.mem_of_getElem? (aW h));have s1:=O.mV hx;have s2:=O.mV hu;have h390:f390 (nu d x) (nu d u) d (fN d) (gL d) A B C=some (!sub (cwd d x) (cwd d u)):=by
   refine e390 _ _ _ _ _ _ _ _ ?_;rw [qI O.cd s2.2.1 s1.2.1,s1.2.2.1,s2.2.2.1];rfl
  rw [aU (qx (d:=d) h),cond_true,aL (qx (d:=d) h),h390,ah,aM (qx (d:=d) h) (by rw [rj];omega),ih (i+1) (az h),bI];cases (!sub (cwd d x) (cwd d u))<;>rfl
omit hf in
theorem i382 {U:List aT} (hU:∀x∈U,x∈cO d) (Z2:U.length≤1000) {u:aT} (hu:u∈cO d):
  f382 (nu d u) (zQ d U) d (fN d) (gL d) A B C=some (!U.any fun v=> !sub (cwd d v) (cwd d u)):=by
 refine e382 _ _ _ _ _ _ _ _ ?_;have:W9 (zQ d U) (nu d u) d (fN d) (gL d) A B C=some (U.any fun v=> !sub (cwd d v) (cwd d u)):=by
  refine e67a _ _ _ _ _ _ _ _ ?_;have:QF (zQ d U) (nu d u) d (fN d) (gL d) A B C=some (bI (fun v=> !sub (cwd d v) (cwd d u)) U 0):=Zk _ _ _ _ _ _ _ _ (Zx O hU Z2 hu U 0 rfl);rw [this,ah,J2]
 rw [this];rfl
omit hf in
theorem Zw {U:List aT} (hU:∀x∈U,x∈cO d) (Z2:U.length≤1000):∀(xs:List aT) (i:Nat),U.drop i=xs→
  xq (zQ d U) (zQ d U).length i (zQ d U) d (fN d) (gL d) A B C=some (bI (fun u=> !U.any fun v=> !sub (cwd d v) (cwd d u)) xs i):=by
 intro xs
 induction xs with
 |nil=>intro i h;refine MZ _ _ _ _ _ _ _ _ _ _ ?_;rw [aP (NC (d:=d) h)];rfl
 |cons x xs ih=>
  intro i h;refine MZ _ _ _ _ _ _ _ _ _ _ ?_;have hx:=hU x (List.mem_of_getElem? (aW h));rw [aU (qx (d:=d) h),cond_true,aL (qx (d:=d) h),i382 O hU Z2 hx,ah,aM (qx (d:=d) h) (by rw [rj];omega),ih (i+1) (az h),bI];cases (!U.any fun v=> !sub (cwd d v) (cwd d x))<;>rfl
omit hf in
theorem Pt {F:aT}:(dG d F).length≤d.length:=by
 unfold dG;rw [List.length_map];exact List.length_filter_le _ _
omit hf in
theorem PX {F u:aT} (hu:u∈cO d):(!(dG d F).any fun v=> !sub (cwd d v) (cwd d u))=true↔∀v∈dG d F,Le d u v:=by
 rw [Bool.not_eq_true',List.any_eq_false];constructor
 ·intro h v hv
  have:=h v hv;simp only [Bool.not_eq_true',Bool.not_eq_false] at this;exact (x5 (lF hv)).1 this
 ·intro h v hv
  have:=(x5 (lF hv)).2 (h v hv);rw [cwd,cwd,this];simp
theorem h368:∀(xs:List aT) (i:Nat) (o:List Int),(eR d).drop i=xs→(eR d).length≤1000→o.length≤i→
  ∃X,za (eR d).length i d (fN d) (gL d) (eR d) o C=some (if gl d xs=true then 10 else 0,gL d,eR d,X,C)∧(gl d xs=false→X=o++xs.map fun F=>(nu d ((nP d F).getD []):Int)):=by
 have hl:=O.len;intro xs
 induction xs with
 |nil=>
  intro i o h hfl ho;refine ⟨o,?_,fun _=>by simp⟩;refine KV _ _ _ _ _ _ _ _ ?_;rw [aP h];rfl
 |cons F xs ih=>
  intro i o h hfl ho;have hU:∀x∈dG d F,x∈cO d:=fun x hx=>lF hx
  have Z2:=Pt O (F:=F);have hi:=bL h;have hA:QE (zQ d (dG d F)) (zQ d (dG d F)) d (fN d) (gL d) (eR d) o C=some (bI (fun u=> !(dG d F).any fun v=> !sub (cwd d v) (cwd d u)) (dG d F) 0):=
   Zj _ _ _ _ _ _ _ _ (Zw O hU (by omega) _ 0 rfl)
  by_cases hex:∃u∈dG d F,(!(dG d F).any fun v=> !sub (cwd d v) (cwd d u))=true
  ·obtain ⟨j,hj,e1,e2,_⟩:=wz (fun u=> !(dG d F).any fun v=> !sub (cwd d v) (cwd d u)) (dG d F) 0 hex
   rw [Nat.zero_add] at e1;have hun:=hU _ (List.getElem_mem hj);have hin:nP d F=some (dG d F)[j]:=(qo O.acc).2 ⟨List.getElem_mem hj,(PX O hun).1 e2⟩;obtain ⟨X,h1,h2⟩:=ih (i+1) (o++[(nu d (dG d F)[j]:Int)]) (az h) hfl (by rw [List.length_append];simp;omega);have hno:gl d (F::xs)=gl d xs:=by unfold gl;rw [List.any_cons,hin];rfl
   refine ⟨X,?_,fun hx=> ?_⟩
   ·refine KV _ _ _ _ _ _ _ _ ?_
    have hj':j<(zQ d (dG d F)).length:=by rw [rj];exact hj
    have hjv:(zQ d (dG d F))[j]=(nu d (dG d F)[j]:Int):=by simp [zQ]
    rw [aU h,cond_true,jv h,js h,i376 O hf,ah,hA,ah,e1,cond_neg (by rw [decide_eq_false_iff_not];omega),bG hj',hjv,cg _ (by omega) (by simp) (by omega),aM h (by omega),h1,hno]
   ·rw [hno] at hx
    rw [h2 hx,List.append_assoc,List.map_cons,hin];rfl
  ·have hneg:bI (fun u=> !(dG d F).any fun v=> !sub (cwd d v) (cwd d u)) (dG d F) 0<0:=by
    rw [Bs];intro u hu;cases hb:(!(dG d F).any fun v=> !sub (cwd d v) (cwd d u)) with
    |false=>rfl
    |true=>exact absurd ⟨u,hu,hb⟩ hex
   have hin:nP d F=none:=by
    cases hi:nP d F with
    |none=>rfl
    |some u=>
     obtain ⟨a,b⟩:=(qo O.acc).1 hi;exact absurd ⟨u,a,(PX O (lF a)).2 b⟩ hex
   have hno:gl d (F::xs)=true:=by unfold gl;rw [List.any_cons,hin];rfl
   refine ⟨o,?_,fun hx=>by rw [hno] at hx;cases hx⟩;refine KV _ _ _ _ _ _ _ _ ?_;rw [aU h,cond_true,jv h,js h,i376 O hf,ah,hA,ah,cond_pos (by rw [decide_eq_true_iff];exact hneg),if_pos hno]
omit hf in
theorem XM {x:aT} (hx:x∈cO d):f383 x d (fN d) (gL d) A B C=some (e1 (cwd d x)):=by
 refine e383 _ _ _ _ _ _ _ ?_;rw [dU (NB hx),bG (O.NA hx),O.MA hx (O.NA hx)]
def Mp (M:List (aT×List Int)) (g:aT→Option Nat):Prop:=∀F,getM M F=(g F).map e1
omit hf in
theorem i385 {M:List (aT×List Int)} {g:aT→Option Nat} (hM:Mp M g) (hg:∀F c,g F=some c→c<18446744073709551616) {x:aj} (hx:x.Value∈cO d):
  ∃M',f385 x d (fN d) M (gL d) A B C=some ((),M')∧Mp M' fun F=>if F=x.cF then some (comb (g F) (cwd d x.Value)) else g F:=by
 refine ⟨ec M x.cF (e1 (comb (g x.cF) (cwd d x.Value))),?_,fun F=> ?_⟩
 ·refine e385 _ _ _ _ _ _ _ _ ?_
  rw [XM O hx,ah];have h:=hM x.cF;cases hgx:g x.cF with
  |none=>
   rw [hgx] at h;rw [iO h];rfl
  |some c=>
   rw [hgx] at h;rw [dU h,Dp (hg _ _ hgx) (O.Ol _),ah];rfl
 ·rw [iM]
  show _=Option.map e1 (if F=x.cF then some (comb (g F) (cwd d x.Value)) else g F);by_cases e:F=x.cF
  ·rw [if_pos e,if_pos e,e];rfl
  ·rw [if_neg e,if_neg e,hM F]
omit hf in
theorem MB {g:Option Nat} {c:Nat} (hg:∀a,g=some a→a<18446744073709551616) (hc:c<18446744073709551616):comb g c<18446744073709551616:=by
 cases g with
 |none=>exact hc
 |some a=>exact Nat.lt_of_le_of_lt Nat.and_le_left (hg a rfl)
omit hf in
theorem ZY {i T:Nat} {t:af} (ht:t.aR.length≤1000) (hi:i<1000000) (hV:∀x∈t.aR,x.Value∈cO d) {gg:aT→Option Nat}:∀(xs:List aj) (k:Nat) (M:List (aT×List Int)) (g:aT→Option Nat),t.aR.drop k=xs→(xs.map (·.cF)).Nodup→
  Mp M g→(∀F c,g F=some c→c<18446744073709551616)→(∀F,gg F=match xs.find? (fun x=>x.cF==F) with|some x=>some (comb (g F) (cwd d x.Value))|none=>g F)→
  ∃M1,Mp M1 gg∧∀r,rO T d d.length (i+1:Nat) M1 d (fN d) (gL d) A B C=some r→vA T d d.length i t.aR t.aR.length k t M d (fN d) (gL d) A B C=some r:=by
 intro xs
 induction xs with
 |nil=>
  intro k M g h hn hM hg hgg;refine ⟨M,fun F=>by rw [hM F,hgg F];rfl,fun r hr=> ?_⟩;refine SI _ _ _ _ _ _ _ _ _ _ _ _ _ _ _ ?_;rw [aP h,cond_false,bh (by omega)];exact hr
 |cons x xs ih=>
  intro k M g h hn hM hg hgg;have hx:=hV x (List.mem_of_getElem? (aW h));obtain ⟨M',h1,h2⟩:=i385 O (A:=A) (B:=B) (C:=C) hM hg hx;rw [List.map_cons,List.nodup_cons] at hn
  obtain ⟨M1,a,b⟩:=ih (k+1) M' _ (az h) hn.2 h2 (fun F c hc=>by
   split at hc
   ·injection hc with hc
    rw [←hc];exact MB O (fun a ha=>hg F a ha) (O.Ol _)
   ·exact hg F c hc) (fun F=>by
   rw [hgg F,List.find?_cons];by_cases e:F=x.cF
   ·have e':(x.cF==F)=true:=by simp [e]
    rw [e'];have hno:xs.find? (fun y=>y.cF==F)=none:=by
     rw [List.find?_eq_none];intro y hy hyF;exact hn.1 (List.mem_map.2 ⟨y,hy,by rw [←e];simpa using hyF⟩)
    rw [hno,if_pos e]
   ·have e':(x.cF==F)=false:=by simpa using fun h=>e h.symm
    rw [e']
    simp only [if_neg e])
  refine ⟨M1,a,fun r hr=> ?_⟩;refine SI _ _ _ _ _ _ _ _ _ _ _ _ _ _ _ ?_;rw [aU h,cond_true,aL h,h1,jN,aM h (by omega)];exact b r hr
theorem Yv {w:Nat} {F:aT} {o:Option Nat} {t:af} (ho:∀c,o=some c→c<18446744073709551616):∀c,tA d w F o t=some c→c<18446744073709551616:=by
 intro c hc;unfold tA at hc;split at hc
 ·split at hc
  ·injection hc with hc
   rw [←hc];exact MB O ho (O.Ol _)
  ·exact ho c hc
 ·exact ho c hc
theorem h377 (hV:Vd d) (hn:∀t∈d,(fns t).Nodup) {T:Nat} (hT:T<(tys d).length):∀(xs:List af) (i:Nat) (M:List (aT×List Int)) (g:aT→Option Nat),d.drop i=xs→Mp M g→(∀F c,g F=some c→c<18446744073709551616)→
  ∃M',rO T d d.length i M d (fN d) (gL d) A B C=some M'∧Mp M' fun F=>xs.foldl (tA d ((tys d).getD T 0) F) (g F):=by
 have hl:=O.len;intro xs
 induction xs with
 |nil=>
  intro i M g h hM hg;refine ⟨M,KX _ _ _ _ _ _ _ _ _ _ _ ?_,hM⟩;rw [aP h];rfl
 |cons t xs ih=>
  intro i M g h hM hg;have MU:t∈d:=List.mem_of_getElem? (aW h);have hi:=bL h;have hT':T<(fN d).length:=by rw [dL];exact hT
  cases hs:sub ((tys d).getD T 0) (cwd d t.Name) with
  |false=>
   obtain ⟨M',h1,h2⟩:=ih (i+1) M g (az h) hM hg;refine ⟨M',KX _ _ _ _ _ _ _ _ _ _ _ ?_,fun F=> ?_⟩
   ·rw [aU h,cond_true,aL h,bG hT',XM O (nV MU),ah,O.cd.code,Wv (O.lt hT) (O.Ol _),ah,hs,cond_false,aM h (by omega),h1]
   ·rw [h2 F]
    show Option.map e1 (xs.foldl _ _)=Option.map e1 ((t::xs).foldl _ _);rw [List.foldl_cons];have:tA d ((tys d).getD T 0) F (g F) t=g F:=by
     unfold tA;rw [hs];cases val t F<;>simp
    rw [this]
  |true=>
   have hstp:∀F,tA d ((tys d).getD T 0) F (g F) t=match t.aR.find? (fun x=>x.cF==F) with|some x=>some (comb (g F) (cwd d x.Value))|none=>g F:=by
    intro F;unfold tA val;rw [hs];cases t.aR.find? (fun x=>x.cF==F) with
    |none=>rfl
    |some x=>rfl
   have hg2:∀F c,tA d ((tys d).getD T 0) F (g F) t=some c→c<18446744073709551616:=fun F c hc=>Yv O hf (fun c hc=>hg F c hc) c hc
   have hex:∀M',Mp M' (fun F=>tA d ((tys d).getD T 0) F (g F) t)→∃TX,rO T d d.length (i+1:Nat) M' d (fN d) (gL d) A B C=some TX∧Mp TX fun F=>xs.foldl (tA d ((tys d).getD T 0) F) (tA d ((tys d).getD T 0) F (g F) t):=
    fun M' hM'=>ih (i+1) M' _ (az h) hM' hg2
   have hsome:∃TX,vA T d d.length i t.aR t.aR.length 0 t M d (fN d) (gL d) A B C=some TX∧Mp TX fun F=>xs.foldl (tA d ((tys d).getD T 0) F) (tA d ((tys d).getD T 0) F (g F) t):=by
    obtain ⟨M1,hM1⟩:∃M1,Mp M1 (fun F=>tA d ((tys d).getD T 0) F (g F) t)∧∀r,rO T d d.length (i+1:Nat) M1 d (fN d) (gL d) A B C=some r→vA T d d.length i t.aR t.aR.length 0 t M d (fN d) (gL d) A B C=some r:=
     ZY O (hf t MU) (by omega) (fun x hx=>hV t MU x hx) t.aR 0 M g rfl (hn t MU) hM hg hstp
    obtain ⟨TX,a,b⟩:=hex M1 hM1.1;exact ⟨TX,hM1.2 _ a,b⟩
   obtain ⟨TX,a,b⟩:=hsome;refine ⟨TX,KX _ _ _ _ _ _ _ _ _ _ _ ?_,fun F=>by rw [b F];rfl⟩;rw [aU h,cond_true,aL h,bG hT',XM O (nV MU),ah,O.cd.code,Wv (O.lt hT) (O.Ol _),ah,hs,cond_true];exact a
end
end Go.Proofs.YtmidjldjkbljjaaGreatDoor.cl
set_option linter.unusedVariables false
set_option linter.unusedSimpArgs false
set_option linter.unusedSectionVars false
namespace Go.Proofs.YtmidjldjkbljjaaGreatDoor.cl
open Go Go.AM
theorem Up {d:List af} (O:Ok d) (hV:Vd d) {w:Nat} {F:aT} {c:Nat} (h:inh d w F=some c):tU (tys d) c<0↔c=0:=by
 constructor
 ·intro hn
  rcases KO O hV h with h0|h0
  ·exact h0
  ·obtain ⟨i,_,_,e⟩:=qR h0
   omega
 ·rintro rfl
  rw [Aw (fun hm=>O.wh.nz 0 hm rfl)];omega
section
variable {d:List af} (O:Ok d) (hf:Fz d) (h3:fZ (cO d) d=0) (h64:(eR d).length≤64) {B:List Int}
include O hf h3 h64
theorem i377 {A:List aT} {C:List (List au)} {T:Nat} (hT:T<(tys d).length):∃M,f377 T d (fN d) (gL d) A B C=some M∧Mp M (fun F=>inh d ((tys d).getD T 0) F):=by
 obtain ⟨M,h1,h2⟩:=h377 O hf (A:=A) (B:=B) (C:=C) (xM h3) (fun t ht=>((nN _ d).1 h3 t ht).2) hT d 0 [] (fun _=>none) rfl (fun F=>by rw [gR];rfl) (fun F c h=>by cases h);exact ⟨M,e377 _ _ _ _ _ _ _ h1,h2⟩
theorem ZX {M:List (aT×List Int)} {T:Nat} (hT:T<(tys d).length) (hM:Mp M (fun F=>inh d ((tys d).getD T 0) F)) {o:List (List au)} (ho:o.length≤T):∀(xs:List aT) (k:Nat) (row:List au),(eR d).drop k=xs→row.length≤k→
  ((xs.any fun F=>inh d ((tys d).getD T 0) F==some 0)=true→tE M (fN d).length T (eR d).length k row d (fN d) (gL d) (eR d) B o=some (11,gL d,eR d,B,o))∧
  ((xs.any fun F=>inh d ((tys d).getD T 0) F==some 0)=false→∀r,vz (fN d).length (T+1:Nat) d (fN d) (gL d) (eR d) B (o++[row++kG d ((tys d).getD T 0) xs k])=some r→tE M (fN d).length T (eR d).length k row d (fN d) (gL d) (eR d) B o=some r):=by
 have hl:=O.bU;intro xs
 induction xs with
 |nil=>
  intro k row h hrow;refine ⟨fun h=>by simp at h,fun _ r hr=> ?_⟩;refine yg _ _ _ _ _ _ _ _ _ _ _ _ ?_;rw [aP h,cond_false,cg _ (by omega) (by simp) (by omega),bh (by omega)]
  rwa [kG,List.append_nil] at hr
 |cons F xs ih=>
  intro k row h hrow;have hk:=bL h;have Xe:getM M F=(inh d ((tys d).getD T 0) F).map e1:=hM F;rw [List.any_cons];cases hin:inh d ((tys d).getD T 0) F with
  |none=>
   rw [hin] at Xe;obtain ⟨a,b⟩:=ih (k+1) row (az h) (by omega);have e:((none:Option Nat)==some 0)=false:=rfl;rw [e,Bool.false_or];constructor
   ·intro hx
    refine yg _ _ _ _ _ _ _ _ _ _ _ _ ?_;rw [aU h,cond_true,jv h,js h,iO Xe,aM h (by omega)];exact a hx
   ·intro hx r hr
    refine yg _ _ _ _ _ _ _ _ _ _ _ _ ?_;rw [aU h,cond_true,jv h,js h,iO Xe,aM h (by omega)];refine b hx r ?_;unfold kG at hr;rw [hin] at hr;exact hr
  |some c=>
   rw [hin] at Xe;have hc:=XO O (xM h3) hin;have hneg:=Up O (xM h3) hin;by_cases h0:c=0
   ·have e:(some c==some 0)=true:=by simp [h0]
    rw [e,Bool.true_or];refine ⟨fun _=> ?_,fun hx=>by cases hx⟩;refine yg _ _ _ _ _ _ _ _ _ _ _ _ ?_;rw [aU h,cond_true,jv h,js h,dU Xe,o18 O.cd hc,ah,cond_pos (by rw [decide_eq_true_iff];exact hneg.2 h0)]
   ·have e:(some c==some 0)=false:=by simpa using h0
    rw [e,Bool.false_or];obtain ⟨a,b⟩:=ih (k+1) (row++[⟨(k:Int),tU (tys d) c⟩]) (az h) (by rw [List.length_append];simp;omega);constructor
    ·intro hx
     refine yg _ _ _ _ _ _ _ _ _ _ _ _ ?_;rw [aU h,cond_true,jv h,js h,dU Xe,o18 O.cd hc,ah,cond_neg (by rw [decide_eq_false_iff_not];exact fun hh=>h0 (hneg.1 hh)),cg _ (by omega) (by simp) (by omega),aM h (by omega)];exact a hx
    ·intro hx r hr
     refine yg _ _ _ _ _ _ _ _ _ _ _ _ ?_;rw [aU h,cond_true,jv h,js h,dU Xe,o18 O.cd hc,ah,cond_neg (by rw [decide_eq_false_iff_not];exact fun hh=>h0 (hneg.1 hh)),cg _ (by omega) (by simp) (by omega),aM h (by omega)];refine b hx r ?_;unfold kG at hr;rw [hin] at hr;rw [List.append_assoc];exact hr
theorem h369:∀(xs:List Nat) (T:Nat) (o:List (List au)),(tys d).drop T=xs→o.length≤T→
  ∃X,vz (fN d).length T d (fN d) (gL d) (eR d) B o=some (if iF d xs=true then 11 else 0,gL d,eR d,B,X)∧(iF d xs=false→X=o++xs.map fun w=>kG d w (eR d) 0):=by
 have hl:=O.bU;intro xs
 induction xs with
 |nil=>
  intro T o h ho;refine ⟨o,KW _ _ _ _ _ _ _ _ ?_,fun _=>by simp⟩;rw [dL,aP h];rfl
 |cons w xs ih=>
  intro T o h ho;have hT:=bL h;have hw:(tys d).getD T 0=w:=by rw [List.getD_eq_getElem?_getD,aW h];rfl
  obtain ⟨M,hM1,hM2⟩:=i377 O hf h3 h64 (A:=eR d) (B:=B) (C:=o) hT;obtain ⟨a,b⟩:=ZX O hf h3 h64 (B:=B) hT hM2 ho (eR d) 0 [] rfl (by simp);rw [hw] at a b;cases hz:(eR d).any fun F=>inh d w F==some 0 with
  |true=>
   have Ra:iF d (w::xs)=true:=by unfold iF;rw [List.any_cons,hz];rfl
   refine ⟨o,KW _ _ _ _ _ _ _ _ ?_,fun hx=>by rw [Ra] at hx;cases hx⟩;rw [dL,aU h,cond_true,hM1,ah,if_pos Ra,←dL];exact a hz
  |false=>
   have Ra:iF d (w::xs)=iF d xs:=by unfold iF;rw [List.any_cons,hz];rfl
   obtain ⟨X,h1,h2⟩:=ih (T+1) (o++[[]++kG d w (eR d) 0]) (az h) (by rw [List.length_append];simp;omega);refine ⟨X,KW _ _ _ _ _ _ _ _ ?_,fun hx=> ?_⟩
   ·rw [dL,aU h,cond_true,hM1,ah,Ra,←dL]
    exact b hz _ h1
   ·rw [Ra] at hx
    rw [h2 hx,List.append_assoc];rfl
end
noncomputable def Yw (d:List af):table:=⟨d,fN d,gL d,eR d,(eR d).map (fun F=>(nu d ((nP d F).getD []):Int)),uS d⟩
theorem i344 {d:List af} (z:Sz d) (h64:d.length≤64) (hf:Fz d):∃X,f344 d=some (X,gJ d)∧(gJ d=0→X=some (Yw d)):=by
 have hc:=Vh z h64;rw [←i14 z h64] at hc;unfold gJ;by_cases h0:tP d=0
 ·rw [if_neg (by simpa using h0)] at hc
  rw [if_neg (by simpa using h0)];by_cases h1:(qi (fI d)).length>256
  ·rw [if_pos h1] at hc
   rw [if_pos h1];refine ⟨none,e344 _ ?_,fun h=>by cases h⟩;rw [hc];rfl
  ·rw [if_neg h1] at hc
   rw [if_neg h1];have O:=Tn z h64 h0 h1;have hN:∀x,(getM (gL d) x).isSome=decide (x∈cO d):=by
    intro x;rw [gL,D9];by_cases h:x∈cO d<;>simp [h]
   have h367:=i367 h64 hf hN (L:=fN d) (B:=[]) (C:=[]);have start:∀{r},vv (fN d) d d.length d.length (gL d) d (fN d) [] [] [] [] []=some r→f344 d=some r:=by
    intro r hr;refine e344 _ ?_;rw [hc,ah,cond_neg (by simp)];exact h344 O hr d 0 rfl (by omega)
   by_cases h2:(eR d).length>64
   ·rw [if_pos h2] at h367
    rw [if_pos h2];refine ⟨none,start (Bu _ _ _ _ _ _ _ _ _ _ _ _ ?_),fun h=>by cases h⟩;rw [cond_neg (by simp),h367,jO];rfl
   ·rw [if_neg h2] at h367
    rw [if_neg h2];by_cases h3:fZ (cO d) d=0
    ·rw [if_pos h3] at h367
     rw [if_neg (by simpa using h3)];obtain ⟨X1,a1,a2⟩:=h368 O hf (C:=[]) (eR d) 0 [] rfl (by omega) (by simp);have ML:f368 d (fN d) (gL d) (eR d) [] []=some (if gl d (eR d)=true then 10 else 0,gL d,eR d,X1,[]):=e368 _ _ _ _ _ _ a1;cases h4:gl d (eR d) with
     |true=>
      rw [h4,if_pos rfl] at ML;rw [if_pos rfl];refine ⟨none,start (Bu _ _ _ _ _ _ _ _ _ _ _ _ ?_),fun h=>by cases h⟩;rw [cond_neg (by simp),h367,jO,cond_neg (by simp),ML,jO];rfl
     |false=>
      rw [h4,if_neg (by simp)] at ML;rw [if_neg (by simp)];obtain ⟨X2,b1,b2⟩:=h369 O hf h3 (by omega) (B:=X1) (tys d) 0 [] rfl (by simp);have ZW:f369 d (fN d) (gL d) (eR d) X1 []=some (if iF d (tys d)=true then 11 else 0,gL d,eR d,X1,X2):=e369 _ _ _ _ _ _ b1;refine ⟨some ⟨d,fN d,gL d,eR d,X1,X2⟩,start (Bu _ _ _ _ _ _ _ _ _ _ _ _ ?_),fun h=> ?_⟩
      ·rw [cond_neg (by simp),h367,jO,cond_neg (by simp),ML,jO,cond_neg (by simp),ZW,jO]
      ·cases h5:iF d (tys d) with
       |true=>rw [h5] at h;cases h
       |false=>
        rw [a2 h4,b2 h5];rfl
    ·rw [if_neg h3] at h367
     rw [if_pos h3];refine ⟨none,start (Bu _ _ _ _ _ _ _ _ _ _ _ _ ?_),fun h=>absurd h h3⟩;rw [cond_neg (by simp),h367,jO,cond_pos (by simpa using h3)]
 ·rw [if_pos h0] at hc
  rw [if_pos h0];refine ⟨none,e344 _ ?_,fun h=>absurd h h0⟩;rw [hc,ah,cond_pos (by simpa using h0)]
theorem i322 {d:List af} (z:Sz d) (h64:d.length≤64) (hf:Fz d):f322 d=some (if gJ d=0 then (uS d,0) else ([],gJ d)):=by
 obtain ⟨X,h,hX⟩:=i344 z h64 hf;refine e322 _ ?_;rw [h,ah];by_cases h0:gJ d=0
 ·rw [cond_neg (by simpa using h0),hX h0,yF,if_pos h0];rfl
 ·rw [cond_pos (by simpa using h0),if_neg h0]
theorem h319 {d:List af} (h64:(eR d).length≤64):∀(xs:List aT) (i:Nat) (o:List aJ),(eR d).drop i=xs→o.length≤i→
  y5 (some (Yw d)) (eR d) (eR d).length i o=some (o++xs.map (Fu d),0):=by
 intro xs
 induction xs with
 |nil=>intro i o h ho;refine R4 _ _ _ _ _ ?_;rw [aP h,cond_false,List.map_nil,List.append_nil]
 |cons F xs ih=>
  intro i o h ho;refine R4 _ _ _ _ _ ?_;have hi:=bL h;have hg:(Yw d).intro.drop i=(nu d ((nP d F).getD []):Int)::xs.map (fun F=>(nu d ((nP d F).getD []):Int)):=by
   show ((eR d).map _).drop i=_;rw [←List.map_drop,h];rfl
  rw [aU h,cond_true,aL h,yF,aL hg,cg _ (by omega) (by simp) (by omega),aM h (by omega),
   ih (i+1) _ (az h) (by rw [List.length_append];simp;omega),List.append_assoc]
  rfl
theorem i319 {d:List af} (z:Sz d) (h64:d.length≤64) (hf:Fz d):f319 d=some (if gJ d=0 then (eP d,0) else ([],gJ d)):=by
 obtain ⟨X,h,hX⟩:=i344 z h64 hf;refine e319 _ ?_;rw [h,ah];by_cases h0:gJ d=0
 ·obtain ⟨O,_,_⟩:=p9 z h64 hf h0
  rw [cond_neg (by simpa using h0),hX h0,yF,if_pos h0];exact h319 O.f64 (eR d) 0 [] rfl (by simp)
 ·rw [cond_pos (by simpa using h0),if_neg h0]
theorem h321 {a:List aJ} (ha:a.length≤1000000):∀(xs:List aJ) (i:Nat),a.drop i=xs→GG a a i=some true:=by
 intro xs
 induction xs with
 |nil=>intro i h;refine R6 _ _ _ ?_;rw [aP h];rfl
 |cons x xs ih=>
  intro i h;refine R6 _ _ _ ?_;rw [aU h,cond_true,aL h,aL h,cond_neg (by simp),aM h (by omega)];exact ih (i+1) (az h)
theorem c321 {a:List aJ} (ha:a.length≤1000000):f321 a a=some true:=by
 refine e321 _ _ ?_;rw [cond_neg (by simp)];exact h321 ha a 0 rfl
theorem h359 {a:List au} (ha:a.length≤1000000):∀(xs:List au) (i:Nat),a.drop i=xs→GN a a i=some true:=by
 intro xs
 induction xs with
 |nil=>intro i h;refine Sw _ _ _ ?_;rw [aP h];rfl
 |cons x xs ih=>
  intro i h;refine Sw _ _ _ ?_;rw [aU h,cond_true,aL h,aL h,cond_neg (by simp),aM h (by omega)];exact ih (i+1) (az h)
theorem c359 {a:List au} (ha:a.length≤1000000):f359 a a=some true:=by
 refine e359 _ _ ?_;rw [cond_neg (by simp)];exact h359 ha a 0 rfl
theorem lD {d:List af}:(eP d).length=(eR d).length:=by simp [eP]
theorem Pv {d:List af}:(uS d).length=(tys d).length:=by simp [uS]
end Go.Proofs.YtmidjldjkbljjaaGreatDoor.cl
