/- Layer 5. -/
import Derived.Test.YtmidjldjkbljjaaGreatDoorClSb
set_option linter.unusedVariables false
set_option linter.unusedSimpArgs false
set_option linter.unusedSectionVars false
namespace Go.AM
section
variable {K V:Type}
theorem G8 (k:K) (v:V):∀l:List (K×V),(dP l k v).map Prod.fst=open Classical in if k∈l.map Prod.fst then l.map Prod.fst else l.map Prod.fst++[k]:=by
 intro l
 induction l with
 |nil=>rw [A7];simp
 |cons x l ih=>
  rw [xG];by_cases h:k=x.1
  ·rw [if_pos h,if_pos (by rw [h];simp),List.map_cons,List.map_cons,h]
  ·rw [if_neg h,List.map_cons,ih,List.map_cons]
   by_cases h2:k∈l.map Prod.fst
   ·rw [if_pos h2,if_pos (List.mem_cons_of_mem _ h2)]
   ·rw [if_neg h2,if_neg (by
     rw [List.mem_cons];rintro (e|e)
     ·exact h e
     ·exact h2 e)];rfl
end
end Go.AM
namespace Go.Proofs.YtmidjldjkbljjaaGreatDoor.cl
open Go Go.AM
theorem DZ {α:Type} (p:α→Bool):∀(xs:List α) (i:Nat),decide (bJ p xs i≥0)=xs.any p:=by
 intro xs
 induction xs with
 |nil=>intro i;rfl
 |cons x xs ih=>
  intro i;rw [bJ,List.any_cons];cases h:p x with
  |true=>simp
  |false=>rw [←ih (i+1)];simp
theorem Rb (o:List aS):((jS o).map Prod.fst).Nodup∧∀x,x∈(jS o).map Prod.fst↔x∈o:=by
 have key:∀(l:List aS) (m:List (aS×Bool)),(m.map Prod.fst).Nodup→((l.foldl (fun m x=>dP m x true) m).map Prod.fst).Nodup∧∀x,x∈(l.foldl (fun m x=>dP m x true) m).map Prod.fst↔x∈m.map Prod.fst∨x∈l:=by
  intro l
  induction l with
  |nil=>intro m h;exact ⟨h,fun x=>by simp⟩
  |cons y l ih=>
   intro m h;rw [List.foldl_cons];have hk:=G8 y true m;have hn:((dP m y true).map Prod.fst).Nodup:=by
    rw [hk];split
    ·exact h
    ·rename_i hy
     rw [List.nodup_append];refine ⟨h,by simp,fun a ha b hb=> ?_⟩;simp only [List.mem_singleton] at hb
     rintro rfl
     exact hy (hb▸ha)
   obtain ⟨a,b⟩:=ih _ hn;refine ⟨a,fun x=> ?_⟩;rw [b,hk];split
   ·rename_i hy
    constructor
    ·rintro (h|h)
     ·exact .inl h
     ·exact .inr (by simp [h])
    ·rintro (h|h)
     ·exact .inl h
     ·rcases List.mem_cons.1 h with rfl|h
      ·exact .inl hy
      ·exact .inr h
   ·rw [List.mem_append,List.mem_singleton,List.mem_cons,or_assoc]
 have:=key o [] (by simp);exact ⟨this.1,fun x=>by rw [jS,this.2];simp⟩
theorem Hj (o:List aS):ec Op.bytesLess ((jS o).map Prod.fst)=eU o:=by
 obtain ⟨h1,h2⟩:=Rb o;exact SS.ext (vp h1) (cU o) fun y=>by rw [s5,h2,cO]
theorem Kv (o:List aS):(jS o).length=(eU o).length:=by
 rw [←Hj,vq,List.length_map]
theorem h366 {l:List ak} (hl:l.length≤1048576) (t:af):∀(xs:List ak) (i:Nat),l.drop i=xs→BJ l t l.length i=some (bJ (fun c=>c.Name==t.Name) xs i):=by
 intro xs
 induction xs with
 |nil=>intro i h;refine QB _ _ _ _ ?_;rw [aQ h];rfl
 |cons y xs ih=>
  intro i h;refine QB _ _ _ _ ?_;have h375:f375 y t=some (y.Name==t.Name):=e375 _ _ rfl;rw [aT h,cond_true,aM h,h375,ah,aN h (by omega),ih (i+1) (az h),bJ];cases y.Name==t.Name<;>rfl
theorem o366 {d:List af} (O:Ok d) {t:af} (hx:t.Name∈cK d):f366 (ff d) t=some (nu d t.Name:Int):=by
 have hl:=O.bQ;rw [←cS] at hl;refine e366 _ _ ((h366 (l:=ff d) (by omega) t (ff d) 0 rfl).trans ?_);rw [(O.iz hx).1]
noncomputable def KD (d l:List af):List (aS×Int):=l.foldl (fun m t=>dP m t.Name (nu d t.Name:Int)) []
noncomputable abbrev gJ (d:List af):List (aS×Int):=KD d d
theorem CY (d l:List af) (x:aS):getM (KD d l) x=if x∈cK l then some (nu d x:Int) else none:=by
 have key:∀(l:List af) (m:List (aS×Int)) (s:List aS),(∀x,getM m x=if x∈s then some (nu d x:Int) else none)→∀x,getM (l.foldl (fun m t=>dP m t.Name (nu d t.Name:Int)) m) x=if x∈s++cK l then some (nu d x:Int) else none:=by
  intro l
  induction l with
  |nil=>intro m s h x;simpa using h x
  |cons y l ih=>
   intro m s h x
   rw [List.foldl_cons,ih _ (s++[y.Name]) (fun z=>by
    rw [gm,h]
    by_cases e:z=y.Name<;>simp [e])]
   simp
 have:=key l [] [] (fun x=>by rw [eS];simp) x;simpa [KD] using this
theorem Mc {d:List af} {x:aS} (h:x∈cK d):getM (gJ d) x=some (nu d x:Int):=by rw [gJ,CY,if_pos h]
theorem Nz {d l:List af} {i:Nat} {t:af} (h:l[i]? =some t):KD d (l.take (i+1))=dP (KD d (l.take i)) t.Name (nu d t.Name:Int):=by
 rw [List.take_add_one,h];simp [KD]
theorem h344 {d:List af} (O:Ok d) {a:List af} {b:List ak} {A:List aS} {B:List Int} {C:List (List ai)} {r:(Option table)×Int} (hr:uH (ff d) d d.length d.length (gJ d) d (ff d) a b A B C=some r):∀(xs:List af) (i:Nat),d.drop i=xs→i≤d.length→
  uH (ff d) d d.length i (KD d (d.take i)) d (ff d) a b A B C=some r:=by
 have hl:=O.len;intro xs
 induction xs with
 |nil=>
  intro i h hi;have:i=d.length:=by have:=dJ h;omega
  subst this;rw [List.take_length];exact hr
 |cons t xs ih=>
  intro i h hi;refine Ax _ _ _ _ _ _ _ _ _ _ _ _ ?_;have LA:t∈d:=List.mem_of_getElem? (aZ h);rw [aT h,cond_true,aM h,o366 O (jt LA),ah,iw,aN h (by omega),←Nz (aZ h)];exact ih (i+1) (az h) (bN h)
theorem h384 {s:List aq} (hs:s.length≤1000) (x:aq):∀(xs:List aq) (i:Nat),s.drop i=xs→BM s s.length i x=some (bJ (fun y=>y.ct==x.ct) xs i):=by
 intro xs
 induction xs with
 |nil=>intro i h;refine QJ _ _ _ _ ?_;rw [aQ h];rfl
 |cons y xs ih=>
  intro i h;refine QJ _ _ _ _ ?_;have h388:f388 y x=some (y.ct==x.ct):=e388 _ _ rfl;rw [aT h,cond_true,aM h,h388,ah,aN h (by omega),ih (i+1) (az h),bJ];cases y.ct==x.ct<;>rfl
theorem i381 {s:List aq} (hs:s.length≤1000) (x:aq):f381 s x=some (decide (x.ct∈s.map (·.ct))):=by
 refine e381 _ _ ?_;have:f384 s x=some (bJ (fun y=>y.ct==x.ct) s 0):=e384 _ _ (h384 hs x s 0 rfl);rw [this,ah,DZ]
 congr 1
 rw [Bool.eq_iff_iff,List.any_eq_true,decide_eq_true_iff,List.mem_map];constructor
 ·rintro ⟨y,hy,e⟩;exact ⟨y,hy,by simpa using e⟩
 ·rintro ⟨y,hy,e⟩;exact ⟨y,hy,by simpa using e⟩
theorem Ku (o:List aS) (x:aS):dP (jS o) x true=jS (o++[x]):=(vw o x).symm
section
variable {d:List af} {N:List (aS×Int)} {B:List Int} {C:List (List ai)} {L:List ak} {A:List aS} {r:Int×(List ((List UInt8)×Int))×(List (List UInt8))×(List Int)×(List (List ai))}
theorem X0 {i:Nat} {t:af} (hi:i<1000000) (ht:t.bz.length≤1000) {o:List aS} (hr:uJ d d.length (i+1:Nat) (jS (o++fns t)) d L N A B C=some r):∀(xs:List aq) (k:Nat),t.bz.drop k=xs→k≤t.bz.length→
  BK d d.length i t.bz t.bz.length k t (jS (o++(t.bz.take k).map (·.ct))) d L N A B C=some r:=by
 intro xs
 induction xs with
 |nil=>
  intro k h hk;refine QD _ _ _ _ _ _ _ _ _ _ _ _ _ _ ?_;have:k=t.bz.length:=by have:=dJ h;omega
  subst this;rw [aQ h,cond_false,bl (by omega),List.take_length];exact hr
 |cons x xs ih=>
  intro k h hk;refine QD _ _ _ _ _ _ _ _ _ _ _ _ _ _ ?_;have e:(t.bz.take k).map (·.ct)++[x.ct]=(t.bz.take (k+1)).map (·.ct):=by
   rw [List.take_add_one,aZ h];simp
  rw [aT h,cond_true,aM h,iw,aN h (by omega),Ku,List.append_assoc,e];exact ih (k+1) (az h) (bN h)
theorem XZ (hd:d.length≤1000) (hf:Fz d) (hr:uJ d d.length d.length (jS (Ah d)) d L N A B C=some r):∀(xs:List af) (i:Nat),d.drop i=xs→i≤d.length→
  uJ d d.length i (jS (Ah (d.take i))) d L N A B C=some r:=by
 intro xs
 induction xs with
 |nil=>
  intro i h hi;have:i=d.length:=by have:=dJ h;omega
  subst this;rw [List.take_length];exact hr
 |cons t xs ih=>
  intro i h hi;refine QC _ _ _ _ _ _ _ _ _ _ ?_;have ht:=hf t (List.mem_of_getElem? (aZ h));rw [aT h,cond_true,aM h];have hs:=ih (i+1) (az h) (bN h);have e:Ah (d.take (i+1))=Ah (d.take i)++fns t:=by
   rw [List.take_add_one,aZ h];simp [Ah]
  rw [e] at hs;have:=X0 (by omega) ht hs t.bz 0 rfl (by omega);simpa using this
theorem X4 {i:Nat} {t:af} {M:List (aS×Bool)} (hi:i<1000000) (hd:d.length≤1000) (hN:∀x,(getM N x).isSome=decide (x∈cK d)) (ht:t.bz.length≤1000) {R:Int×(List ((List UInt8)×Int))×(List (List UInt8))×(List Int)×(List (List ai))}
  (hr:tj d d.length (i+1:Nat) M d L N A B C=some R):∀(xs:List aq) (k:Nat),t.bz.drop k=xs→
  wv d d.length i t.bz t.bz.length k t M d L N A B C=some (if Ca (cK d) ((t.bz.take k).map (·.ct)) xs=0 then R else (Ca (cK d) ((t.bz.take k).map (·.ct)) xs,N,A,B,C)):=by
 intro xs
 induction xs with
 |nil=>
  intro k h;refine LX _ _ _ _ _ _ _ _ _ _ _ _ _ _ ?_;rw [aQ h,cond_false,bl (by omega),hr];rfl
 |cons x xs ih=>
  intro k h;refine LX _ _ _ _ _ _ _ _ _ _ _ _ _ _ ?_;have hk:=bN h;have e:(t.bz.take k).map (·.ct)++[x.ct]=(t.bz.take (k+1)).map (·.ct):=by
   rw [List.take_add_one,aZ h];simp
  rw [aT h,cond_true,aM h,i380,ah];unfold Ca;cases h1:jN x.ct with
  |false=>rfl
  |true=>
   rw [Bool.not_true,cond_false,if_neg (by simp:¬(true=false)),aU ⟨by omega,by omega⟩,Int.toNat_natCast,List.drop_zero,i381 (by rw [List.length_take];omega),ah];by_cases h2:x.ct∈(t.bz.take k).map (·.ct)
   ·rw [if_pos h2,cond_pos (by simpa using h2)];rfl
   ·rw [if_neg h2,cond_neg (by simpa using h2)]
    have hx:=hN x.Value;by_cases h3:x.Value∈cK d
    ·rw [if_pos h3,e]
     cases hg:getM N x.Value with
     |none=>rw [hg] at hx;simp [h3] at hx
     |some v=>
      rw [dK hg,aN h (by omega)];exact ih (k+1) (az h)
    ·rw [if_neg h3]
     cases hg:getM N x.Value with
     |some v=>rw [hg] at hx;simp [h3] at hx
     |none=>rw [gI hg];rfl
theorem X3 {M:List (aS×Bool)} (hd:d.length≤1000) (hf:Fz d) (hN:∀x,(getM N x).isSome=decide (x∈cK d)) (hM:M.length≤1000000) (hA:A.length≤1000000):∀(xs:List af) (i:Nat),d.drop i=xs→
  tj d d.length i M d L N A B C=some (if fG (cK d) xs=0 then (0,N,ec Op.bytesLess (A++M.map Prod.fst),B,C) else (fG (cK d) xs,N,A,B,C)):=by
 intro xs
 induction xs with
 |nil=>
  intro i h;refine LW _ _ _ _ _ _ _ _ _ _ ?_;rw [aQ h,cond_false,aU (by omega)];rfl
 |cons t xs ih=>
  intro i h;refine LW _ _ _ _ _ _ _ _ _ _ ?_;have hi:=bN h;have ht:=hf t (List.mem_of_getElem? (aZ h));rw [aT h,cond_true,aM h];refine (X4 (by omega) hd hN ht (ih (i+1) (az h)) t.bz 0 rfl).trans ?_;rw [List.take_zero,List.map_nil,show fG (cK d) (t::xs)=if Ca (cK d) [] t.bz=0 then fG (cK d) xs else Ca (cK d) [] t.bz from rfl];by_cases h0:Ca (cK d) [] t.bz=0
  ·rw [if_pos h0,if_pos h0]
  ·rw [if_neg h0,if_neg h0,if_neg h0]
end
theorem i367 {d:List af} (hd:d.length≤64) (hf:Fz d) {N:List (aS×Int)} (hN:∀x,(getM N x).isSome=decide (x∈cK d)) {L:List ak} {B:List Int} {C:List (List ai)}:
  f367 d L N [] B C=some (if (dM d).length>64 then (7,N,[],B,C) else if fG (cK d) d=0 then (0,N,dM d,B,C) else (fG (cK d) d,N,[],B,C)):=by
 refine e367 _ _ _ _ _ _ ?_;have hlen:=Kv (Ah d);refine XZ (by omega) hf ?_ d 0 rfl (by omega);refine QC _ _ _ _ _ _ _ _ _ _ ?_;rw [cond_neg (by simp),hlen];by_cases h:(dM d).length>64
 ·rw [if_pos h,cond_pos (by rw [decide_eq_true_iff];unfold dM at h;omega)]
 ·have hl:(jS (Ah d)).length≤1000000:=by rw [hlen];unfold dM at h;omega
  rw [if_neg h,cond_neg (by rw [decide_eq_false_iff_not];unfold dM at h;omega),show (0:Int)=((0:Nat):Int) from rfl,X3 (by omega) hf hN hl (by simp) d 0 rfl,List.nil_append,Hj];rfl
theorem X8 {s:List aq} (hs:s.length≤1000) (F:aS):∀(xs:List aq) (i:Nat),s.drop i=xs→wz s F s.length i=some (bJ (fun y=>y.ct==F) xs i):=by
 intro xs
 induction xs with
 |nil=>intro i h;refine LY _ _ _ _ ?_;rw [aQ h];rfl
 |cons y xs ih=>
  intro i h;refine LY _ _ _ _ ?_;have h389:f389 y F=some (y.ct==F):=e389 _ _ rfl;rw [aT h,cond_true,aM h,h389,ah,aN h (by omega),ih (i+1) (az h),bJ];cases y.ct==F<;>rfl
theorem YL {t:af} (hs:t.bz.length≤1000) (F:aS):O3 t.bz F=some (val t F).isSome:=by
 refine Xy _ _ ?_;have:O4 t.bz F=some (bJ (fun y=>y.ct==F) t.bz 0):=Xz _ _ (X8 hs F t.bz 0 rfl);rw [this,ah,DZ]
 congr 1
 rw [Bool.eq_iff_iff,List.any_eq_true,BV];constructor
 ·rintro ⟨y,hy,e⟩;exact ⟨y,hy,by simpa using e⟩
 ·rintro ⟨y,hy,e⟩;exact ⟨y,hy,by simpa using e⟩
noncomputable def yU (d:List af) (U:List aS):List Int:=U.map fun x=>(nu d x:Int)
theorem qC {d:List af} (U:List aS):(yU d U).length=U.length:=by simp [yU]
theorem pY {d:List af} {U:List aS} {i:Nat} {x:aS} {xs:List aS} (h:U.drop i=x::xs):(yU d U).drop i=(nu d x:Int)::yU d xs:=by
 unfold yU;rw [←List.map_drop,h];rfl
theorem Md {d:List af} {U:List aS} {i:Nat} (h:U.drop i=[]):(yU d U).drop i=[]:=by
 unfold yU;rw [←List.map_drop,h];rfl
section
variable {d:List af} (O:Ok d) (hf:Fz d) {A:List aS} {B:List Int} {C:List (List ai)}
include O hf
theorem h376 (F:aS):∀(xs:List af) (i:Nat) (U:List aS),d.drop i=xs→U.length≤i→
  qP F d d.length i (yU d U) d (ff d) (gJ d) A B C=some (yU d (U++dB xs F)):=by
 have hl:=O.len;intro xs
 induction xs with
 |nil=>
  intro i U h hU;refine QG _ _ _ _ _ _ _ _ _ _ _ ?_;rw [aQ h];simp [dB]
 |cons t xs ih=>
  intro i U h hU;refine QG _ _ _ _ _ _ _ _ _ _ _ ?_;have LA:t∈d:=List.mem_of_getElem? (aZ h);have hi:=bN h;rw [aT h,cond_true,aM h,YL (hf t LA),ah,aN h (by omega)];cases hv:(val t F).isSome with
  |false=>
   rw [cond_false,ih (i+1) U (az h) (by omega)];have:dB (t::xs) F=dB xs F:=by simp [dB,List.filter_cons,hv]
   rw [this]
  |true=>
   rw [cond_true,dK (Mc (jt LA)),cF _ (by rw [qC];omega) (by simp) (by omega)];have:dB (t::xs) F=t.Name::dB xs F:=by simp [dB,List.filter_cons,hv]
   have e:yU d U++[(nu d t.Name:Int)]=yU d (U++[t.Name]):=by simp [yU]
   rw [e,ih (i+1) (U++[t.Name]) (az h) (by rw [List.length_append];simp;omega),this,List.append_assoc];rfl
theorem YJ (F:aS):f376 F d (ff d) (gJ d) A B C=some (yU d (dB d F)):=by
 refine e376 _ _ _ _ _ _ _ ?_;exact h376 O hf F d 0 [] rfl (by simp)
omit hf in
theorem XF {U:List aS} (hU:∀x∈U,x∈cK d) (Yb:U.length≤1000) {u:aS} (hu:u∈cK d):∀(xs:List aS) (i:Nat),U.drop i=xs→
  wh (yU d U) (yU d U).length i (nu d u) d (ff d) (gJ d) A B C=some (bJ (fun v=> !sub (cwd d v) (cwd d u)) xs i):=by
 intro xs
 induction xs with
 |nil=>intro i h;refine LG _ _ _ _ _ _ _ _ _ _ ?_;rw [aQ (Md (d:=d) h)];rfl
 |cons x xs ih=>
  intro i h;refine LG _ _ _ _ _ _ _ _ _ _ ?_;have hx:=hU x (List.mem_of_getElem? (aZ h));have s1:=O.iz hx;have s2:=O.iz hu;have h390:f390 (nu d x) (nu d u) d (ff d) (gJ d) A B C=some (!sub (cwd d x) (cwd d u)):=by
   refine e390 _ _ _ _ _ _ _ _ ?_;rw [pZ O.cd s2.2.1 s1.2.1,s1.2.2.1,s2.2.2.1];rfl
  rw [aT (pY (d:=d) h),cond_true,aM (pY (d:=d) h),h390,ah,aN (pY (d:=d) h) (by rw [qC];omega),ih (i+1) (az h),bJ];cases (!sub (cwd d x) (cwd d u))<;>rfl
omit hf in
theorem i382 {U:List aS} (hU:∀x∈U,x∈cK d) (Yb:U.length≤1000) {u:aS} (hu:u∈cK d):
  f382 (nu d u) (yU d U) d (ff d) (gJ d) A B C=some (!U.any fun v=> !sub (cwd d v) (cwd d u)):=by
 refine e382 _ _ _ _ _ _ _ _ ?_;have:Vc (yU d U) (nu d u) d (ff d) (gJ d) A B C=some (U.any fun v=> !sub (cwd d v) (cwd d u)):=by
  refine e67a _ _ _ _ _ _ _ _ ?_;have:O0 (yU d U) (nu d u) d (ff d) (gJ d) A B C=some (bJ (fun v=> !sub (cwd d v) (cwd d u)) U 0):=Xt _ _ _ _ _ _ _ _ (XF O hU Yb hu U 0 rfl);rw [this,ah,DZ]
 rw [this];rfl
omit hf in
theorem XE {U:List aS} (hU:∀x∈U,x∈cK d) (Yb:U.length≤1000):∀(xs:List aS) (i:Nat),U.drop i=xs→
  wg (yU d U) (yU d U).length i (yU d U) d (ff d) (gJ d) A B C=some (bJ (fun u=> !U.any fun v=> !sub (cwd d v) (cwd d u)) xs i):=by
 intro xs
 induction xs with
 |nil=>intro i h;refine LF _ _ _ _ _ _ _ _ _ _ ?_;rw [aQ (Md (d:=d) h)];rfl
 |cons x xs ih=>
  intro i h;refine LF _ _ _ _ _ _ _ _ _ _ ?_;have hx:=hU x (List.mem_of_getElem? (aZ h));rw [aT (pY (d:=d) h),cond_true,aM (pY (d:=d) h),i382 O hU Yb hx,ah,aN (pY (d:=d) h) (by rw [qC];omega),ih (i+1) (az h),bJ];cases (!U.any fun v=> !sub (cwd d v) (cwd d x))<;>rfl
omit hf in
theorem NW {F:aS}:(dB d F).length≤d.length:=by
 unfold dB;rw [List.length_map];exact List.length_filter_le _ _
omit hf in
theorem Oi {F u:aS} (hu:u∈cK d):(!(dB d F).any fun v=> !sub (cwd d v) (cwd d u))=true↔∀v∈dB d F,Le d u v:=by
 rw [Bool.not_eq_true',List.any_eq_false];constructor
 ·intro h v hv
  have:=h v hv;simp only [Bool.not_eq_true',Bool.not_eq_false] at this;exact (uc (lp hv)).1 this
 ·intro h v hv
  have:=(uc (lp hv)).2 (h v hv);rw [cwd,cwd,this];simp
theorem h368:∀(xs:List aS) (i:Nat) (o:List Int),(dM d).drop i=xs→(dM d).length≤1000→o.length≤i→
  ∃X,ya (dM d).length i d (ff d) (gJ d) (dM d) o C=some (if fZ d xs=true then 10 else 0,gJ d,dM d,X,C)∧(fZ d xs=false→X=o++xs.map fun F=>(nu d ((nA d F).getD []):Int)):=by
 have hl:=O.len;intro xs
 induction xs with
 |nil=>
  intro i o h hfl ho;refine ⟨o,?_,fun _=>by simp⟩;refine JQ _ _ _ _ _ _ _ _ ?_;rw [aQ h];rfl
 |cons F xs ih=>
  intro i o h hfl ho;have hU:∀x∈dB d F,x∈cK d:=fun x hx=>lp hx
  have Yb:=NW O (F:=F);have hi:=bN h;have hA:OZ (yU d (dB d F)) (yU d (dB d F)) d (ff d) (gJ d) (dM d) o C=some (bJ (fun u=> !(dB d F).any fun v=> !sub (cwd d v) (cwd d u)) (dB d F) 0):=
   Xs _ _ _ _ _ _ _ _ (XE O hU (by omega) _ 0 rfl)
  by_cases hex:∃u∈dB d F,(!(dB d F).any fun v=> !sub (cwd d v) (cwd d u))=true
  ·obtain ⟨j,hj,e1,e2,_⟩:=vr (fun u=> !(dB d F).any fun v=> !sub (cwd d v) (cwd d u)) (dB d F) 0 hex
   rw [Nat.zero_add] at e1;have hun:=hU _ (List.getElem_mem hj);have hin:nA d F=some (dB d F)[j]:=(pM O.acc).2 ⟨List.getElem_mem hj,(Oi O hun).1 e2⟩;obtain ⟨X,h1,h2⟩:=ih (i+1) (o++[(nu d (dB d F)[j]:Int)]) (az h) hfl (by rw [List.length_append];simp;omega);have hno:fZ d (F::xs)=fZ d xs:=by unfold fZ;rw [List.any_cons,hin];rfl
   refine ⟨X,?_,fun hx=> ?_⟩
   ·refine JQ _ _ _ _ _ _ _ _ ?_
    have hj':j<(yU d (dB d F)).length:=by rw [qC];exact hj
    have hjv:(yU d (dB d F))[j]=(nu d (dB d F)[j]:Int):=by simp [yU]
    rw [aT h,cond_true,kg h,j7 h,YJ O hf,ah,hA,ah,e1,cond_neg (by rw [decide_eq_false_iff_not];omega),cu hj',hjv,cF _ (by omega) (by simp) (by omega),aN h (by omega),h1,hno]
   ·rw [hno] at hx
    rw [h2 hx,List.append_assoc,List.map_cons,hin];rfl
  ·have hneg:bJ (fun u=> !(dB d F).any fun v=> !sub (cwd d v) (cwd d u)) (dB d F) 0<0:=by
    rw [Aw];intro u hu;cases hb:(!(dB d F).any fun v=> !sub (cwd d v) (cwd d u)) with
    |false=>rfl
    |true=>exact absurd ⟨u,hu,hb⟩ hex
   have hin:nA d F=none:=by
    cases hi:nA d F with
    |none=>rfl
    |some u=>
     obtain ⟨a,b⟩:=(pM O.acc).1 hi;exact absurd ⟨u,a,(Oi O (lp a)).2 b⟩ hex
   have hno:fZ d (F::xs)=true:=by unfold fZ;rw [List.any_cons,hin];rfl
   refine ⟨o,?_,fun hx=>by rw [hno] at hx;cases hx⟩;refine JQ _ _ _ _ _ _ _ _ ?_;rw [aT h,cond_true,kg h,j7 h,YJ O hf,ah,hA,ah,cond_pos (by rw [decide_eq_true_iff];exact hneg),if_pos hno]
omit hf in
theorem VR {x:aS} (hx:x∈cK d):f383 x d (ff d) (gJ d) A B C=some (e1 (cwd d x)):=by
 refine e383 _ _ _ _ _ _ _ ?_;rw [dK (Mc hx),cu (O.Mb hx),O.Lj hx (O.Mb hx)]
def Mp (M:List (aS×List Int)) (g:aS→Option Nat):Prop:=∀F,getM M F=(g F).map e1
omit hf in
theorem i385 {M:List (aS×List Int)} {g:aS→Option Nat} (hM:Mp M g) (hg:∀F c,g F=some c→c<18446744073709551616) {x:aq} (hx:x.Value∈cK d):
  ∃M',f385 x d (ff d) M (gJ d) A B C=some ((),M')∧Mp M' fun F=>if F=x.ct then some (comb (g F) (cwd d x.Value)) else g F:=by
 refine ⟨dP M x.ct (e1 (comb (g x.ct) (cwd d x.Value))),?_,fun F=> ?_⟩
 ·refine e385 _ _ _ _ _ _ _ _ ?_
  rw [VR O hx,ah];have h:=hM x.ct;cases Ym:g x.ct with
  |none=>
   rw [Ym] at h;rw [gI h];rfl
  |some c=>
   rw [Ym] at h;rw [dK h,Hv (hg _ _ Ym) (O.MV _),ah];rfl
 ·rw [gm]
  show _=Option.map e1 (if F=x.ct then some (comb (g F) (cwd d x.Value)) else g F);by_cases e:F=x.ct
  ·rw [if_pos e,if_pos e,e];rfl
  ·rw [if_neg e,if_neg e,hM F]
omit hf in
theorem Ll {g:Option Nat} {c:Nat} (hg:∀a,g=some a→a<18446744073709551616) (hc:c<18446744073709551616):comb g c<18446744073709551616:=by
 cases g with
 |none=>exact hc
 |some a=>exact Nat.lt_of_le_of_lt Nat.and_le_left (hg a rfl)
omit hf in
theorem X7 {i T:Nat} {t:af} (ht:t.bz.length≤1000) (hi:i<1000000) (hV:∀x∈t.bz,x.Value∈cK d) {gg:aS→Option Nat}:∀(xs:List aq) (k:Nat) (M:List (aS×List Int)) (g:aS→Option Nat),t.bz.drop k=xs→(xs.map (·.ct)).Nodup→
  Mp M g→(∀F c,g F=some c→c<18446744073709551616)→(∀F,gg F=match xs.find? (fun x=>x.ct==F) with|some x=>some (comb (g F) (cwd d x.Value))|none=>g F)→
  ∃M1,Mp M1 gg∧∀r,qQ T d d.length (i+1:Nat) M1 d (ff d) (gJ d) A B C=some r→uL T d d.length i t.bz t.bz.length k t M d (ff d) (gJ d) A B C=some r:=by
 intro xs
 induction xs with
 |nil=>
  intro k M g h hn hM hg hgg;refine ⟨M,fun F=>by rw [hM F,hgg F];rfl,fun r hr=> ?_⟩;refine QH _ _ _ _ _ _ _ _ _ _ _ _ _ _ _ ?_;rw [aQ h,cond_false,bl (by omega)];exact hr
 |cons x xs ih=>
  intro k M g h hn hM hg hgg;have hx:=hV x (List.mem_of_getElem? (aZ h));obtain ⟨M',h1,h2⟩:=i385 O (A:=A) (B:=B) (C:=C) hM hg hx;rw [List.map_cons,List.nodup_cons] at hn
  obtain ⟨M1,a,b⟩:=ih (k+1) M' _ (az h) hn.2 h2 (fun F c hc=>by
   split at hc
   ·injection hc with hc
    rw [←hc];exact Ll O (fun a ha=>hg F a ha) (O.MV _)
   ·exact hg F c hc) (fun F=>by
   rw [hgg F,List.find?_cons];by_cases e:F=x.ct
   ·have e':(x.ct==F)=true:=by simp [e]
    rw [e'];have hno:xs.find? (fun y=>y.ct==F)=none:=by
     rw [List.find?_eq_none];intro y hy hyF;exact hn.1 (List.mem_map.2 ⟨y,hy,by rw [←e];simpa using hyF⟩)
    rw [hno,if_pos e]
   ·have e':(x.ct==F)=false:=by simpa using fun h=>e h.symm
    rw [e']
    simp only [if_neg e])
  refine ⟨M1,a,fun r hr=> ?_⟩;refine QH _ _ _ _ _ _ _ _ _ _ _ _ _ _ _ ?_;rw [aT h,cond_true,aM h,h1,jJ,aN h (by omega)];exact b r hr
theorem WB {w:Nat} {F:aS} {o:Option Nat} {t:af} (ho:∀c,o=some c→c<18446744073709551616):∀c,sC d w F o t=some c→c<18446744073709551616:=by
 intro c hc;unfold sC at hc;split at hc
 ·split at hc
  ·injection hc with hc
   rw [←hc];exact Ll O ho (O.MV _)
  ·exact ho c hc
 ·exact ho c hc
theorem h377 (hV:Vd d) (hn:∀t∈d,(fns t).Nodup) {T:Nat} (hT:T<(tys d).length):∀(xs:List af) (i:Nat) (M:List (aS×List Int)) (g:aS→Option Nat),d.drop i=xs→Mp M g→(∀F c,g F=some c→c<18446744073709551616)→
  ∃M',qQ T d d.length i M d (ff d) (gJ d) A B C=some M'∧Mp M' fun F=>xs.foldl (sC d ((tys d).getD T 0) F) (g F):=by
 have hl:=O.len;intro xs
 induction xs with
 |nil=>
  intro i M g h hM hg;refine ⟨M,JS _ _ _ _ _ _ _ _ _ _ _ ?_,hM⟩;rw [aQ h];rfl
 |cons t xs ih=>
  intro i M g h hM hg;have LA:t∈d:=List.mem_of_getElem? (aZ h);have hi:=bN h;have hT':T<(ff d).length:=by rw [cS];exact hT
  cases hs:sub ((tys d).getD T 0) (cwd d t.Name) with
  |false=>
   obtain ⟨M',h1,h2⟩:=ih (i+1) M g (az h) hM hg;refine ⟨M',JS _ _ _ _ _ _ _ _ _ _ _ ?_,fun F=> ?_⟩
   ·rw [aT h,cond_true,aM h,cu hT',VR O (jt LA),ah,O.cd.code,o63 (O.lt hT) (O.MV _),ah,hs,cond_false,aN h (by omega),h1]
   ·rw [h2 F]
    show Option.map e1 (xs.foldl _ _)=Option.map e1 ((t::xs).foldl _ _);rw [List.foldl_cons];have:sC d ((tys d).getD T 0) F (g F) t=g F:=by
     unfold sC;rw [hs];cases val t F<;>simp
    rw [this]
  |true=>
   have hstp:∀F,sC d ((tys d).getD T 0) F (g F) t=match t.bz.find? (fun x=>x.ct==F) with|some x=>some (comb (g F) (cwd d x.Value))|none=>g F:=by
    intro F;unfold sC val;rw [hs];cases t.bz.find? (fun x=>x.ct==F) with
    |none=>rfl
    |some x=>rfl
   have hg2:∀F c,sC d ((tys d).getD T 0) F (g F) t=some c→c<18446744073709551616:=fun F c hc=>WB O hf (fun c hc=>hg F c hc) c hc
   have hex:∀M',Mp M' (fun F=>sC d ((tys d).getD T 0) F (g F) t)→∃R6,qQ T d d.length (i+1:Nat) M' d (ff d) (gJ d) A B C=some R6∧Mp R6 fun F=>xs.foldl (sC d ((tys d).getD T 0) F) (sC d ((tys d).getD T 0) F (g F) t):=
    fun M' hM'=>ih (i+1) M' _ (az h) hM' hg2
   have hsome:∃R6,uL T d d.length i t.bz t.bz.length 0 t M d (ff d) (gJ d) A B C=some R6∧Mp R6 fun F=>xs.foldl (sC d ((tys d).getD T 0) F) (sC d ((tys d).getD T 0) F (g F) t):=by
    obtain ⟨M1,hM1⟩:∃M1,Mp M1 (fun F=>sC d ((tys d).getD T 0) F (g F) t)∧∀r,qQ T d d.length (i+1:Nat) M1 d (ff d) (gJ d) A B C=some r→uL T d d.length i t.bz t.bz.length 0 t M d (ff d) (gJ d) A B C=some r:=
     X7 O (hf t LA) (by omega) (fun x hx=>hV t LA x hx) t.bz 0 M g rfl (hn t LA) hM hg hstp
    obtain ⟨R6,a,b⟩:=hex M1 hM1.1;exact ⟨R6,hM1.2 _ a,b⟩
   obtain ⟨R6,a,b⟩:=hsome;refine ⟨R6,JS _ _ _ _ _ _ _ _ _ _ _ ?_,fun F=>by rw [b F];rfl⟩;rw [aT h,cond_true,aM h,cu hT',VR O (jt LA),ah,O.cd.code,o63 (O.lt hT) (O.MV _),ah,hs,cond_true];exact a
end
end Go.Proofs.YtmidjldjkbljjaaGreatDoor.cl
set_option linter.unusedVariables false
set_option linter.unusedSimpArgs false
set_option linter.unusedSectionVars false
namespace Go.Proofs.YtmidjldjkbljjaaGreatDoor.cl
open Go Go.AM
theorem Sx {d:List af} (O:Ok d) (hV:Vd d) {w:Nat} {F:aS} {c:Nat} (h:inh d w F=some c):FM (tys d) c<0↔c=0:=by
 constructor
 ·intro hn
  rcases JJ O hV h with h0|h0
  ·exact h0
  ·obtain ⟨i,_,_,e⟩:=zA h0
   omega
 ·rintro rfl
  rw [Sy (fun hm=>O.GM.nz 0 hm rfl)];omega
section
variable {d:List af} (O:Ok d) (hf:Fz d) (h3:fG (cK d) d=0) (h64:(dM d).length≤64) {B:List Int}
include O hf h3 h64
theorem i377 {A:List aS} {C:List (List ai)} {T:Nat} (hT:T<(tys d).length):∃M,f377 T d (ff d) (gJ d) A B C=some M∧Mp M (fun F=>inh d ((tys d).getD T 0) F):=by
 obtain ⟨M,h1,h2⟩:=h377 O hf (A:=A) (B:=B) (C:=C) (wH h3) (fun t ht=>((nw _ d).1 h3 t ht).2) hT d 0 [] (fun _=>none) rfl (fun F=>by rw [eS];rfl) (fun F c h=>by cases h);exact ⟨M,e377 _ _ _ _ _ _ _ h1,h2⟩
theorem X6 {M:List (aS×List Int)} {T:Nat} (hT:T<(tys d).length) (hM:Mp M (fun F=>inh d ((tys d).getD T 0) F)) {o:List (List ai)} (ho:o.length≤T):∀(xs:List aS) (k:Nat) (row:List ai),(dM d).drop k=xs→row.length≤k→
  ((xs.any fun F=>inh d ((tys d).getD T 0) F==some 0)=true→sE M (ff d).length T (dM d).length k row d (ff d) (gJ d) (dM d) B o=some (11,gJ d,dM d,B,o))∧
  ((xs.any fun F=>inh d ((tys d).getD T 0) F==some 0)=false→∀r,uK (ff d).length (T+1:Nat) d (ff d) (gJ d) (dM d) B (o++[row++me d ((tys d).getD T 0) xs k])=some r→sE M (ff d).length T (dM d).length k row d (ff d) (gJ d) (dM d) B o=some r):=by
 have hl:=O.bQ;intro xs
 induction xs with
 |nil=>
  intro k row h hrow;refine ⟨fun h=>by simp at h,fun _ r hr=> ?_⟩;refine wZ _ _ _ _ _ _ _ _ _ _ _ _ ?_;rw [aQ h,cond_false,cF _ (by omega) (by simp) (by omega),bl (by omega)]
  rwa [me,List.append_nil] at hr
 |cons F xs ih=>
  intro k row h hrow;have hk:=bN h;have Vi:getM M F=(inh d ((tys d).getD T 0) F).map e1:=hM F;rw [List.any_cons];cases hin:inh d ((tys d).getD T 0) F with
  |none=>
   rw [hin] at Vi;obtain ⟨a,b⟩:=ih (k+1) row (az h) (by omega);have e:((none:Option Nat)==some 0)=false:=rfl;rw [e,Bool.false_or];constructor
   ·intro hx
    refine wZ _ _ _ _ _ _ _ _ _ _ _ _ ?_;rw [aT h,cond_true,kg h,j7 h,gI Vi,aN h (by omega)];exact a hx
   ·intro hx r hr
    refine wZ _ _ _ _ _ _ _ _ _ _ _ _ ?_;rw [aT h,cond_true,kg h,j7 h,gI Vi,aN h (by omega)];refine b hx r ?_;unfold me at hr;rw [hin] at hr;exact hr
  |some c=>
   rw [hin] at Vi;have hc:=VS O (wH h3) hin;have hneg:=Sx O (wH h3) hin;by_cases h0:c=0
   ·have e:(some c==some 0)=true:=by simp [h0]
    rw [e,Bool.true_or];refine ⟨fun _=> ?_,fun hx=>by cases hx⟩;refine wZ _ _ _ _ _ _ _ _ _ _ _ _ ?_;rw [aT h,cond_true,kg h,j7 h,dK Vi,o18 O.cd hc,ah,cond_pos (by rw [decide_eq_true_iff];exact hneg.2 h0)]
   ·have e:(some c==some 0)=false:=by simpa using h0
    rw [e,Bool.false_or];obtain ⟨a,b⟩:=ih (k+1) (row++[⟨(k:Int),FM (tys d) c⟩]) (az h) (by rw [List.length_append];simp;omega);constructor
    ·intro hx
     refine wZ _ _ _ _ _ _ _ _ _ _ _ _ ?_;rw [aT h,cond_true,kg h,j7 h,dK Vi,o18 O.cd hc,ah,cond_neg (by rw [decide_eq_false_iff_not];exact fun hh=>h0 (hneg.1 hh)),cF _ (by omega) (by simp) (by omega),aN h (by omega)];exact a hx
    ·intro hx r hr
     refine wZ _ _ _ _ _ _ _ _ _ _ _ _ ?_;rw [aT h,cond_true,kg h,j7 h,dK Vi,o18 O.cd hc,ah,cond_neg (by rw [decide_eq_false_iff_not];exact fun hh=>h0 (hneg.1 hh)),cF _ (by omega) (by simp) (by omega),aN h (by omega)];refine b hx r ?_;unfold me at hr;rw [hin] at hr;rw [List.append_assoc];exact hr
theorem h369:∀(xs:List Nat) (T:Nat) (o:List (List ai)),(tys d).drop T=xs→o.length≤T→
  ∃X,uK (ff d).length T d (ff d) (gJ d) (dM d) B o=some (if iG d xs=true then 11 else 0,gJ d,dM d,B,X)∧(iG d xs=false→X=o++xs.map fun w=>me d w (dM d) 0):=by
 have hl:=O.bQ;intro xs
 induction xs with
 |nil=>
  intro T o h ho;refine ⟨o,JR _ _ _ _ _ _ _ _ ?_,fun _=>by simp⟩;rw [cS,aQ h];rfl
 |cons w xs ih=>
  intro T o h ho;have hT:=bN h;have hw:(tys d).getD T 0=w:=by rw [List.getD_eq_getElem?_getD,aZ h];rfl
  obtain ⟨M,hM1,hM2⟩:=i377 O hf h3 h64 (A:=dM d) (B:=B) (C:=o) hT;obtain ⟨a,b⟩:=X6 O hf h3 h64 (B:=B) hT hM2 ho (dM d) 0 [] rfl (by simp);rw [hw] at a b;cases hz:(dM d).any fun F=>inh d w F==some 0 with
  |true=>
   have Pk:iG d (w::xs)=true:=by unfold iG;rw [List.any_cons,hz];rfl
   refine ⟨o,JR _ _ _ _ _ _ _ _ ?_,fun hx=>by rw [Pk] at hx;cases hx⟩;rw [cS,aT h,cond_true,hM1,ah,if_pos Pk,←cS];exact a hz
  |false=>
   have Pk:iG d (w::xs)=iG d xs:=by unfold iG;rw [List.any_cons,hz];rfl
   obtain ⟨X,h1,h2⟩:=ih (T+1) (o++[[]++me d w (dM d) 0]) (az h) (by rw [List.length_append];simp;omega);refine ⟨X,JR _ _ _ _ _ _ _ _ ?_,fun hx=> ?_⟩
   ·rw [cS,aT h,cond_true,hM1,ah,Pk,←cS]
    exact b hz _ h1
   ·rw [Pk] at hx
    rw [h2 hx,List.append_assoc];rfl
end
noncomputable def WC (d:List af):table:=⟨d,ff d,gJ d,dM d,(dM d).map (fun F=>(nu d ((nA d F).getD []):Int)),gU d⟩
theorem VQ {d:List af} (z:Sz d) (h64:d.length≤64) (hf:Fz d):∃X,f344 d=some (X,gZ d)∧(gZ d=0→X=some (WC d)):=by
 have hc:=UR z h64;rw [←i14 z h64] at hc;unfold gZ;by_cases h0:ql d=0
 ·rw [if_neg (by simpa using h0)] at hc
  rw [if_neg (by simpa using h0)];by_cases h1:(nY (fq d)).length>256
  ·rw [if_pos h1] at hc
   rw [if_pos h1];refine ⟨none,e344 _ ?_,fun h=>by cases h⟩;rw [hc];rfl
  ·rw [if_neg h1] at hc
   rw [if_neg h1];have O:=Mg z h64 h0 h1;have hN:∀x,(getM (gJ d) x).isSome=decide (x∈cK d):=by
    intro x;rw [gJ,CY];by_cases h:x∈cK d<;>simp [h]
   have h367:=i367 h64 hf hN (L:=ff d) (B:=[]) (C:=[]);have start:∀{r},uH (ff d) d d.length d.length (gJ d) d (ff d) [] [] [] [] []=some r→f344 d=some r:=by
    intro r hr;refine e344 _ ?_;rw [hc,ah,cond_neg (by simp)];exact h344 O hr d 0 rfl (by omega)
   by_cases h2:(dM d).length>64
   ·rw [if_pos h2] at h367
    rw [if_pos h2];refine ⟨none,start (Ax _ _ _ _ _ _ _ _ _ _ _ _ ?_),fun h=>by cases h⟩;rw [cond_neg (by simp),h367,jK];rfl
   ·rw [if_neg h2] at h367
    rw [if_neg h2];by_cases h3:fG (cK d) d=0
    ·rw [if_pos h3] at h367
     rw [if_neg (by simpa using h3)];obtain ⟨X1,a1,a2⟩:=h368 O hf (C:=[]) (dM d) 0 [] rfl (by omega) (by simp);have Lu:f368 d (ff d) (gJ d) (dM d) [] []=some (if fZ d (dM d)=true then 10 else 0,gJ d,dM d,X1,[]):=e368 _ _ _ _ _ _ a1;cases h4:fZ d (dM d) with
     |true=>
      rw [h4,if_pos rfl] at Lu;rw [if_pos rfl];refine ⟨none,start (Ax _ _ _ _ _ _ _ _ _ _ _ _ ?_),fun h=>by cases h⟩;rw [cond_neg (by simp),h367,jK,cond_neg (by simp),Lu,jK];rfl
     |false=>
      rw [h4,if_neg (by simp)] at Lu;rw [if_neg (by simp)];obtain ⟨X2,b1,b2⟩:=h369 O hf h3 (by omega) (B:=X1) (tys d) 0 [] rfl (by simp);have X5:f369 d (ff d) (gJ d) (dM d) X1 []=some (if iG d (tys d)=true then 11 else 0,gJ d,dM d,X1,X2):=e369 _ _ _ _ _ _ b1;refine ⟨some ⟨d,ff d,gJ d,dM d,X1,X2⟩,start (Ax _ _ _ _ _ _ _ _ _ _ _ _ ?_),fun h=> ?_⟩
      ·rw [cond_neg (by simp),h367,jK,cond_neg (by simp),Lu,jK,cond_neg (by simp),X5,jK]
      ·cases h5:iG d (tys d) with
       |true=>rw [h5] at h;cases h
       |false=>
        rw [a2 h4,b2 h5];rfl
    ·rw [if_neg h3] at h367
     rw [if_pos h3];refine ⟨none,start (Ax _ _ _ _ _ _ _ _ _ _ _ _ ?_),fun h=>absurd h h3⟩;rw [cond_neg (by simp),h367,jK,cond_pos (by simpa using h3)]
 ·rw [if_pos h0] at hc
  rw [if_pos h0];refine ⟨none,e344 _ ?_,fun h=>absurd h h0⟩;rw [hc,ah,cond_pos (by simpa using h0)]
theorem PJ {d:List af} (z:Sz d) (h64:d.length≤64) (hf:Fz d):f317 d=some (gZ d):=by
 obtain ⟨X,h,_⟩:=VQ z h64 hf;refine e317 _ ?_;rw [h];rfl
theorem SL {d:List af} (z:Sz d) (h64:d.length≤64) (hf:Fz d):f322 d=some (if gZ d=0 then (gU d,0) else ([],gZ d)):=by
 obtain ⟨X,h,hX⟩:=VQ z h64 hf;refine e322 _ ?_;rw [h,ah];by_cases h0:gZ d=0
 ·rw [cond_neg (by simpa using h0),hX h0,xE,if_pos h0];rfl
 ·rw [cond_pos (by simpa using h0),if_neg h0]
theorem h319 {d:List af} (h64:(dM d).length≤64):∀(xs:List aS) (i:Nat) (o:List aF),(dM d).drop i=xs→o.length≤i→
  x6 (some (WC d)) (dM d) (dM d).length i o=some (o++xs.map (Aj d),0):=by
 intro xs
 induction xs with
 |nil=>intro i o h ho;refine Qj _ _ _ _ _ ?_;rw [aQ h,cond_false,List.map_nil,List.append_nil]
 |cons F xs ih=>
  intro i o h ho;refine Qj _ _ _ _ _ ?_;have hi:=bN h;have hg:(WC d).intro.drop i=(nu d ((nA d F).getD []):Int)::xs.map (fun F=>(nu d ((nA d F).getD []):Int)):=by
   show ((dM d).map _).drop i=_;rw [←List.map_drop,h];rfl
  rw [aT h,cond_true,aM h,xE,aM hg,cF _ (by omega) (by simp) (by omega),aN h (by omega),
   ih (i+1) _ (az h) (by rw [List.length_append];simp;omega),List.append_assoc]
  rfl
theorem SK {d:List af} (z:Sz d) (h64:d.length≤64) (hf:Fz d):f319 d=some (if gZ d=0 then (eX d,0) else ([],gZ d)):=by
 obtain ⟨X,h,hX⟩:=VQ z h64 hf;refine e319 _ ?_;rw [h,ah];by_cases h0:gZ d=0
 ·obtain ⟨O,_,_⟩:=r5 z h64 hf h0
  rw [cond_neg (by simpa using h0),hX h0,xE,if_pos h0];exact h319 O.f64 (dM d) 0 [] rfl (by simp)
 ·rw [cond_pos (by simpa using h0),if_neg h0]
theorem h321 {a:List aF} (ha:a.length≤1000000):∀(xs:List aF) (i:Nat),a.drop i=xs→FC a a i=some true:=by
 intro xs
 induction xs with
 |nil=>intro i h;refine Ql _ _ _ ?_;rw [aQ h];rfl
 |cons x xs ih=>
  intro i h;refine Ql _ _ _ ?_;rw [aT h,cond_true,aM h,aM h,cond_neg (by simp),aN h (by omega)];exact ih (i+1) (az h)
theorem Xk {a:List aF} (ha:a.length≤1000000):f321 a a=some true:=by
 refine e321 _ _ ?_;rw [cond_neg (by simp)];exact h321 ha a 0 rfl
theorem h359 {a:List ai} (ha:a.length≤1000000):∀(xs:List ai) (i:Nat),a.drop i=xs→FG a a i=some true:=by
 intro xs
 induction xs with
 |nil=>intro i h;refine Qy _ _ _ ?_;rw [aQ h];rfl
 |cons x xs ih=>
  intro i h;refine Qy _ _ _ ?_;rw [aT h,cond_true,aM h,aM h,cond_neg (by simp),aN h (by omega)];exact ih (i+1) (az h)
theorem c359 {a:List ai} (ha:a.length≤1000000):f359 a a=some true:=by
 refine e359 _ _ ?_;rw [cond_neg (by simp)];exact h359 ha a 0 rfl
theorem h324 {a:List (List ai)} (ha:a.length≤1000000) (hb:∀x∈a,x.length≤1000000):∀(xs:List (List ai)) (i:Nat),a.drop i=xs→FD a a i=some true:=by
 intro xs
 induction xs with
 |nil=>intro i h;refine Qn _ _ _ ?_;rw [aQ h];rfl
 |cons x xs ih=>
  intro i h;refine Qn _ _ _ ?_;rw [aT h,cond_true,aM h,aM h,c359 (hb x (List.mem_of_getElem? (aZ h))),ah,cond_neg (by simp),aN h (by omega)];exact ih (i+1) (az h)
theorem Xl {a:List (List ai)} (ha:a.length≤1000000) (hb:∀x∈a,x.length≤1000000):f324 a a=some true:=by
 refine e324 _ _ ?_;rw [cond_neg (by simp)];exact h324 ha hb a 0 rfl
theorem kW {d:List af}:(eX d).length=(dM d).length:=by simp [eX]
theorem tn {d:List af}:(gU d).length=(tys d).length:=by simp [gU]
theorem NZ {d:List af}:∀x∈gU d,x.length≤(dM d).length:=by
 intro x hx;obtain ⟨w,_,rfl⟩:=List.mem_map.1 hx;exact y7 _ _
theorem sZ {d:List af} (h:(kn d&&decide (d.length≤12))=true):Sz d∧d.length≤12∧Fz d:=by
 rw [Bool.and_eq_true,decide_eq_true_iff] at h;obtain ⟨z,_,hf⟩:=SX h.1;exact ⟨z,h.2,fun t ht=>by have:=hf t ht;omega⟩
theorem MO (d:List af):f315 d=some (kn d&&decide (d.length≤12)):=by
 refine e315 _ ?_;rw [c38,ah];cases kn d with
 |false=>rfl
 |true=>
  rw [cond_true,Bool.true_and]
  congr 1
  rw [decide_eq_decide];omega
class tA:Prop where
 ex:f316=some true
variable [tA]
theorem wP:f316=some true:=tA.ex
theorem V8 {d:List af}:f300 d=some true:=by
 refine e300 _ ?_;rw [MO,ah,wP];cases hL:(kn d&&decide (d.length≤12)) with
 |false=>rfl
 |true=>
  obtain ⟨z,hlen,hf⟩:=sZ hL;rw [Bool.not_true,cond_false,PJ z (by omega) hf,OE z (by omega) hf,ah,ah,cond_pos (by simp)];rfl
theorem Wa {d:List af}:f301 d=some true:=by
 refine e301 _ ?_;rw [MO,ah,wP];cases hL:(kn d&&decide (d.length≤12)) with
 |false=>rfl
 |true=>
  obtain ⟨z,hlen,hf⟩:=sZ hL;have hfl:=Lr (by omega) hf
  rw [Bool.not_true,cond_false,SK z (by omega) hf,c320 z (by omega) hf,ah,ah,cond_pos (by simp),Xk (by
   split
   ·rw [kW];omega
   ·simp),ah,cond_true];rfl
theorem Wb {d:List af}:f302 d=some true:=by
 refine e302 _ ?_;rw [MO,ah,wP];cases hL:(kn d&&decide (d.length≤12)) with
 |false=>rfl
 |true=>
  obtain ⟨z,hlen,hf⟩:=sZ hL;have hfl:=Lr (by omega) hf
  rw [Bool.not_true,cond_false,SL z (by omega) hf,c323 z (by omega) hf,ah,ah,cond_pos (by simp),Xl (by
   split
   ·rename_i h0
    rw [tn];have:=(r5 z (by omega) hf h0).1.ok.bQ;omega
   ·simp) (by
   split
   ·intro x hx
    have:=NZ x hx;omega
   ·intro x hx;cases hx),ah,cond_true];rfl
end Go.Proofs.YtmidjldjkbljjaaGreatDoor.cl
