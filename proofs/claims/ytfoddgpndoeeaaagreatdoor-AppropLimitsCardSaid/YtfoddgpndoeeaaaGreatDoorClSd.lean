/- Layer 5. -/
import Derived.Test.YtfoddgpndoeeaaaGreatDoorClSb
set_option linter.unusedVariables false
set_option linter.unusedSimpArgs false
set_option linter.unusedSectionVars false
namespace Go.AM
section
variable {K V:Type}
theorem FN (k:K) (v:V):∀l:List (K×V),(dB l k v).map Prod.fst=open Classical in if k∈l.map Prod.fst then l.map Prod.fst else l.map Prod.fst++[k]:=by
 intro l
 induction l with
 |nil=>rw [zT];simp
 |cons x l ih=>
  rw [wj];by_cases h:k=x.1
  ·rw [if_pos h,if_pos (by rw [h];simp),List.map_cons,List.map_cons,h]
  ·rw [if_neg h,List.map_cons,ih,List.map_cons]
   by_cases h2:k∈l.map Prod.fst
   ·rw [if_pos h2,if_pos (List.mem_cons_of_mem _ h2)]
   ·rw [if_neg h2,if_neg (by
     rw [List.mem_cons];rintro (e|e)
     ·exact h e
     ·exact h2 e)];rfl
end
end Go.AM
namespace Go.Proofs.YtfoddgpndoeeaaaGreatDoor.cl
open Go Go.AM
theorem CE {α:Type} (p:α→Bool):∀(xs:List α) (i:Nat),decide (bX p xs i≥0)=xs.any p:=by
 intro xs
 induction xs with
 |nil=>intro i;rfl
 |cons x xs ih=>
  intro i;rw [bX,List.any_cons];cases h:p x with
  |true=>simp
  |false=>rw [←ih (i+1)];simp
theorem Ov (o:List aR):((jH o).map Prod.fst).Nodup∧∀x,x∈(jH o).map Prod.fst↔x∈o:=by
 have key:∀(l:List aR) (m:List (aR×Bool)),(m.map Prod.fst).Nodup→((l.foldl (fun m x=>dB m x true) m).map Prod.fst).Nodup∧∀x,x∈(l.foldl (fun m x=>dB m x true) m).map Prod.fst↔x∈m.map Prod.fst∨x∈l:=by
  intro l
  induction l with
  |nil=>intro m h;exact ⟨h,fun x=>by simp⟩
  |cons y l ih=>
   intro m h;rw [List.foldl_cons];have hk:=FN y true m;have hn:((dB m y true).map Prod.fst).Nodup:=by
    rw [hk];split
    ·exact h
    ·rename_i hy
     rw [List.nodup_append];refine ⟨h,by simp,fun a ha b hb=> ?_⟩;simp only [List.mem_singleton] at hb
     rintro rfl
     exact hy (hb▸ha)
   obtain ⟨a,b⟩:=ih _ hn;refine ⟨a,fun x=> ?_⟩;rw [b,hk];split
   ·rename_i hy
    constructor
    ·rintro (h|h)
     ·exact .inl h
     ·exact .inr (by simp [h])
    ·rintro (h|h)
     ·exact .inl h
     ·rcases List.mem_cons.1 h with rfl|h
      ·exact .inl hy
      ·exact .inr h
   ·rw [List.mem_append,List.mem_singleton,List.mem_cons,or_assoc]
 have:=key o [] (by simp);exact ⟨this.1,fun x=>by rw [jH,this.2];simp⟩
theorem FX (o:List aR):dP Op.bytesLess ((jH o).map Prod.fst)=gw o:=by
 obtain ⟨h1,h2⟩:=Ov o;exact SS.ext (uD h1) (eH o) fun y=>by rw [r6,h2,dr]
theorem I5 (o:List aR):(jH o).length=(gw o).length:=by
 rw [←FX,uE,List.length_map]
theorem h366 {l:List aB} (hl:l.length≤1048576) (t:af):∀(xs:List aB) (i:Nat),l.drop i=xs→As l t l.length i=some (bX (fun c=>c.Name==t.Name) xs i):=by
 intro xs
 induction xs with
 |nil=>intro i h;refine N5 _ _ _ _ ?_;rw [bS h];rfl
 |cons y xs ih=>
  intro i h;refine N5 _ _ _ _ ?_;have h375:f375 y t=some (y.Name==t.Name):=e375 _ _ rfl;rw [bR h,cond_true,bW h,h375,aj,bB h (by omega),ih (i+1) (bf h),bX];cases y.Name==t.Name<;>rfl
theorem o366 {d:List af} (O:Ok d) {t:af} (hx:t.Name∈cU d):f366 (jK d) t=some (nu d t.Name:Int):=by
 have hl:=O.bG;rw [←gF] at hl;refine e366 _ _ ((h366 (l:=jK d) (by omega) t (jK d) 0 rfl).trans ?_);rw [(O.uK hx).1]
noncomputable def Je (d l:List af):List (aR×Int):=l.foldl (fun m t=>dB m t.Name (nu d t.Name:Int)) []
noncomputable abbrev gA (d:List af):List (aR×Int):=Je d d
theorem BF (d l:List af) (x:aR):getM (Je d l) x=if x∈cU l then some (nu d x:Int) else none:=by
 have key:∀(l:List af) (m:List (aR×Int)) (s:List aR),(∀x,getM m x=if x∈s then some (nu d x:Int) else none)→∀x,getM (l.foldl (fun m t=>dB m t.Name (nu d t.Name:Int)) m) x=if x∈s++cU l then some (nu d x:Int) else none:=by
  intro l
  induction l with
  |nil=>intro m s h x;simpa using h x
  |cons y l ih=>
   intro m s h x
   rw [List.foldl_cons,ih _ (s++[y.Name]) (fun z=>by
    rw [ga,h]
    by_cases e:z=y.Name<;>simp [e])]
   simp
 have:=key l [] [] (fun x=>by rw [eO];simp) x;simpa [Je] using this
theorem Kr {d:List af} {x:aR} (h:x∈cU d):getM (gA d) x=some (nu d x:Int):=by rw [gA,BF,if_pos h]
theorem LF {d l:List af} {i:Nat} {t:af} (h:l[i]? =some t):Je d (l.take (i+1))=dB (Je d (l.take i)) t.Name (nu d t.Name:Int):=by
 rw [List.take_add_one,h];simp [Je]
theorem h344 {d:List af} (O:Ok d) {a:List af} {b:List aB} {A:List aR} {B:List Int} {C:List (List ai)} {r:(Option table)×Int} (hr:tO (jK d) d d.length d.length (gA d) d (jK d) a b A B C=some r):∀(xs:List af) (i:Nat),d.drop i=xs→i≤d.length→
  tO (jK d) d d.length i (Je d (d.take i)) d (jK d) a b A B C=some r:=by
 have hl:=O.len;intro xs
 induction xs with
 |nil=>
  intro i h hi;have:i=d.length:=by have:=eG h;omega
  subst this;rw [List.take_length];exact hr
 |cons t xs ih=>
  intro i h hi;refine zk _ _ _ _ _ _ _ _ _ _ _ _ ?_;have Pq:t∈d:=List.mem_of_getElem? (bU h);rw [bR h,cond_true,bW h,o366 O (oc Pq),aj,gT,bB h (by omega),←LF (bU h)];exact ih (i+1) (bf h) (cW h)
theorem h384 {s:List ah} (hs:s.length≤1000) (x:ah):∀(xs:List ah) (i:Nat),s.drop i=xs→Aw s s.length i x=some (bX (fun y=>y.dw==x.dw) xs i):=by
 intro xs
 induction xs with
 |nil=>intro i h;refine Oc _ _ _ _ ?_;rw [bS h];rfl
 |cons y xs ih=>
  intro i h;refine Oc _ _ _ _ ?_;have h388:f388 y x=some (y.dw==x.dw):=e388 _ _ rfl;rw [bR h,cond_true,bW h,h388,aj,bB h (by omega),ih (i+1) (bf h),bX];cases y.dw==x.dw<;>rfl
theorem i381 {s:List ah} (hs:s.length≤1000) (x:ah):f381 s x=some (decide (x.dw∈s.map (·.dw))):=by
 refine e381 _ _ ?_;have:f384 s x=some (bX (fun y=>y.dw==x.dw) s 0):=e384 _ _ (h384 hs x s 0 rfl);rw [this,aj,CE]
 congr 1
 rw [Bool.eq_iff_iff,List.any_eq_true,decide_eq_true_iff,List.mem_map];constructor
 ·rintro ⟨y,hy,e⟩;exact ⟨y,hy,by simpa using e⟩
 ·rintro ⟨y,hy,e⟩;exact ⟨y,hy,by simpa using e⟩
theorem I4 (o:List aR) (x:aR):dB (jH o) x true=jH (o++[x]):=(uH o x).symm
section
variable {d:List af} {N:List (aR×Int)} {B:List Int} {C:List (List ai)} {L:List aB} {A:List aR} {r:Int×(List ((List UInt8)×Int))×(List (List UInt8))×(List Int)×(List (List ai))}
theorem U5 {i:Nat} {t:af} (hi:i<1000000) (ht:t.bT.length≤1000) {o:List aR} (hr:tP d d.length (i+1:Nat) (jH (o++fns t)) d L N A B C=some r):∀(xs:List ah) (k:Nat),t.bT.drop k=xs→k≤t.bT.length→
  Au d d.length i t.bT t.bT.length k t (jH (o++(t.bT.take k).map (·.dw))) d L N A B C=some r:=by
 intro xs
 induction xs with
 |nil=>
  intro k h hk;refine N7 _ _ _ _ _ _ _ _ _ _ _ _ _ _ ?_;have:k=t.bT.length:=by have:=eG h;omega
  subst this;rw [bS h,cond_false,cg (by omega),List.take_length];exact hr
 |cons x xs ih=>
  intro k h hk;refine N7 _ _ _ _ _ _ _ _ _ _ _ _ _ _ ?_;have e:(t.bT.take k).map (·.dw)++[x.dw]=(t.bT.take (k+1)).map (·.dw):=by
   rw [List.take_add_one,bU h];simp
  rw [bR h,cond_true,bW h,gT,bB h (by omega),I4,List.append_assoc,e];exact ih (k+1) (bf h) (cW h)
theorem UZ (hd:d.length≤1000) (hf:Fz d) (hr:tP d d.length d.length (jH (Rk d)) d L N A B C=some r):∀(xs:List af) (i:Nat),d.drop i=xs→i≤d.length→
  tP d d.length i (jH (Rk (d.take i))) d L N A B C=some r:=by
 intro xs
 induction xs with
 |nil=>
  intro i h hi;have:i=d.length:=by have:=eG h;omega
  subst this;rw [List.take_length];exact hr
 |cons t xs ih=>
  intro i h hi;refine N6 _ _ _ _ _ _ _ _ _ _ ?_;have ht:=hf t (List.mem_of_getElem? (bU h));rw [bR h,cond_true,bW h];have hs:=ih (i+1) (bf h) (cW h);have e:Rk (d.take (i+1))=Rk (d.take i)++fns t:=by
   rw [List.take_add_one,bU h];simp [Rk]
  rw [e] at hs;have:=U5 (by omega) ht hs t.bT 0 rfl (by omega);simpa using this
theorem U7 {i:Nat} {t:af} {M:List (aR×Bool)} (hi:i<1000000) (hd:d.length≤1000) (hN:∀x,(getM N x).isSome=decide (x∈cU d)) (ht:t.bT.length≤1000) {R:Int×(List ((List UInt8)×Int))×(List (List UInt8))×(List Int)×(List (List ai))}
  (hr:sg d d.length (i+1:Nat) M d L N A B C=some R):∀(xs:List ah) (k:Nat),t.bT.drop k=xs→
  vm d d.length i t.bT t.bT.length k t M d L N A B C=some (if K5 (cU d) ((t.bT.take k).map (·.dw)) xs=0 then R else (K5 (cU d) ((t.bT.take k).map (·.dw)) xs,N,A,B,C)):=by
 intro xs
 induction xs with
 |nil=>
  intro k h;refine Ki _ _ _ _ _ _ _ _ _ _ _ _ _ _ ?_;rw [bS h,cond_false,cg (by omega),hr];rfl
 |cons x xs ih=>
  intro k h;refine Ki _ _ _ _ _ _ _ _ _ _ _ _ _ _ ?_;have hk:=cW h;have e:(t.bT.take k).map (·.dw)++[x.dw]=(t.bT.take (k+1)).map (·.dw):=by
   rw [List.take_add_one,bU h];simp
  rw [bR h,cond_true,bW h,i380,aj];unfold K5;cases h1:oV x.dw with
  |false=>rfl
  |true=>
   rw [Bool.not_true,cond_false,if_neg (by simp:¬(true=false)),bg ⟨by omega,by omega⟩,Int.toNat_natCast,List.drop_zero,i381 (by rw [List.length_take];omega),aj];by_cases h2:x.dw∈(t.bT.take k).map (·.dw)
   ·rw [if_pos h2,cond_pos (by simpa using h2)];rfl
   ·rw [if_neg h2,cond_neg (by simpa using h2)]
    have hx:=hN x.Value;by_cases h3:x.Value∈cU d
    ·rw [if_pos h3,e]
     cases hg:getM N x.Value with
     |none=>rw [hg] at hx;simp [h3] at hx
     |some v=>
      rw [dz hg,bB h (by omega)];exact ih (k+1) (bf h)
    ·rw [if_neg h3]
     cases hg:getM N x.Value with
     |some v=>rw [hg] at hx;simp [h3] at hx
     |none=>rw [gz hg];rfl
theorem U6 {M:List (aR×Bool)} (hd:d.length≤1000) (hf:Fz d) (hN:∀x,(getM N x).isSome=decide (x∈cU d)) (hM:M.length≤1000000) (hA:A.length≤1000000):∀(xs:List af) (i:Nat),d.drop i=xs→
  sg d d.length i M d L N A B C=some (if iO (cU d) xs=0 then (0,N,dP Op.bytesLess (A++M.map Prod.fst),B,C) else (iO (cU d) xs,N,A,B,C)):=by
 intro xs
 induction xs with
 |nil=>
  intro i h;refine Kh _ _ _ _ _ _ _ _ _ _ ?_;rw [bS h,cond_false,bg (by omega)];rfl
 |cons t xs ih=>
  intro i h;refine Kh _ _ _ _ _ _ _ _ _ _ ?_;have hi:=cW h;have ht:=hf t (List.mem_of_getElem? (bU h));rw [bR h,cond_true,bW h];refine (U7 (by omega) hd hN ht (ih (i+1) (bf h)) t.bT 0 rfl).trans ?_;rw [List.take_zero,List.map_nil,show iO (cU d) (t::xs)=if K5 (cU d) [] t.bT=0 then iO (cU d) xs else K5 (cU d) [] t.bT from rfl];by_cases h0:K5 (cU d) [] t.bT=0
  ·rw [if_pos h0,if_pos h0]
  ·rw [if_neg h0,if_neg h0,if_neg h0]
end
theorem i367 {d:List af} (hd:d.length≤64) (hf:Fz d) {N:List (aR×Int)} (hN:∀x,(getM N x).isSome=decide (x∈cU d)) {L:List aB} {B:List Int} {C:List (List ai)}:
  f367 d L N [] B C=some (if (iZ d).length>64 then (7,N,[],B,C) else if iO (cU d) d=0 then (0,N,iZ d,B,C) else (iO (cU d) d,N,[],B,C)):=by
 refine e367 _ _ _ _ _ _ ?_;have hlen:=I5 (Rk d);refine UZ (by omega) hf ?_ d 0 rfl (by omega);refine N6 _ _ _ _ _ _ _ _ _ _ ?_;rw [cond_neg (by simp),hlen];by_cases h:(iZ d).length>64
 ·rw [if_pos h,cond_pos (by rw [decide_eq_true_iff];unfold iZ at h;omega)]
 ·have hl:(jH (Rk d)).length≤1000000:=by rw [hlen];unfold iZ at h;omega
  rw [if_neg h,cond_neg (by rw [decide_eq_false_iff_not];unfold iZ at h;omega),show (0:Int)=((0:Nat):Int) from rfl,U6 (by omega) hf hN hl (by simp) d 0 rfl,List.nil_append,FX];rfl
theorem Vb {s:List ah} (hs:s.length≤1000) (F:aR):∀(xs:List ah) (i:Nat),s.drop i=xs→vn s F s.length i=some (bX (fun y=>y.dw==F) xs i):=by
 intro xs
 induction xs with
 |nil=>intro i h;refine Kj _ _ _ _ ?_;rw [bS h];rfl
 |cons y xs ih=>
  intro i h;refine Kj _ _ _ _ ?_;have h389:f389 y F=some (y.dw==F):=e389 _ _ rfl;rw [bR h,cond_true,bW h,h389,aj,bB h (by omega),ih (i+1) (bf h),bX];cases y.dw==F<;>rfl
theorem VS {t:af} (hs:t.bT.length≤1000) (F:aR):M8 t.bT F=some (val t F).isSome:=by
 refine UL _ _ ?_;have:M9 t.bT F=some (bX (fun y=>y.dw==F) t.bT 0):=UM _ _ (Vb hs F t.bT 0 rfl);rw [this,aj,CE]
 congr 1
 rw [Bool.eq_iff_iff,List.any_eq_true,JD];constructor
 ·rintro ⟨y,hy,e⟩;exact ⟨y,hy,by simpa using e⟩
 ·rintro ⟨y,hy,e⟩;exact ⟨y,hy,by simpa using e⟩
noncomputable def xG (d:List af) (U:List aR):List Int:=U.map fun x=>(nu d x:Int)
theorem pJ {d:List af} (U:List aR):(xG d U).length=U.length:=by simp [xG]
theorem od {d:List af} {U:List aR} {i:Nat} {x:aR} {xs:List aR} (h:U.drop i=x::xs):(xG d U).drop i=(nu d x:Int)::xG d xs:=by
 unfold xG;rw [←List.map_drop,h];rfl
theorem Ks {d:List af} {U:List aR} {i:Nat} (h:U.drop i=[]):(xG d U).drop i=[]:=by
 unfold xG;rw [←List.map_drop,h];rfl
section
variable {d:List af} (O:Ok d) (hf:Fz d) {A:List aR} {B:List Int} {C:List (List ai)}
include O hf
theorem h376 (F:aR):∀(xs:List af) (i:Nat) (U:List aR),d.drop i=xs→U.length≤i→
  qc F d d.length i (xG d U) d (jK d) (gA d) A B C=some (xG d (U++dV xs F)):=by
 have hl:=O.len;intro xs
 induction xs with
 |nil=>
  intro i U h hU;refine N8 _ _ _ _ _ _ _ _ _ _ _ ?_;rw [bS h];simp [dV]
 |cons t xs ih=>
  intro i U h hU;refine N8 _ _ _ _ _ _ _ _ _ _ _ ?_;have Pq:t∈d:=List.mem_of_getElem? (bU h);have hi:=cW h;rw [bR h,cond_true,bW h,VS (hf t Pq),aj,bB h (by omega)];cases hv:(val t F).isSome with
  |false=>
   rw [cond_false,ih (i+1) U (bf h) (by omega)];have:dV (t::xs) F=dV xs F:=by simp [dV,List.filter_cons,hv]
   rw [this]
  |true=>
   rw [cond_true,dz (Kr (oc Pq)),eo _ (by rw [pJ];omega) (by simp) (by omega)];have:dV (t::xs) F=t.Name::dV xs F:=by simp [dV,List.filter_cons,hv]
   have e:xG d U++[(nu d t.Name:Int)]=xG d (U++[t.Name]):=by simp [xG]
   rw [e,ih (i+1) (U++[t.Name]) (bf h) (by rw [List.length_append];simp;omega),this,List.append_assoc];rfl
theorem VQ (F:aR):f376 F d (jK d) (gA d) A B C=some (xG d (dV d F)):=by
 refine e376 _ _ _ _ _ _ _ ?_;exact h376 O hf F d 0 [] rfl (by simp)
omit hf in
theorem UT {U:List aR} (hU:∀x∈U,x∈cU d) (Vf:U.length≤1000) {u:aR} (hu:u∈cU d):∀(xs:List aR) (i:Nat),U.drop i=xs→
  vk (xG d U) (xG d U).length i (nu d u) d (jK d) (gA d) A B C=some (bX (fun v=> !sub (cwd d v) (cwd d u)) xs i):=by
 intro xs
 induction xs with
 |nil=>intro i h;refine Ke _ _ _ _ _ _ _ _ _ _ ?_;rw [bS (Ks (d:=d) h)];rfl
 |cons x xs ih=>
  intro i h;refine Ke _ _ _ _ _ _ _ _ _ _ ?_;have hx:=hU x (List.mem_of_getElem? (bU h));have s1:=O.uK hx;have s2:=O.uK hu;have h390:f390 (nu d x) (nu d u) d (jK d) (gA d) A B C=some (!sub (cwd d x) (cwd d u)):=by
   refine e390 _ _ _ _ _ _ _ _ ?_;rw [qy O.cd s2.2.1 s1.2.1,s1.2.2.1,s2.2.2.1];rfl
  rw [bR (od (d:=d) h),cond_true,bW (od (d:=d) h),h390,aj,bB (od (d:=d) h) (by rw [pJ];omega),ih (i+1) (bf h),bX];cases (!sub (cwd d x) (cwd d u))<;>rfl
omit hf in
theorem i382 {U:List aR} (hU:∀x∈U,x∈cU d) (Vf:U.length≤1000) {u:aR} (hu:u∈cU d):
  f382 (nu d u) (xG d U) d (jK d) (gA d) A B C=some (!U.any fun v=> !sub (cwd d v) (cwd d u)):=by
 refine e382 _ _ _ _ _ _ _ _ ?_;have:SC (xG d U) (nu d u) d (jK d) (gA d) A B C=some (U.any fun v=> !sub (cwd d v) (cwd d u)):=by
  refine e67a _ _ _ _ _ _ _ _ ?_;have:M5 (xG d U) (nu d u) d (jK d) (gA d) A B C=some (bX (fun v=> !sub (cwd d v) (cwd d u)) U 0):=UG _ _ _ _ _ _ _ _ (UT O hU Vf hu U 0 rfl);rw [this,aj,CE]
 rw [this];rfl
omit hf in
theorem US {U:List aR} (hU:∀x∈U,x∈cU d) (Vf:U.length≤1000):∀(xs:List aR) (i:Nat),U.drop i=xs→
  vj (xG d U) (xG d U).length i (xG d U) d (jK d) (gA d) A B C=some (bX (fun u=> !U.any fun v=> !sub (cwd d v) (cwd d u)) xs i):=by
 intro xs
 induction xs with
 |nil=>intro i h;refine Kd _ _ _ _ _ _ _ _ _ _ ?_;rw [bS (Ks (d:=d) h)];rfl
 |cons x xs ih=>
  intro i h;refine Kd _ _ _ _ _ _ _ _ _ _ ?_;have hx:=hU x (List.mem_of_getElem? (bU h));rw [bR (od (d:=d) h),cond_true,bW (od (d:=d) h),i382 O hU Vf hx,aj,bB (od (d:=d) h) (by rw [pJ];omega),ih (i+1) (bf h),bX];cases (!U.any fun v=> !sub (cwd d v) (cwd d x))<;>rfl
omit hf in
theorem L4 {F:aR}:(dV d F).length≤d.length:=by
 unfold dV;rw [List.length_map];exact List.length_filter_le _ _
omit hf in
theorem Mn {F u:aR} (hu:u∈cU d):(!(dV d F).any fun v=> !sub (cwd d v) (cwd d u))=true↔∀v∈dV d F,Le d u v:=by
 rw [Bool.not_eq_true',List.any_eq_false];constructor
 ·intro h v hv
  have:=h v hv;simp only [Bool.not_eq_true',Bool.not_eq_false] at this;exact (yU (oz hv)).1 this
 ·intro h v hv
  have:=(yU (oz hv)).2 (h v hv);rw [cwd,cwd,this];simp
theorem h368:∀(xs:List aR) (i:Nat) (o:List Int),(iZ d).drop i=xs→(iZ d).length≤1000→o.length≤i→
  ∃X,wI (iZ d).length i d (jK d) (gA d) (iZ d) o C=some (if iG d xs=true then 10 else 0,gA d,iZ d,X,C)∧(iG d xs=false→X=o++xs.map fun F=>(nu d ((tr d F).getD []):Int)):=by
 have hl:=O.len;intro xs
 induction xs with
 |nil=>
  intro i o h hfl ho;refine ⟨o,?_,fun _=>by simp⟩;refine Ij _ _ _ _ _ _ _ _ ?_;rw [bS h];rfl
 |cons F xs ih=>
  intro i o h hfl ho;have hU:∀x∈dV d F,x∈cU d:=fun x hx=>oz hx
  have Vf:=L4 O (F:=F);have hi:=cW h;have hA:M4 (xG d (dV d F)) (xG d (dV d F)) d (jK d) (gA d) (iZ d) o C=some (bX (fun u=> !(dV d F).any fun v=> !sub (cwd d v) (cwd d u)) (dV d F) 0):=
   UF _ _ _ _ _ _ _ _ (US O hU (by omega) _ 0 rfl)
  by_cases hex:∃u∈dV d F,(!(dV d F).any fun v=> !sub (cwd d v) (cwd d u))=true
  ·obtain ⟨j,hj,e1,e2,_⟩:=C6 (fun u=> !(dV d F).any fun v=> !sub (cwd d v) (cwd d u)) (dV d F) 0 hex
   rw [Nat.zero_add] at e1;have hun:=hU _ (List.getElem_mem hj);have hin:tr d F=some (dV d F)[j]:=(FI O.acc).2 ⟨List.getElem_mem hj,(Mn O hun).1 e2⟩;obtain ⟨X,h1,h2⟩:=ih (i+1) (o++[(nu d (dV d F)[j]:Int)]) (bf h) hfl (by rw [List.length_append];simp;omega);have hno:iG d (F::xs)=iG d xs:=by unfold iG;rw [List.any_cons,hin];rfl
   refine ⟨X,?_,fun hx=> ?_⟩
   ·refine Ij _ _ _ _ _ _ _ _ ?_
    have hj':j<(xG d (dV d F)).length:=by rw [pJ];exact hj
    have hjv:(xG d (dV d F))[j]=(nu d (dV d F)[j]:Int):=by simp [xG]
    rw [bR h,cond_true,mj h,mg h,VQ O hf,aj,hA,aj,e1,cond_neg (by rw [decide_eq_false_iff_not];omega),fR hj',hjv,eo _ (by omega) (by simp) (by omega),bB h (by omega),h1,hno]
   ·rw [hno] at hx
    rw [h2 hx,List.append_assoc,List.map_cons,hin];rfl
  ·have hneg:bX (fun u=> !(dV d F).any fun v=> !sub (cwd d v) (cwd d u)) (dV d F) 0<0:=by
    rw [C4];intro u hu;cases hb:(!(dV d F).any fun v=> !sub (cwd d v) (cwd d u)) with
    |false=>rfl
    |true=>exact absurd ⟨u,hu,hb⟩ hex
   have hin:tr d F=none:=by
    cases hi:tr d F with
    |none=>rfl
    |some u=>
     obtain ⟨a,b⟩:=(FI O.acc).1 hi;exact absurd ⟨u,a,(Mn O (oz a)).2 b⟩ hex
   have hno:iG d (F::xs)=true:=by unfold iG;rw [List.any_cons,hin];rfl
   refine ⟨o,?_,fun hx=>by rw [hno] at hx;cases hx⟩;refine Ij _ _ _ _ _ _ _ _ ?_;rw [bR h,cond_true,mj h,mg h,VQ O hf,aj,hA,aj,cond_pos (by rw [decide_eq_true_iff];exact hneg),if_pos hno]
omit hf in
theorem Tl {x:aR} (hx:x∈cU d):f383 x d (jK d) (gA d) A B C=some (e1 (cwd d x)):=by
 refine e383 _ _ _ _ _ _ _ ?_;rw [dz (Kr hx),fR (O.R1 hx),O.PW hx (O.R1 hx)]
def Mp (M:List (aR×List Int)) (g:aR→Option Nat):Prop:=∀F,getM M F=(g F).map e1
omit hf in
theorem i385 {M:List (aR×List Int)} {g:aR→Option Nat} (hM:Mp M g) (hg:∀F c,g F=some c→c<18446744073709551616) {x:ah} (hx:x.Value∈cU d):
  ∃M',f385 x d (jK d) M (gA d) A B C=some ((),M')∧Mp M' fun F=>if F=x.dw then some (comb (g F) (cwd d x.Value)) else g F:=by
 refine ⟨dB M x.dw (e1 (comb (g x.dw) (cwd d x.Value))),?_,fun F=> ?_⟩
 ·refine e385 _ _ _ _ _ _ _ _ ?_
  rw [Tl O hx,aj];have h:=hM x.dw;cases Vo:g x.dw with
  |none=>
   rw [Vo] at h;rw [gz h];rfl
  |some c=>
   rw [Vo] at h;rw [dz h,F5 (hg _ _ Vo) (O.MP _),aj];rfl
 ·rw [ga]
  show _=Option.map e1 (if F=x.dw then some (comb (g F) (cwd d x.Value)) else g F);by_cases e:F=x.dw
  ·rw [if_pos e,if_pos e,e];rfl
  ·rw [if_neg e,if_neg e,hM F]
omit hf in
theorem JU {g:Option Nat} {c:Nat} (hg:∀a,g=some a→a<18446744073709551616) (hc:c<18446744073709551616):comb g c<18446744073709551616:=by
 cases g with
 |none=>exact hc
 |some a=>exact Nat.lt_of_le_of_lt Nat.and_le_left (hg a rfl)
omit hf in
theorem Va {i T:Nat} {t:af} (ht:t.bT.length≤1000) (hi:i<1000000) (hV:∀x∈t.bT,x.Value∈cU d) {gg:aR→Option Nat}:∀(xs:List ah) (k:Nat) (M:List (aR×List Int)) (g:aR→Option Nat),t.bT.drop k=xs→(xs.map (·.dw)).Nodup→
  Mp M g→(∀F c,g F=some c→c<18446744073709551616)→(∀F,gg F=match xs.find? (fun x=>x.dw==F) with|some x=>some (comb (g F) (cwd d x.Value))|none=>g F)→
  ∃M1,Mp M1 gg∧∀r,qd T d d.length (i+1:Nat) M1 d (jK d) (gA d) A B C=some r→tR T d d.length i t.bT t.bT.length k t M d (jK d) (gA d) A B C=some r:=by
 intro xs
 induction xs with
 |nil=>
  intro k M g h hn hM hg hgg;refine ⟨M,fun F=>by rw [hM F,hgg F];rfl,fun r hr=> ?_⟩;refine N9 _ _ _ _ _ _ _ _ _ _ _ _ _ _ _ ?_;rw [bS h,cond_false,cg (by omega)];exact hr
 |cons x xs ih=>
  intro k M g h hn hM hg hgg;have hx:=hV x (List.mem_of_getElem? (bU h));obtain ⟨M',h1,h2⟩:=i385 O (A:=A) (B:=B) (C:=C) hM hg hx;rw [List.map_cons,List.nodup_cons] at hn
  obtain ⟨M1,a,b⟩:=ih (k+1) M' _ (bf h) hn.2 h2 (fun F c hc=>by
   split at hc
   ·injection hc with hc
    rw [←hc];exact JU O (fun a ha=>hg F a ha) (O.MP _)
   ·exact hg F c hc) (fun F=>by
   rw [hgg F,List.find?_cons];by_cases e:F=x.dw
   ·have e':(x.dw==F)=true:=by simp [e]
    rw [e'];have hno:xs.find? (fun y=>y.dw==F)=none:=by
     rw [List.find?_eq_none];intro y hy hyF;exact hn.1 (List.mem_map.2 ⟨y,hy,by rw [←e];simpa using hyF⟩)
    rw [hno,if_pos e]
   ·have e':(x.dw==F)=false:=by simpa using fun h=>e h.symm
    rw [e']
    simp only [if_neg e])
  refine ⟨M1,a,fun r hr=> ?_⟩;refine N9 _ _ _ _ _ _ _ _ _ _ _ _ _ _ _ ?_;rw [bR h,cond_true,bW h,h1,jo,bB h (by omega)];exact b r hr
theorem TW {w:Nat} {F:aR} {o:Option Nat} {t:af} (ho:∀c,o=some c→c<18446744073709551616):∀c,Bc d w F o t=some c→c<18446744073709551616:=by
 intro c hc;unfold Bc at hc;split at hc
 ·split at hc
  ·injection hc with hc
   rw [←hc];exact JU O ho (O.MP _)
  ·exact ho c hc
 ·exact ho c hc
theorem h377 (hV:Vd d) (hn:∀t∈d,(fns t).Nodup) {T:Nat} (hT:T<(tys d).length):∀(xs:List af) (i:Nat) (M:List (aR×List Int)) (g:aR→Option Nat),d.drop i=xs→Mp M g→(∀F c,g F=some c→c<18446744073709551616)→
  ∃M',qd T d d.length i M d (jK d) (gA d) A B C=some M'∧Mp M' fun F=>xs.foldl (Bc d ((tys d).getD T 0) F) (g F):=by
 have hl:=O.len;intro xs
 induction xs with
 |nil=>
  intro i M g h hM hg;refine ⟨M,Im _ _ _ _ _ _ _ _ _ _ _ ?_,hM⟩;rw [bS h];rfl
 |cons t xs ih=>
  intro i M g h hM hg;have Pq:t∈d:=List.mem_of_getElem? (bU h);have hi:=cW h;have hT':T<(jK d).length:=by rw [gF];exact hT
  cases hs:sub ((tys d).getD T 0) (cwd d t.Name) with
  |false=>
   obtain ⟨M',h1,h2⟩:=ih (i+1) M g (bf h) hM hg;refine ⟨M',Im _ _ _ _ _ _ _ _ _ _ _ ?_,fun F=> ?_⟩
   ·rw [bR h,cond_true,bW h,fR hT',Tl O (oc Pq),aj,O.cd.code,o63 (O.lt hT) (O.MP _),aj,hs,cond_false,bB h (by omega),h1]
   ·rw [h2 F]
    show Option.map e1 (xs.foldl _ _)=Option.map e1 ((t::xs).foldl _ _);rw [List.foldl_cons];have:Bc d ((tys d).getD T 0) F (g F) t=g F:=by
     unfold Bc;rw [hs];cases val t F<;>simp
    rw [this]
  |true=>
   have hstp:∀F,Bc d ((tys d).getD T 0) F (g F) t=match t.bT.find? (fun x=>x.dw==F) with|some x=>some (comb (g F) (cwd d x.Value))|none=>g F:=by
    intro F;unfold Bc val;rw [hs];cases t.bT.find? (fun x=>x.dw==F) with
    |none=>rfl
    |some x=>rfl
   have hg2:∀F c,Bc d ((tys d).getD T 0) F (g F) t=some c→c<18446744073709551616:=fun F c hc=>TW O hf (fun c hc=>hg F c hc) c hc
   have hex:∀M',Mp M' (fun F=>Bc d ((tys d).getD T 0) F (g F) t)→∃Pz,qd T d d.length (i+1:Nat) M' d (jK d) (gA d) A B C=some Pz∧Mp Pz fun F=>xs.foldl (Bc d ((tys d).getD T 0) F) (Bc d ((tys d).getD T 0) F (g F) t):=
    fun M' hM'=>ih (i+1) M' _ (bf h) hM' hg2
   have hsome:∃Pz,tR T d d.length i t.bT t.bT.length 0 t M d (jK d) (gA d) A B C=some Pz∧Mp Pz fun F=>xs.foldl (Bc d ((tys d).getD T 0) F) (Bc d ((tys d).getD T 0) F (g F) t):=by
    obtain ⟨M1,hM1⟩:∃M1,Mp M1 (fun F=>Bc d ((tys d).getD T 0) F (g F) t)∧∀r,qd T d d.length (i+1:Nat) M1 d (jK d) (gA d) A B C=some r→tR T d d.length i t.bT t.bT.length 0 t M d (jK d) (gA d) A B C=some r:=
     Va O (hf t Pq) (by omega) (fun x hx=>hV t Pq x hx) t.bT 0 M g rfl (hn t Pq) hM hg hstp
    obtain ⟨Pz,a,b⟩:=hex M1 hM1.1;exact ⟨Pz,hM1.2 _ a,b⟩
   obtain ⟨Pz,a,b⟩:=hsome;refine ⟨Pz,Im _ _ _ _ _ _ _ _ _ _ _ ?_,fun F=>by rw [b F];rfl⟩;rw [bR h,cond_true,bW h,fR hT',Tl O (oc Pq),aj,O.cd.code,o63 (O.lt hT) (O.MP _),aj,hs,cond_true];exact a
end
end Go.Proofs.YtfoddgpndoeeaaaGreatDoor.cl
set_option linter.unusedVariables false
set_option linter.unusedSimpArgs false
set_option linter.unusedSectionVars false
namespace Go.Proofs.YtfoddgpndoeeaaaGreatDoor.cl
open Go Go.AM
theorem Qa {d:List af} (O:Ok d) (hV:Vd d) {w:Nat} {F:aR} {c:Nat} (h:inh d w F=some c):Ni (tys d) c<0↔c=0:=by
 constructor
 ·intro hn
  rcases NK O hV h with h0|h0
  ·exact h0
  ·obtain ⟨i,_,_,e⟩:=J1 h0
   omega
 ·rintro rfl
  rw [Qb (fun hm=>O.Qj.nz 0 hm rfl)];omega
section
variable {d:List af} (O:Ok d) (hf:Fz d) (h3:iO (cU d) d=0) (h64:(iZ d).length≤64) {B:List Int}
include O hf h3 h64
theorem i377 {A:List aR} {C:List (List ai)} {T:Nat} (hT:T<(tys d).length):∃M,f377 T d (jK d) (gA d) A B C=some M∧Mp M (fun F=>inh d ((tys d).getD T 0) F):=by
 obtain ⟨M,h1,h2⟩:=h377 O hf (A:=A) (B:=B) (C:=C) (GX h3) (fun t ht=>((y5 _ d).1 h3 t ht).2) hT d 0 [] (fun _=>none) rfl (fun F=>by rw [eO];rfl) (fun F c h=>by cases h);exact ⟨M,e377 _ _ _ _ _ _ _ h1,h2⟩
theorem U9 {M:List (aR×List Int)} {T:Nat} (hT:T<(tys d).length) (hM:Mp M (fun F=>inh d ((tys d).getD T 0) F)) {o:List (List ai)} (ho:o.length≤T):∀(xs:List aR) (k:Nat) (row:List ai),(iZ d).drop k=xs→row.length≤k→
  ((xs.any fun F=>inh d ((tys d).getD T 0) F==some 0)=true→rG M (jK d).length T (iZ d).length k row d (jK d) (gA d) (iZ d) B o=some (11,gA d,iZ d,B,o))∧
  ((xs.any fun F=>inh d ((tys d).getD T 0) F==some 0)=false→∀r,tQ (jK d).length (T+1:Nat) d (jK d) (gA d) (iZ d) B (o++[row++Aa d ((tys d).getD T 0) xs k])=some r→rG M (jK d).length T (iZ d).length k row d (jK d) (gA d) (iZ d) B o=some r):=by
 have hl:=O.bG;intro xs
 induction xs with
 |nil=>
  intro k row h hrow;refine ⟨fun h=>by simp at h,fun _ r hr=> ?_⟩;refine vI _ _ _ _ _ _ _ _ _ _ _ _ ?_;rw [bS h,cond_false,eo _ (by omega) (by simp) (by omega),cg (by omega)]
  rwa [Aa,List.append_nil] at hr
 |cons F xs ih=>
  intro k row h hrow;have hk:=cW h;have SJ:getM M F=(inh d ((tys d).getD T 0) F).map e1:=hM F;rw [List.any_cons];cases hin:inh d ((tys d).getD T 0) F with
  |none=>
   rw [hin] at SJ;obtain ⟨a,b⟩:=ih (k+1) row (bf h) (by omega);have e:((none:Option Nat)==some 0)=false:=rfl;rw [e,Bool.false_or];constructor
   ·intro hx
    refine vI _ _ _ _ _ _ _ _ _ _ _ _ ?_;rw [bR h,cond_true,mj h,mg h,gz SJ,bB h (by omega)];exact a hx
   ·intro hx r hr
    refine vI _ _ _ _ _ _ _ _ _ _ _ _ ?_;rw [bR h,cond_true,mj h,mg h,gz SJ,bB h (by omega)];refine b hx r ?_;unfold Aa at hr;rw [hin] at hr;exact hr
  |some c=>
   rw [hin] at SJ;have hc:=Tm O (GX h3) hin;have hneg:=Qa O (GX h3) hin;by_cases h0:c=0
   ·have e:(some c==some 0)=true:=by simp [h0]
    rw [e,Bool.true_or];refine ⟨fun _=> ?_,fun hx=>by cases hx⟩;refine vI _ _ _ _ _ _ _ _ _ _ _ _ ?_;rw [bR h,cond_true,mj h,mg h,dz SJ,o18 O.cd hc,aj,cond_pos (by rw [decide_eq_true_iff];exact hneg.2 h0)]
   ·have e:(some c==some 0)=false:=by simpa using h0
    rw [e,Bool.false_or];obtain ⟨a,b⟩:=ih (k+1) (row++[⟨(k:Int),Ni (tys d) c⟩]) (bf h) (by rw [List.length_append];simp;omega);constructor
    ·intro hx
     refine vI _ _ _ _ _ _ _ _ _ _ _ _ ?_;rw [bR h,cond_true,mj h,mg h,dz SJ,o18 O.cd hc,aj,cond_neg (by rw [decide_eq_false_iff_not];exact fun hh=>h0 (hneg.1 hh)),eo _ (by omega) (by simp) (by omega),bB h (by omega)];exact a hx
    ·intro hx r hr
     refine vI _ _ _ _ _ _ _ _ _ _ _ _ ?_;rw [bR h,cond_true,mj h,mg h,dz SJ,o18 O.cd hc,aj,cond_neg (by rw [decide_eq_false_iff_not];exact fun hh=>h0 (hneg.1 hh)),eo _ (by omega) (by simp) (by omega),bB h (by omega)];refine b hx r ?_;unfold Aa at hr;rw [hin] at hr;rw [List.append_assoc];exact hr
theorem h369:∀(xs:List Nat) (T:Nat) (o:List (List ai)),(tys d).drop T=xs→o.length≤T→
  ∃X,tQ (jK d).length T d (jK d) (gA d) (iZ d) B o=some (if kz d xs=true then 11 else 0,gA d,iZ d,B,X)∧(kz d xs=false→X=o++xs.map fun w=>Aa d w (iZ d) 0):=by
 have hl:=O.bG;intro xs
 induction xs with
 |nil=>
  intro T o h ho;refine ⟨o,Il _ _ _ _ _ _ _ _ ?_,fun _=>by simp⟩;rw [gF,bS h];rfl
 |cons w xs ih=>
  intro T o h ho;have hT:=cW h;have hw:(tys d).getD T 0=w:=by rw [List.getD_eq_getElem?_getD,bU h];rfl
  obtain ⟨M,hM1,hM2⟩:=i377 O hf h3 h64 (A:=iZ d) (B:=B) (C:=o) hT;obtain ⟨a,b⟩:=U9 O hf h3 h64 (B:=B) hT hM2 ho (iZ d) 0 [] rfl (by simp);rw [hw] at a b;cases hz:(iZ d).any fun F=>inh d w F==some 0 with
  |true=>
   have Nu:kz d (w::xs)=true:=by unfold kz;rw [List.any_cons,hz];rfl
   refine ⟨o,Il _ _ _ _ _ _ _ _ ?_,fun hx=>by rw [Nu] at hx;cases hx⟩;rw [gF,bR h,cond_true,hM1,aj,if_pos Nu,←gF];exact a hz
  |false=>
   have Nu:kz d (w::xs)=kz d xs:=by unfold kz;rw [List.any_cons,hz];rfl
   obtain ⟨X,h1,h2⟩:=ih (T+1) (o++[[]++Aa d w (iZ d) 0]) (bf h) (by rw [List.length_append];simp;omega);refine ⟨X,Il _ _ _ _ _ _ _ _ ?_,fun hx=> ?_⟩
   ·rw [gF,bR h,cond_true,hM1,aj,Nu,←gF]
    exact b hz _ h1
   ·rw [Nu] at hx
    rw [h2 hx,List.append_assoc];rfl
end
noncomputable def TY (d:List af):table:=⟨d,jK d,gA d,iZ d,(iZ d).map (fun F=>(nu d ((tr d F).getD []):Int)),GU d⟩
theorem Tk {d:List af} (z:Sz d) (h64:d.length≤64) (hf:Fz d):∃X,f344 d=some (X,kB d)∧(kB d=0→X=some (TY d)):=by
 have hc:=i14s z h64;unfold kB;by_cases h0:AI d=0
 ·rw [if_neg (by simpa using h0)] at hc
  rw [if_neg (by simpa using h0)];by_cases h1:(qA (jr d)).length>256
  ·rw [if_pos h1] at hc
   rw [if_pos h1];refine ⟨none,e344 _ ?_,fun h=>by cases h⟩;rw [hc];rfl
  ·rw [if_neg h1] at hc
   rw [if_neg h1];have O:=R2 z h64 h0 h1;have hN:∀x,(getM (gA d) x).isSome=decide (x∈cU d):=by
    intro x;rw [gA,BF];by_cases h:x∈cU d<;>simp [h]
   have h367:=i367 h64 hf hN (L:=jK d) (B:=[]) (C:=[]);have start:∀{r},tO (jK d) d d.length d.length (gA d) d (jK d) [] [] [] [] []=some r→f344 d=some r:=by
    intro r hr;refine e344 _ ?_;rw [hc,aj,cond_neg (by simp)];exact h344 O hr d 0 rfl (by omega)
   by_cases h2:(iZ d).length>64
   ·rw [if_pos h2] at h367
    rw [if_pos h2];refine ⟨none,start (zk _ _ _ _ _ _ _ _ _ _ _ _ ?_),fun h=>by cases h⟩;rw [cond_neg (by simp),h367,jq];rfl
   ·rw [if_neg h2] at h367
    rw [if_neg h2];by_cases h3:iO (cU d) d=0
    ·rw [if_pos h3] at h367
     rw [if_neg (by simpa using h3)];obtain ⟨X1,a1,a2⟩:=h368 O hf (C:=[]) (iZ d) 0 [] rfl (by omega) (by simp);have J3:f368 d (jK d) (gA d) (iZ d) [] []=some (if iG d (iZ d)=true then 10 else 0,gA d,iZ d,X1,[]):=e368 _ _ _ _ _ _ a1;cases h4:iG d (iZ d) with
     |true=>
      rw [h4,if_pos rfl] at J3;rw [if_pos rfl];refine ⟨none,start (zk _ _ _ _ _ _ _ _ _ _ _ _ ?_),fun h=>by cases h⟩;rw [cond_neg (by simp),h367,jq,cond_neg (by simp),J3,jq];rfl
     |false=>
      rw [h4,if_neg (by simp)] at J3;rw [if_neg (by simp)];obtain ⟨X2,b1,b2⟩:=h369 O hf h3 (by omega) (B:=X1) (tys d) 0 [] rfl (by simp);have U8:f369 d (jK d) (gA d) (iZ d) X1 []=some (if kz d (tys d)=true then 11 else 0,gA d,iZ d,X1,X2):=e369 _ _ _ _ _ _ b1;refine ⟨some ⟨d,jK d,gA d,iZ d,X1,X2⟩,start (zk _ _ _ _ _ _ _ _ _ _ _ _ ?_),fun h=> ?_⟩
      ·rw [cond_neg (by simp),h367,jq,cond_neg (by simp),J3,jq,cond_neg (by simp),U8,jq]
      ·cases h5:kz d (tys d) with
       |true=>rw [h5] at h;cases h
       |false=>
        rw [a2 h4,b2 h5];rfl
    ·rw [if_neg h3] at h367
     rw [if_pos h3];refine ⟨none,start (zk _ _ _ _ _ _ _ _ _ _ _ _ ?_),fun h=>absurd h h3⟩;rw [cond_neg (by simp),h367,jq,cond_pos (by simpa using h3)]
 ·rw [if_pos h0] at hc
  rw [if_pos h0];refine ⟨none,e344 _ ?_,fun h=>absurd h h0⟩;rw [hc,aj,cond_pos (by simpa using h0)]
theorem Qp {d:List af} (z:Sz d) (h64:d.length≤64) (hf:Fz d):f317 d=some (kB d):=by
 obtain ⟨X,h,_⟩:=Tk z h64 hf;refine e317 _ ?_;rw [h];rfl
theorem i322 {d:List af} (z:Sz d) (h64:d.length≤64) (hf:Fz d):f322 d=some (if kB d=0 then (GU d,0) else ([],kB d)):=by
 obtain ⟨X,h,hX⟩:=Tk z h64 hf;refine e322 _ ?_;rw [h,aj];by_cases h0:kB d=0
 ·rw [cond_neg (by simpa using h0),hX h0,wg,if_pos h0];rfl
 ·rw [cond_pos (by simpa using h0),if_neg h0]
theorem h319 {d:List af} (h64:(iZ d).length≤64):∀(xs:List aR) (i:Nat) (o:List bC),(iZ d).drop i=xs→o.length≤i→
  wG (some (TY d)) (iZ d) (iZ d).length i o=some (o++xs.map (SG d),0):=by
 intro xs
 induction xs with
 |nil=>intro i o h ho;refine N0 _ _ _ _ _ ?_;rw [bS h,cond_false,List.map_nil,List.append_nil]
 |cons F xs ih=>
  intro i o h ho;refine N0 _ _ _ _ _ ?_;have hi:=cW h;have hg:(TY d).intro.drop i=(nu d ((tr d F).getD []):Int)::xs.map (fun F=>(nu d ((tr d F).getD []):Int)):=by
   show ((iZ d).map _).drop i=_;rw [←List.map_drop,h];rfl
  rw [bR h,cond_true,bW h,wg,bW hg,eo _ (by omega) (by simp) (by omega),bB h (by omega),
   ih (i+1) _ (bf h) (by rw [List.length_append];simp;omega),List.append_assoc]
  rfl
theorem VN {d:List af} (z:Sz d) (h64:d.length≤64) (hf:Fz d):f319 d=some (if kB d=0 then (tf d,0) else ([],kB d)):=by
 obtain ⟨X,h,hX⟩:=Tk z h64 hf;refine e319 _ ?_;rw [h,aj];by_cases h0:kB d=0
 ·obtain ⟨O,_,_⟩:=OR z h64 hf h0
  rw [cond_neg (by simpa using h0),hX h0,wg,if_pos h0];exact h319 O.f64 (iZ d) 0 [] rfl (by simp)
 ·rw [cond_pos (by simpa using h0),if_neg h0]
theorem h321 {a:List bC} (ha:a.length≤1000000):∀(xs:List bC) (i:Nat),a.drop i=xs→Eg a a i=some true:=by
 intro xs
 induction xs with
 |nil=>intro i h;refine N1 _ _ _ ?_;rw [bS h];rfl
 |cons x xs ih=>
  intro i h;refine N1 _ _ _ ?_;rw [bR h,cond_true,bW h,bW h,cond_neg (by simp),bB h (by omega)];exact ih (i+1) (bf h)
theorem c321 {a:List bC} (ha:a.length≤1000000):f321 a a=some true:=by
 refine e321 _ _ ?_;rw [cond_neg (by simp)];exact h321 ha a 0 rfl
theorem h359 {a:List ai} (ha:a.length≤1000000):∀(xs:List ai) (i:Nat),a.drop i=xs→Ei a a i=some true:=by
 intro xs
 induction xs with
 |nil=>intro i h;refine N4 _ _ _ ?_;rw [bS h];rfl
 |cons x xs ih=>
  intro i h;refine N4 _ _ _ ?_;rw [bR h,cond_true,bW h,bW h,cond_neg (by simp),bB h (by omega)];exact ih (i+1) (bf h)
theorem c359 {a:List ai} (ha:a.length≤1000000):f359 a a=some true:=by
 refine e359 _ _ ?_;rw [cond_neg (by simp)];exact h359 ha a 0 rfl
theorem h324 {a:List (List ai)} (ha:a.length≤1000000) (hb:∀x∈a,x.length≤1000000):∀(xs:List (List ai)) (i:Nat),a.drop i=xs→Eh a a i=some true:=by
 intro xs
 induction xs with
 |nil=>intro i h;refine N2 _ _ _ ?_;rw [bS h];rfl
 |cons x xs ih=>
  intro i h;refine N2 _ _ _ ?_;rw [bR h,cond_true,bW h,bW h,c359 (hb x (List.mem_of_getElem? (bU h))),aj,cond_neg (by simp),bB h (by omega)];exact ih (i+1) (bf h)
theorem c324 {a:List (List ai)} (ha:a.length≤1000000) (hb:∀x∈a,x.length≤1000000):f324 a a=some true:=by
 refine e324 _ _ ?_;rw [cond_neg (by simp)];exact h324 ha hb a 0 rfl
theorem HK {d:List af}:(tf d).length=(iZ d).length:=by simp [tf]
class Uo:Prop where
 ex:f316=some true
end Go.Proofs.YtfoddgpndoeeaaaGreatDoor.cl
