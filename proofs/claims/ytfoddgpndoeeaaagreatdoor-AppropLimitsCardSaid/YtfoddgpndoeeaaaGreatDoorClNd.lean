/- The Closure laws. -/
import Derived.Test.YtfoddgpndoeeaaaGreatDoorClNb
import Derived.Test.YtfoddgpndoeeaaaGreatDoorClL
set_option linter.unusedVariables false
set_option linter.unusedSimpArgs false
set_option linter.unusedSectionVars false
namespace Go.Proofs.YtfoddgpndoeeaaaGreatDoor.cl
open Go Go.AM
theorem Gy (l:List aR):strs (l.map aI)=some l:=by
 induction l with
 |nil=>rfl
 |cons x l ih=>simp only [List.map_cons,aI,strs] at ih⊢;rw [ih];rfl
theorem i80 (l:List aR) (hl:l.length≤1073741824):f80 l=some ((),dP Op.bytesLess l):=by
 refine nP (E:=KI) ?_;refine lz ?_;have hb:Nat.ble l.length 1073741824=true:=Nat.ble_eq_true_of_le hl;simp only [dg,B6,Gy,hb,cond_true];rfl
theorem J5 {K V R:Type} {l:List (K×V)} {key:K} {b:Bool} (h:(gY l key).isSome=b) (k:Bool→Option R):SL l key k=k b:=by subst h;rfl
theorem vz (a b:aR) (h:Op.bytesLess a b=true):Op.bytesLess b a=false:=iX h
theorem My (x y z:aR) (h:Op.bytesLess x y=true) (h':Op.bytesLess z y=false):Op.bytesLess x z=true:=by
 by_cases e:z=y
 ·rw [e];exact h
 ·exact qF _ _ _ h (kX _ _ h' e)
theorem HN {α:Type} (lt:α→α→Bool) (asymm:∀a b,lt a b=true→lt b a=false) (up:∀x y z,lt x y=true→lt z y=false→lt x z=true):∀(l E:List α),fI lt E→fI lt (l.foldl (fun out x=>nV lt x out) E)∧(l.foldl (fun out x=>nV lt x out) E).Perm (E++l):=by
 intro l
 induction l with
 |nil=>intro E hE;exact ⟨hE,by simp⟩
 |cons p l ih=>
  intro E hE;obtain ⟨h1,h2⟩:=ih _ (qS lt asymm up hE (x:=p));refine ⟨h1,h2.trans ?_⟩;refine ((BJ lt p E).append_right l).trans ?_;exact (List.perm_middle (a:=p) (l₁:=E) (l₂:=l)).symm
theorem tu {α:Type} (lt:α→α→Bool) (asymm:∀a b,lt a b=true→lt b a=false) (up:∀x y z,lt x y=true→lt z y=false→lt x z=true) (l:List α):fI lt (dP lt l)∧(dP lt l).Perm l:=by
 have:=HN lt asymm up l [] (by simp [fI]);simpa [dP] using this
theorem uD {l:List aR} (h:l.Nodup):SS (dP Op.bytesLess l):=by
 obtain ⟨h1,h2⟩:=tu Op.bytesLess vz My l;have hn:(dP Op.bytesLess l).Nodup:=h2.nodup_iff.2 h;unfold SS;have:=List.Pairwise.and h1 hn;exact this.imp fun {a b} ⟨hx,hne⟩=>by
  cases e:Op.bytesLess a b with
  |true=>rfl
  |false=>rw [kX a b e hne] at hx;cases hx
theorem r6 {l:List aR} {x:aR}:x∈dP Op.bytesLess l↔x∈l:=(tu Op.bytesLess vz My l).2.mem_iff
theorem uE (l:List aR):(dP Op.bytesLess l).length=l.length:=(tu Op.bytesLess vz My l).2.length_eq
theorem FK {l:List aR} (h:l.Nodup):dP Op.bytesLess l=gw l:=SS.ext (uD h) (eH l) fun y=>by rw [r6,dr]
theorem NO {l:List aR} (h:SS l):dP Op.bytesLess l=l:=SS.ext (uD h.nodup) h fun y=>r6
noncomputable def jH (o:List aR):List (aR×Bool):=o.foldl (fun m x=>dB m x true) []
theorem uH (o:List aR) (x:aR):jH (o++[x])=dB (jH o) x true:=by simp [jH]
theorem za (o:List aR) (x:aR):getM (jH o) x=if x∈o then some true else none:=by
 have key:∀(l:List aR) (m:List (aR×Bool)) (s:List aR),(∀x,getM m x=if x∈s then some true else none)→∀x,getM (l.foldl (fun m x=>dB m x true) m) x=if x∈s++l then some true else none:=by
  intro l
  induction l with
  |nil=>intro m s h x;simpa using h x
  |cons y l ih=>
   intro m s h x
   rw [List.foldl_cons,ih _ (s++[y]) (fun z=>by
    rw [ga,h]
    by_cases e:z=y<;>simp [e])]
   simp
 have:=key o [] [] (fun x=>by rw [eO];simp) x;simpa [jH] using this
theorem h74b {to:List (aR×List aR)} {i:Nat} {l:List aR} (Md:l.length≤1048576):∀(xs:List aR) (k:Nat) (o:List aR),l.drop k=xs→i<o.length→o.length+xs.length≤4194304→∀r,
  GI to (i+1:Nat) (jH (eX o xs)) (eX o xs)=some r→mI to i l l.length k (jH o) o=some r:=by
 intro xs
 induction xs with
 |nil=>
  intro k o h hi hlen r hr;refine Ol _ _ _ _ _ _ _ ?_;rw [bS h,cond_false,cg (by omega)];exact hr
 |cons s xs ih=>
  intro k o h hi hlen r hr;refine Ol _ _ _ _ _ _ _ ?_;simp only [List.length_cons] at hlen;rw [bR h,cond_true,bW h,bB h (by omega)];by_cases h2:s∈o
  ·rw [dz (v:=true) (by rw [za,if_pos h2]),Bool.not_true,cond_false]
   refine ih (k+1) o (bf h) hi (by omega) r ?_;have e:eX o (s::xs)=eX o xs:=by simp [eX,h2]
   rw [e] at hr;exact hr
  ·rw [gz (by rw [za,if_neg h2]),gT,eo _ (by omega) (by simp) (by omega),←uH]
   refine ih (k+1) (o++[s]) (bf h) (by simp;omega) (by simp;omega) r ?_;have e:eX o (s::xs)=eX (o++[s]) xs:=by simp [eX,h2]
   rw [e] at hr;exact hr
theorem i74 {to:List (aR×List aR)} {U:List aR} {nx:aR→List aR} (hU:U.length≤1048576) (hto:∀x∈U,getM to x=some (nx x)) (hnl:∀x∈U,(nx x).length≤1048576) (CY:∀x∈U,∀y∈nx x,y∈U) {x:aR} (hx:x∈U):
  ∃l,f74 to x=some l∧SS l∧(∀y,y∈l↔xX nx x y)∧l.length≤U.length:=by
 obtain ⟨o,h1,h2,h3,h4⟩:=search (next:=nx) (U:=U) (x0:=x) hx CY (R:=List aR) (outer:=fun i o=>GI to i (jH o) o) (fin:=fun o=>qj (f80 o) fun cB nA=>some nA)
  (fun i o ho hi r hr=>by
   refine RO _ _ _ _ ?_
   rw [cond_neg (by simp;omega)];exact hr)
  (fun i o y ho hlen hy hyU r hr=>by
   have hi:=(List.getElem?_eq_some_iff.1 hy).1;refine RO _ _ _ _ ?_;rw [cond_pos (by simp;omega),qH hi,Int.toNat_natCast,k8 hy,dz (hto y hyU)];have:=hnl y hyU
   exact h74b (by omega) (nx y) 0 o rfl hi (by omega) r hr)
 refine ⟨dP Op.bytesLess o,?_,uD h1,fun y=>by rw [r6,h2],by rw [uE];exact h3⟩;refine e74 _ _ ?_;rw [dz (hto x hx),gT]
 have:=h4 (dP Op.bytesLess o) (by
  show qj (f80 o) _=_
  rw [i80 o (by omega),jo])
 exact this
theorem h81b {d:List af} (z:Sz d) {nm:aR} {i:Nat} (hi:i<d.length) {t:af} (hst:t.aA.length≤1048576) (hnd:t.aA.Nodup) {pre:aR→List aR} (hpre:∀y,(pre y).length≤1048576) {K:aR→Prop}:
  ∀(xs:List aR) (k:Nat) (m:List (aR×Option (List aR))),t.aA.drop k=xs→Full m→(∀y,K y→(getM m y).isSome=true)→(∀y,rowOf m y=pre y++(if y∈t.aA.take k then [t.Name] else []))→
  ∃m',Full m'∧(∀y,K y→(getM m' y).isSome=true)∧(∀y,rowOf m' y=pre y++(if y∈t.aA then [t.Name] else []))∧∀r,Co nm d d.length (i+1:Nat) m'=some r→
  vo nm d d.length i t.aA t.aA.length k t m=some r:=by
 have hl:=z.len;intro xs
 induction xs with
 |nil=>
  intro k m h hF hK hm;have:=eG h;refine ⟨m,hF,hK,fun y=>by rw [hm,List.take_of_length_le this],fun r hk=>RU _ _ _ _ _ _ _ _ _ ?_⟩;rw [bS h,cond_false,cg (by omega)];exact hk
 |cons x xs ih=>
  intro k m h hF hK hm;have hlt:=cW h;have hx:x∉t.aA.take k:=by
   have h1:=List.take_append_drop k t.aA;rw [h] at h1;rw [←h1,List.nodup_append] at hnd;exact fun hm=>hnd.2.2 x hm x (by simp) rfl
  have hd:t.aA.take (k+1)=t.aA.take k++[x]:=by
   rw [List.take_add_one,bU h];rfl
  obtain ⟨m',e1,e2⟩:=Cr hF x (fun dA iR=>check ((List.length dA+List.length [t.Name]) *16≤140737488355328∧List.length dA+List.length [t.Name]≤4611686018427387904) (jv (dB iR x (some (dA++[t.Name]))) fun lF=>vo nm d d.length i t.aA t.aA.length (IntKind.wrap .i64 (k+1)) t lF));have hrow:rowOf m x=pre x:=by rw [hm,if_neg hx,List.append_nil]
  obtain ⟨m2,a1,aK,a2,a3⟩:=ih (k+1) (dB m x (some (pre x++[t.Name]))) (bf h) (hF.put _ _) (fun y hy=>by
   rw [ga];split
   ·rfl
   ·exact hK y hy) (fun y=>by
   rw [wz,hm,hd];by_cases e:y=x
   ·subst e;simp
   ·have:(y∈t.aA.take k++[x])↔y∈t.aA.take k:=by simp [e]
    simp only [e,if_false,this])
  refine ⟨m2,a1,aK,a2,fun r hk=>RU _ _ _ _ _ _ _ _ _ ?_⟩;rw [bR h,cond_true,bW h,e1,hrow,eo _ (by have:=hpre x;omega) (by simp) (by omega),gT,e2,bB h (by omega)];exact a3 r hk
theorem h81a {d:List af} (z:Sz d) (BI:∀t∈d,t.aA.Nodup) {nm:aR}:
  ∀(xs:List af) (i:Nat) (m:List (aR×Option (List aR))),d.drop i=xs→Full m→(∀y,y∈cU (d.take i)→(getM m y).isSome=true)→(∀y,rowOf m y=dn (d.take i) y)→
  ∃m',(∀y∈cU d,getM m' y=some (dn d y))∧∀r,f74 m' nm=some r→Co nm d d.length i m=some r:=by
 have hl:=z.len;intro xs
 induction xs with
 |nil=>
  intro i m h hF hK hm;have hge:=eG h;rw [List.take_of_length_le hge] at hm hK;obtain ⟨m',e1,e2,e3⟩:=Bs hF (fun Qv=>Option.bind (f74 Qv nm) fun mK=>some mK);refine ⟨m',fun y hy=> ?_,fun r hk=>Oo _ _ _ _ _ ?_⟩
  ·have h1:=e2 y
   have h2:=e3 y;rw [hK y hy] at h2;rw [hm] at h1;cases e:getM m' y with
   |none=>rw [e] at h2;cases h2
   |some v=>rw [e] at h1;simp only [Option.getD_some] at h1;rw [h1]
  ·rw [bS h,cond_false,e1,hk];rfl
 |cons x xs ih=>
  intro i m h hF hK hm;have hlt:=cW h;have hx:x∈d:=List.mem_of_getElem? (bU h);have hd:d.take (i+1)=d.take i++[x]:=by
   rw [List.take_add_one,bU h];rfl
  have go:∀m0,Full m0→(∀y,y∈cU (d.take (i+1))→(getM m0 y).isSome=true)→(∀y,rowOf m0 y=dn (d.take i) y)→∃m',(∀y∈cU d,getM m' y=some (dn d y))∧∀r,f74 m' nm=some r→vo nm d d.length i x.aA x.aA.length 0 x m0=some r:=by
   intro m0 hF0 hK0 hm0
   obtain ⟨m2,a1,a2,a3,a4⟩:=h81b z hlt (nm:=nm) (by have:=z.sup x hx;omega) (BI x hx) (pre:=dn (d.take i)) (fun y=>by
    have:=rS (d.take i) y
    rw [List.length_take] at this;omega) (K:=fun y=>y∈cU (d.take (i+1))) x.aA 0 m0 rfl hF0 hK0 (fun y=>by rw [hm0];simp)
   obtain ⟨m',r1,r2⟩:=ih (i+1) m2 (bf h) a1 a2 (fun y=>by
    rw [a3,hd,By];refine congrArg _ ?_;unfold dn
    by_cases e:y∈x.aA<;>simp [e])
   exact ⟨m',r1,fun r hr=>a4 r (r2 r hr)⟩
  by_cases hs:(gY m x.Name).isSome=true
  ·obtain ⟨m',r1,r2⟩:=go m hF (fun y hy=>by
    rw [hd] at hy;simp only [List.map_append,List.map_cons,List.map_nil,List.mem_append,List.mem_singleton] at hy;rcases hy with hy|rfl
    ·exact hK y hy
    ·rw [←xI];exact hs) hm
   refine ⟨m',r1,fun r hk=>Oo _ _ _ _ _ ?_⟩;rw [bR h,cond_true,bW h,J5 hs,Bool.not_true,cond_false];exact r2 r hk
  ·have hs':(gY m x.Name).isSome=false:=by simpa using hs
   have hnone:getM m x.Name=none:=by
    rw [xI] at hs';cases e:getM m x.Name with
    |none=>rfl
    |some v=>rw [e] at hs';cases hs'
   obtain ⟨m',r1,r2⟩:=go (dB m x.Name (some [])) (hF.put _ _) (fun y hy=>by
    rw [hd] at hy;simp only [List.map_append,List.map_cons,List.map_nil,List.mem_append,List.mem_singleton] at hy;rw [ga];split
    ·rfl
    ·rename_i hne
     rcases hy with hy|rfl
     ·exact hK y hy
     ·exact absurd rfl hne) (fun y=>by
    rw [wz];split
    ·rename_i e;subst e
     rw [←hm,rowOf,hnone]
    ·exact hm y)
   refine ⟨m',r1,fun r hk=>Oo _ _ _ _ _ ?_⟩;rw [bR h,cond_true,bW h,J5 hs',Bool.not_false,cond_true,gT];exact r2 r hk
theorem i81 {d:List af} (z:Sz d) (BI:∀t∈d,t.aA.Nodup) {x:aR} (hx:x∈cU d):∃l,f81 d x=some l∧SS l∧(∀y,y∈l↔Le d x y)∧l.length≤d.length:=by
 have hl:=z.len;obtain ⟨m,h1,h2⟩:=h81a z BI (nm:=x) d 0 [] rfl Full.nil (fun y hy=>by cases hy) (fun y=>by rw [wv];rfl);obtain ⟨l,r1,r2,r3,r4⟩:=i74 (to:=m) (U:=cU d) (nx:=dn d) (by simpa using hl) h1 (fun x _=>by have:=rS d x;omega) (fun x _ y hy=>s7 hy) hx;exact ⟨l,e81 _ _ (h2 l r1),r2,r3,by simpa using r4⟩
theorem h124 (l:List aR) (hl:l.length≤1073741824) (hS:SS l):∀(n i:Nat),l.length-i=n→1≤i→i≤l.length→Ef i l=some (l.length,l):=by
 intro n
 induction n with
 |zero=>
  intro i hi h1 hle;refine NR _ _ ?_;rw [cond_neg (by simp;omega)]
 |succ n ih=>
  intro i hi h1 hle;refine NR _ _ ?_;have hlt:i<l.length:=by omega
  obtain ⟨j,rfl⟩:∃j,i=j+1:=⟨i-1,by omega⟩
  have hne:l[j+1]≠l[j]:=by
   intro e;have:=(List.getElem_inj hS.nodup).1 e;omega
  rw [cond_pos (by simp;omega),qH hlt,Int.toNat_natCast,mQ hlt,Cv (by omega),qH (by omega),Int.toNat_natCast,mQ (by omega),cond_neg (by simpa using hne),cg (by omega)];exact ih (j+1+1) (by omega) (by omega) (by omega)
theorem i124 (l:List aR) (hl:l.length≤1073741824) (hS:SS l):f124 l=some (l.length,l):=by
 refine e124 _ ?_;by_cases h:l.length<2
 ·rw [cond_pos (by simp;omega)]
 ·rw [cond_neg (by simp;omega)]
  exact h124 l hl hS _ 1 rfl (by omega) (by omega)
theorem h90 {d:List af} {l:List aR} (hl:l.length≤1048576) (hm:∀x∈l,x∈cU d) (hS:SS l):∀(xs:List aR) (i:Nat),l.drop i=xs→i≤l.length→Az (Am d) l l.length i (l.take i)=some l:=by
 intro xs
 induction xs with
 |nil=>
  intro i h hi;refine RX _ _ _ _ _ ?_;have hge:=eG h;rw [List.take_of_length_le hge,bS h,cond_false,i80 l (by omega),jo,NO hS,i124 l (by omega) hS,jo,bg (Nat.le_refl _),List.take_length]
 |cons x xs ih=>
  intro i h hi;refine RX _ _ _ _ _ ?_;have hlt:=cW h;have hx:x∈l:=List.mem_of_getElem? (bU h);obtain ⟨t,_,_,e⟩:=wA (hm x hx);have hd:l.take (i+1)=l.take i++[x]:=by
   rw [List.take_add_one,bU h];rfl
  rw [bR h,cond_true,bW h,dz e,eo _ (by simp;omega) (by simp) (by omega),bB h (by omega),←hd];exact ih (i+1) (bf h) (by omega)
theorem i90 {d:List af} (z:Sz d) {l:List aR} (hl:l.length≤1048576) (hm:∀x∈l,x∈cU d) (hS:SS l):f90 d l=some l:=by
 have hz:=z.len;refine e90 _ _ ?_;rw [i75 d (by omega),aj];exact h90 hl hm hS l 0 rfl (by omega)
theorem h126 (l:List aR) (s:aR) (up:List aR) (hl:l.length≤1073741824) (hu:up.length≤1073741824):∀(xs:List aR) (i:Nat),l.drop i=xs→Ap l s up l.length i=some (bX (fun x=> !(x==s)&&decide (x∈up)) xs i):=by
 intro xs
 induction xs with
 |nil=>intro i h;refine NT _ _ _ _ _ ?_;rw [bS h];rfl
 |cons x xs ih=>
  intro i h;refine NT _ _ _ _ _ ?_;have h91:f91 x s up=some (!(x==s)&&decide (x∈up)):=by
   refine e91 _ _ _ ?_;cases hx:x==s with
   |true=>rfl
   |false=>rw [Bool.not_false,cond_true,i92 _ _ hu];rfl
  rw [bR h,cond_true,bW h,h91,aj,bB h hl,ih (i+1) (bf h),bX];cases (!(x==s)&&decide (x∈up))<;>rfl
theorem h46 {d:List af} (z:Sz d) (A:Acc d) {l:List aR} (hl:l.length≤1048576) (hm:∀x∈l,x∈cU d):∀(xs:List aR) (i:Nat) (o:List aR),l.drop i=xs→o.length≤i→
  Ay l (Am d) l l.length i o=some (o++xs.filter (mz d l)):=by
 have hz:=z.len;intro xs
 induction xs with
 |nil=>intro i o h ho;refine RK _ _ _ _ _ _ ?_;rw [bS h];simp
 |cons x xs ih=>
  intro i o h ho;refine RK _ _ _ _ _ _ ?_;have hlt:=cW h;have hx:=hm x (List.mem_of_getElem? (bU h));obtain ⟨u,hu,_,hU,xw⟩:=i74 (to:=Am d) (U:=cU d) (nx:=up d) (by simpa using hz) (fun x hx=>QU A.nd hx) (fun x _=>Ct z x) (fun x hx y hy=>(Gg A hx (.step .refl hy)).1) hx;simp only [List.length_map] at xw;have h93:f93 l x u=some (!mz d l x):=by
   refine e93 _ _ _ ?_;have:f126 l x u=_:=e126 _ _ _ (h126 l x u (by omega) (by omega) l 0 rfl);rw [this,aj,C1];refine congrArg some ?_;unfold mz;rw [List.not_all_eq_any_not];refine List.any_congr rfl ?_|>fun h=>h
   intro y;have e1:decide (y∈u)=(open Classical in decide (Le d y x)):=by rw [decide_eq_decide,hU,DY A hx]
   rw [e1];have e2:(y==x)=decide (y=x):=by rw [Bool.eq_iff_iff];simp
   rw [e2];cases decide (y=x)<;>simp
  rw [bR h,cond_true,bW h,hu,aj,h93,aj,bB h (by omega),List.filter_cons];cases hf:mz d l x with
  |true=>
   rw [Bool.not_true,Bool.not_false,cond_true,eo _ (by omega) (by simp) (by omega),ih (i+1) (o++[x]) (bf h) (by simp;omega)];simp
  |false=>rw [Bool.not_false,Bool.not_true,cond_false,ih (i+1) o (bf h) (by omega)];simp
theorem i46 {d:List af} (z:Sz d) (A:Acc d) {l:List aR} (hl:l.length≤1048576) (hm:∀x∈l,x∈cU d) (hS:SS l):f46 d l=some (nB d l):=by
 have hz:=z.len;refine e46 _ _ ?_;rw [i90 z hl hm hS,aj,i75 d (by omega),aj];have h0:=h46 z A hl hm l 0 [] rfl (by simp);rw [show ((0:Nat):Int)=0 from rfl] at h0;rw [h0];have hf:l.filter (fun s=>decide (s∈cU d))=l:=List.filter_eq_self.2 fun x hx=>by simpa using hm x hx
 have hs:gw l=l:=SS.ext (eH l) hS fun y=>dr
 simp only [nB,hf,hs,List.nil_append]
end Go.Proofs.YtfoddgpndoeeaaaGreatDoor.cl
set_option linter.unusedVariables false
set_option linter.unusedSimpArgs false
set_option linter.unusedSectionVars false
namespace Go.Proofs.YtfoddgpndoeeaaaGreatDoor.cl
open Go Go.AM
theorem h83b {l:List Nat} (hl:l.length≤1048576) (h64:∀j∈l,j<64):∀(xs:List Nat) (i w:Nat),l.drop i=xs→w<18446744073709551616→tT (cast l) (cast l).length i [(w:Int)]=some (e1 (mk w xs),0):=by
 intro xs
 induction xs with
 |nil=>
  intro i w h hw;refine Iq _ _ _ _ ?_;have hn:norm [(w:Int)]=e1 w:=by
   have:=F4 (f:=fun _=>(w:Int)) (n:=1) (w:=w) (by omega) (fun _=>rfl) (fun h=>by cases h);simpa [tab] using this
  rw [bS (yR h),cond_false,c68 _ (by simp),hn];rfl
 |cons x xs ih=>
  intro i w h hw;refine Iq _ _ _ _ ?_;have hx:x<64:=h64 x (List.mem_of_getElem? (bU h));have UE:IntKind.wrap .i64 (Int.tdiv (x:Int) 64)=0:=by rw [TZ hx];rfl
  have e3:min x (IntKind.bits .u64)=x:=by
   show min x 64=x;omega
  have e4:IntKind.wrap .u64 (1 *2^ x)=((2^ x:Nat):Int):=by
   have hp:=uX hx;have:(1 *2^ x:Int)=((2^ x:Nat):Int):=by simp
   rw [this,rK hp]
  have e5:IntKind.wrap .u64 ((BitVec.ofInt (IntKind.bits .u64) (w:Int)|||BitVec.ofInt (IntKind.bits .u64) ((2^ x:Nat):Int)).toNat:Int)=((w|||2^ x:Nat):Int):=OT hw (uX hx);simp only [bW (iA h),bR (iA h),cond_true,UE,T1 hx,e3,e4,Int.toNat_zero,Int.toNat_natCast,bB (iA h) (by simp;omega)];rw [bg (by decide),bg (by simp),k8 (x:=(w:Int)) (by simp),bg (by decide),bg (by omega),bg (by simp),k8 (x:=(w:Int)) (by simp),e5];exact ih (i+1) _ (bf h) (OU hw (uX hx))
theorem h83a {l:List Nat} (hl:l.length≤1048576) (h64:∀j∈l,j<64):∀(xs:List Nat) (i:Nat) (m:Int),l.drop i=xs→(m= -1∧i=0∨0≤m∧m<64∧0<i∧i≤l.length)→GL (cast l) m (cast l) (cast l).length i=some (e1 (mk 0 l),0):=by
 intro xs
 induction xs with
 |nil=>
  intro i m h hm;refine RV _ _ _ _ _ ?_;have hge:=eG h;rw [bS (yR h),cond_false,bg (by decide)];rcases hm with ⟨rfl,rfl⟩|⟨h0,h1,h2,h3⟩
  ·have hl0:l=[]:=List.length_eq_zero_iff.1 (by omega)
   subst hl0;rw [bg (by decide)];have hq:tT (cast []) ((cast []).length:Int) 0 (List.replicate (Int.toNat (IntKind.wrap .i64 (Int.tdiv (IntKind.wrap .i64 (-1+64)) 64))) 0)=some (e1 (mk 0 []),0):=by
    refine Iq _ _ _ _ ?_;have hr:(List.replicate (Int.toNat (IntKind.wrap .i64 (Int.tdiv (IntKind.wrap .i64 (-1+64)) 64))) (0:Int))=[]:=by decide
    rw [hr,cond_neg (by decide),c68 _ (by simp)];rfl
   exact hq
  ·have UE:IntKind.wrap .i64 (Int.tdiv (IntKind.wrap .i64 (m+64)) 64)=1:=by
    have e2:IntKind.wrap .i64 (m+64)=m+64:=fo (by omega) (by omega);have e3:Int.tdiv (m+64) 64=1:=by
     rw [Int.tdiv_eq_ediv_of_nonneg (by omega)];omega
    rw [e2,e3];rfl
   rw [UE,bg (by decide)];exact h83b hl h64 l 0 0 rfl (by omega)
 |cons x xs ih=>
  intro i m h hm;refine RV _ _ _ _ _ ?_;have hlt:=cW h;have hx:x<64:=h64 x (List.mem_of_getElem? (bU h));rw [bR (iA h),cond_true,bW (iA h),cond_neg (by simp),cond_neg (by simp;omega),bB (iA h) (by simp;omega)];refine ih (i+1) _ (bf h) (.inr ?_);split
  ·exact ⟨by omega,by omega,by omega,by omega⟩
  ·rcases hm with ⟨rfl,rfl⟩|⟨h0,h1,h2,h3⟩
   ·rename_i hc;omega
   ·exact ⟨h0,h1,by omega,by omega⟩
theorem i83 {l:List Nat} (hl:l.length≤1048576) (h64:∀j∈l,j<64):f83 (cast l)=some (e1 (mk 0 l),0):=e83 _ (h83a hl h64 l 0 (-1) rfl (.inl ⟨rfl,rfl⟩))
theorem Us {l:List aR} (h:SS l) {i j:Nat} (hi:i<l.length) (hj:j<l.length):Op.bytesLess l[i] l[j]=decide (i<j):=by
 have hp:=List.pairwise_iff_getElem.1 h;by_cases h1:i<j
 ·rw [hp i j hi hj h1];simp [h1]
 ·by_cases h2:i=j
  ·subst h2;rw [vA];simp
  ·have:=hp j i hj hi (by omega)
   rw [iX this];simp [h1]
theorem i120 (a b:aR):f120 a b=some (Op.bytesLess a b):=by
 refine e120 _ _ ?_;have h97:f97 a=some false:=e97 _ (by simp);rw [h97,aj];rfl
theorem half {i j:Nat} (h:i+j≤2097152):IntKind.wrap .i64 (Int.fdiv (IntKind.wrap .u64 (IntKind.wrap .i64 ((i:Int)+(j:Int)))) (2^ min (Int.toNat 1) (IntKind.bits .u64)))=(((i+j) / 2:Nat):Int):=by
 have e1:IntKind.wrap .i64 ((i:Int)+(j:Int))=((i+j:Nat):Int):=by rw [fo (by omega) (by omega)];omega
 have e2:IntKind.wrap .u64 ((i+j:Nat):Int)=((i+j:Nat):Int):=rK (by omega);have e3:(2^ min (Int.toNat 1) (IntKind.bits .u64):Int)=2:=by rfl
 rw [e1,e2,e3,Int.fdiv_eq_ediv_of_nonneg _ (by omega)];rw [fo (by omega) (by omega)];omega
theorem h82 {l:List aR} (hS:SS l) (hl:l.length≤1048576) {k:Nat} (hk:k<l.length):∀(n i j:Nat),j-i=n→i≤k→k≤j→j≤l.length→Cp l l[k] l.length i j=some ((k:Int),true):=by
 intro n
 induction n using Nat.strongRecOn with
 |_ n ih=>
  intro i j hn hik hkj hj;refine VU _ _ _ _ _ ?_;by_cases hij:i<j
  ·have hh:(i+j) / 2<l.length:=by omega
   rw [cond_pos (by simp;omega),bg (by decide),half (by omega),fR hh,i120,aj,Us hS hh hk];by_cases hlt:(i+j) / 2<k
   ·rw [cond_pos (by simpa using hlt),cg (by omega)]
    exact ih (j-((i+j) / 2+1)) (by omega) _ j rfl (by omega) hkj hj
   ·rw [cond_neg (by simpa using hlt)]
    exact ih ((i+j) / 2-i) (by omega) i _ rfl hik (by omega) (by omega)
  ·obtain rfl:i=k:=by omega
   rw [cond_neg (by simp;omega),cond_pos (by simp;omega),fR hk,cond_pos (by simp)]
theorem i82 {l:List aR} (hS:SS l) (hl:l.length≤1048576) {k:Nat} (hk:k<l.length):f82 l l[k]=some ((k:Int),true):=e82 _ _ (h82 hS hl hk _ 0 l.length rfl (by omega) (by omega) (Nat.le_refl _))
theorem h40c {d:List af} (z:Sz d) (h64:(cI d).length≤64) {i:Nat} (hi:i<(cI d).length) {x:aR} {low:List aR} (hlow:low.length≤d.length) (hL:∀y,y∈low↔Le d x y) (hx:x∈cU d) {codes:List W} (hc:codes.length=(cI d).length) {r:List aR×List (List Int)}
  (hr:tS d (cI d).length (i+1:Nat) (cI d) (codes.set i (e1 (cw d (cI d) x)))=some r):∀(xs:List aR) (k:Nat) (o:List Nat),low.drop k=xs→k≤low.length→o.length≤k→(∀j,j∈o↔∃h:j<(cI d).length,(cI d)[j]∈low.take k)→
  wK d i (cI d).length i low low.length k (cI d) (cast o) codes=some r:=by
 have hz:=z.len;intro xs
 induction xs with
 |nil=>
  intro k o h hkl ho hm;refine Og _ _ _ _ _ _ _ _ _ _ ?_;have hge:=eG h;rw [List.take_of_length_le hge] at hm;have h64':∀j∈o,j<64:=fun j hj=>by obtain ⟨h1,_⟩:=(hm j).1 hj;omega
  have ew:mk 0 o=cw d (cI d) x:=by
   apply Nat.eq_of_testBit_eq;intro j;rw [OH,Nat.zero_testBit,Bool.false_or,Bool.eq_iff_iff,decide_eq_true_iff,hm,nr];constructor
   ·rintro ⟨h1,h2⟩
    refine ⟨h1,?_⟩;rw [List.getD_eq_getElem?_getD,List.getElem?_eq_getElem h1];exact (hL _).1 h2
   ·rintro ⟨h1,h2⟩
    refine ⟨h1,?_⟩;rw [List.getD_eq_getElem?_getD,List.getElem?_eq_getElem h1] at h2;exact (hL _).2 h2
  have hol:o.length≤1048576:=by omega
  rw [bS h,cond_false,i83 hol h64',aj,aj,bg (by simp;omega),Int.toNat_natCast,mQ (by omega),cg (by omega),ew];exact hr
 |cons y xs ih=>
  intro k o h hkl ho hm;refine Og _ _ _ _ _ _ _ _ _ _ ?_;have hlt:=cW h;have hy:y∈low:=List.mem_of_getElem? (bU h);have hyn:y∈cI d:=dr.2 (Le.cU hx ((hL y).1 hy));obtain ⟨j,hj,e⟩:=List.mem_iff_getElem.1 hyn;have hd:low.take (k+1)=low.take k++[y]:=by
   rw [List.take_add_one,bU h];rfl
  have hal:=fq (d:=d);have hb:=i82 (l:=cI d) (eH (cU d)) (by omega) hj;rw [e] at hb;rw [bR h,cond_true,bW h,hb,aj,eo _ (by simp;omega) (by simp) (by omega),bB h (by omega)]
  have:=ih (k+1) (o++[j]) (bf h) (by omega) (by simp;omega) (fun i'=>by
   rw [List.mem_append,List.mem_singleton,hm,hd];constructor
   ·rintro (⟨h1,h2⟩|rfl)
    ·exact ⟨h1,List.mem_append_left _ h2⟩
    ·exact ⟨hj,List.mem_append_right _ (by rw [e];simp)⟩
   ·rintro ⟨h1,h2⟩
    rcases List.mem_append.1 h2 with h2|h2
    ·exact .inl ⟨h1,h2⟩
    ·right
     simp only [List.mem_singleton] at h2;have:(cI d)[i']=(cI d)[j]:=by rw [h2,e]
     exact (List.getElem_inj (eH (cU d)).nodup).1 this)
  rw [show cast (o++[j])=cast o++[(j:Int)] from List.map_append] at this;exact this
theorem LV {α:Type} {f:aR→α} {z:α} {l:List aR} {i:Nat} (hi:i<l.length):(((l.take i).map f)++List.replicate (l.length-i) z).set i (f l[i])=((l.take (i+1)).map f)++List.replicate (l.length-(i+1)) z:=by
 rw [List.set_append_right _ _ (by simp;omega)];have e:i-((l.take i).map f).length=0:=by simp;omega
 rw [e,show l.length-i=(l.length-(i+1))+1 by omega,List.replicate_succ,List.set_cons_zero];have e2:l.take (i+1)=l.take i++[l[i]]:=by
  rw [List.take_add_one,List.getElem?_eq_getElem hi];rfl
 rw [e2,List.map_append,List.append_assoc];rfl
theorem h40b {d:List af} (z:Sz d) (BI:∀t∈d,t.aA.Nodup) (h64:(cI d).length≤64):∀(n i:Nat),(cI d).length-i=n→i≤(cI d).length→
  tS d (cI d).length i (cI d) ((((cI d).take i).map fun x=>e1 (cw d (cI d) x))++List.replicate ((cI d).length-i) ([]:W))=some (cI d,(jr d).map e1):=by
 have hz:=z.len;intro n
 induction n with
 |zero=>
  intro i hn hi;obtain rfl:i=(cI d).length:=by omega
  refine Of _ _ _ _ _ ?_;rw [cond_neg (by simp),List.take_length,Nat.sub_self];simp [jr,Function.comp_def]
 |succ n ih=>
  intro i hn hi;refine Of _ _ _ _ _ ?_;have hlt:i<(cI d).length:=by omega
  have hx:(cI d)[i]∈cU d:=dr.1 (List.getElem_mem hlt);obtain ⟨low,r1,r2,r3,r4⟩:=i81 z BI hx;have hih:=ih (i+1) (by omega) (by omega);rw [←LV (f:=fun x=>e1 (cw d (cI d) x)) (z:=([]:W)) hlt] at hih;rw [cond_pos (by simp;omega),qH hlt,Int.toNat_natCast,mQ hlt,r1,aj];exact h40c z h64 hlt r4 r3 hx (by simp;omega) hih low 0 [] rfl (by omega) (by simp) (fun j=>by simp)
theorem h40a {d:List af} (z:Sz d) (tZ:(cU d).Nodup) (BI:∀t∈d,t.aA.Nodup) (h64:d.length≤64):∀(xs:List af) (i:Nat),d.drop i=xs→i≤d.length→Ck d d d.length i (cU (d.take i))=some (cI d,(jr d).map e1):=by
 have hz:=z.len;have hal:=fq (d:=d);intro xs
 induction xs with
 |nil=>
  intro i h hi;refine RH _ _ _ _ _ ?_;have hge:=eG h;rw [List.take_of_length_le hge,bS h,cond_false,i80 _ (by simp;omega),jo,FK tZ];have hal':(gw (cU d)).length≤d.length:=hal;rw [bg (by omega)];have:=h40b z BI (by omega) _ 0 rfl (by omega);simpa using this
 |cons x xs ih=>
  intro i h hi;refine RH _ _ _ _ _ ?_;have hlt:=cW h;have hd:d.take (i+1)=d.take i++[x]:=by
   rw [List.take_add_one,bU h];rfl
  have:=ih (i+1) (bf h) (by omega);rw [hd,show cU (d.take i++[x])=cU (d.take i)++[x.Name] from List.map_append] at this;rw [bR h,cond_true,bW h,eo _ (by simp;omega) (by simp) (by omega),bB h (by omega)];exact this
theorem i40 {d:List af} (z:Sz d) (tZ:(cU d).Nodup) (BI:∀t∈d,t.aA.Nodup) (h64:d.length≤64):f40 d=some (cI d,(jr d).map e1):=e40 _ (h40a z tZ BI h64 d 0 rfl (by omega))
def EM (w j:Nat):Int:=((w / 2^ (8 *j) % 256:Nat):Int)
def tw (w:Nat):aR:=if w=0 then [] else (List.range 8).map fun j=>UInt8.ofNat (w / 2^ (8 *j) % 256)
theorem EP (l:List Int):bytesOf (l.map (aJ .u8))=some (l.map fun n=>UInt8.ofNat n.toNat):=by
 induction l with
 |nil=>rfl
 |cons x l ih=>simp only [List.map_cons,aJ,bytesOf] at ih⊢;rw [ih];rfl
theorem Bw {R:Type} (l:List Int) (k:List UInt8→Option R):oK l k=k (l.map fun n=>UInt8.ofNat n.toNat):=by
 unfold oK oJ;rw [EP]
theorem h85b {w:Nat} (hw:w<18446744073709551616):∀(n j:Nat),8-j=n→j≤8→∀r,GM [(w:Int)] 1 1 ((List.range 8).map (EM w))=some r→GN w ((8 *j:Nat):Int) [(w:Int)] 1 0 ((List.range j).map (EM w))=some r:=by
 intro n
 induction n with
 |zero=>
  intro j hn hj r hr;obtain rfl:j=8:=by omega
  refine RW _ _ _ _ _ _ ?_;rw [cond_neg (by decide)];exact hr
 |succ n ih=>
  intro j hn hj r hr;refine RW _ _ _ _ _ _ ?_;have e1:min (8 *j) (IntKind.bits .u64)=8 *j:=by
   show min (8 *j) 64=8 *j;omega
  have e2:Int.fdiv (w:Int) (2^ (8 *j))=((w / 2^ (8 *j):Nat):Int):=by
   rw [show (2^ (8 *j):Int)=((2^ (8 *j):Nat):Int) by simp,Int.fdiv_eq_ediv_of_nonneg _ (Int.natCast_nonneg _)];simp
  have e3:IntKind.wrap .u8 ((w / 2^ (8 *j):Nat):Int)=EM w j:=by
   rw [Ma];unfold EM;simp
  have e4:IntKind.wrap .i64 (((8 *j:Nat):Int)+8)=((8 *(j+1):Nat):Int):=by
   rw [fo (by omega) (by omega)];omega
  rw [cond_pos (by simp;omega),bg (by omega),Int.toNat_natCast,e1,e2,e3,e4,eo _ (by simp;omega) (by simp) (by omega)];have:=ih (j+1) (by omega) (by omega) r hr;rw [List.range_succ,List.map_append] at this;exact this
theorem i85 {w:Nat} (hw:w<18446744073709551616):f85 (e1 w)=some (tw w):=by
 refine e85 _ ?_;by_cases h0:w=0
 ·subst h0
  rw [show e1 0=[] from rfl,bg (by decide)];refine Oq _ _ _ _ ?_;rw [cond_neg (by decide),Bw];rfl
 ·have hl:e1 w=[(w:Int)]:=by simp [e1,h0]
  rw [hl,bg (by rw [show ([(w:Int)].length:Int)=1 from rfl];decide)];refine Oq _ _ _ _ ?_;rw [cond_pos (by simp),show (0:Int)=((0:Nat):Int) from rfl,jQ (x:=(w:Int)) (by simp)]
  have h:=h85b hw _ 0 rfl (by omega) (tw w) (by
   refine Oq _ _ _ _ ?_;rw [cond_neg (by decide),Bw];unfold tw EM;rw [if_neg h0,List.map_map]
   simp only [Function.comp_def,Int.toNat_natCast])
  exact h
theorem Ot {w v:Nat} (hw:w<18446744073709551616) (hv:v<18446744073709551616) (h:tw w=tw v):w=v:=by
 unfold tw at h;split at h
 ·split at h
  ·omega
  ·simp at h
 ·split at h
  ·simp at h
  ·have hb:∀j,j<8→w / 2^ (8 *j) % 256=v / 2^ (8 *j) % 256:=by
    intro j hj;have:=congrArg (fun l=>l[j]?) h;simp only [List.getElem?_map,List.getElem?_range hj,Option.map_some,Option.some.injEq] at this;have h2:=congrArg UInt8.toNat this;simp only [UInt8.toNat_ofNat'] at h2;omega
   have b0:=hb 0 (by omega);have b1:=hb 1 (by omega);have b2:=hb 2 (by omega);have b3:=hb 3 (by omega);have b4:=hb 4 (by omega);have b5:=hb 5 (by omega);have b6:=hb 6 (by omega);have b7:=hb 7 (by omega);simp only [Nat.reduceMul,Nat.reducePow,Nat.mul_zero,Nat.pow_zero,Nat.div_one] at b0 b1 b2 b3 b4 b5 b6 b7;omega
noncomputable def jk (l:List Nat):List (aR×Bool):=l.foldl (fun m w=>dB m (tw w) true) []
theorem zl (l:List Nat) (w:Nat):jk (l++[w])=dB (jk l) (tw w) true:=by simp [jk]
theorem uy (l:List Nat) (x:aR):getM (jk l) x=if x∈l.map tw then some true else none:=by
 have key:∀(l:List Nat) (m:List (aR×Bool)) (s:List aR),(∀x,getM m x=if x∈s then some true else none)→∀x,getM (l.foldl (fun m w=>dB m (tw w) true) m) x=if x∈s++l.map tw then some true else none:=by
  intro l
  induction l with
  |nil=>intro m s h x;simpa using h x
  |cons y l ih=>
   intro m s h x
   rw [List.foldl_cons,ih _ (s++[tw y]) (fun z=>by
    rw [ga,h]
    by_cases e:z=tw y<;>simp [e])]
   simp
 have:=key l [] [] (fun x=>by rw [eO];simp) x;simpa [jk] using this
theorem i84 {l:List Nat} (hl:l.length≤1048576) (hlt:∀c∈l,c<18446744073709551616) {w:Nat} (hw:w<18446744073709551616):f84 (e1 w) (jk l) (l.map e1)=some ((),jk (oF l w),(oF l w).map e1):=by
 refine e84 _ _ _ ?_;by_cases h0:w=0
 ·subst h0
  rw [cond_neg (by decide)];have:oF l 0=l:=by simp [oF]
  rw [this]
 ·have hl1:(e1 w).length=1:=by unfold e1;rw [if_neg h0];rfl
  rw [cond_pos (by rw [hl1];decide),i85 hw,aj];by_cases hm:w∈l
  ·have:oF l w=l:=if_pos (.inr hm)
   rw [dz (v:=true) (by rw [uy,if_pos (List.mem_map_of_mem hm)]),this];rfl
  ·have hk:tw w∉l.map tw:=by
    intro hc;obtain ⟨v,hv,e⟩:=List.mem_map.1 hc;exact hm (Ot (hlt v hv) hw e▸hv)
   have:oF l w=l++[w]:=if_neg (by simp only [not_or];exact ⟨h0,hm⟩);rw [gz (by rw [uy,if_neg hk]),aj,gT,eo _ (by simp;omega) (by simp) (by omega),this,zl,List.map_append];rfl
theorem HJ {i n k:Nat} {l:List Nat} (h:256<l.length):gI i n k l=l:=by
 cases n with
 |zero=>rfl
 |succ n=>unfold gI;rw [if_neg (by omega)]
theorem Ff {n i:Nat} {l:List Nat} (h:256<l.length):fZ n i l=l:=by
 cases n with
 |zero=>rfl
 |succ n=>unfold fZ;rw [if_neg (by omega)]
theorem h41c {i:Nat}:∀(n k:Nat) (l:List Nat),i-k=n→k≤i→i<l.length→l.length≤256→(∀c∈l,c<18446744073709551616)→∀r,
  ((gI i n k l).length≤256→wL (i+1:Nat) (jk (gI i n k l)) ((gI i n k l).map e1)=some r)→(¬(gI i n k l).length≤256→r=([],false))→Ek i k (jk l) (l.map e1)=some r:=by
 intro n
 induction n with
 |zero=>
  intro k l hn hk hi hlen hlt r h1 h2;refine Oi _ _ _ _ ?_;rw [cond_neg (by simp;omega),cg (by omega)];exact h1 hlen
 |succ n ih=>
  intro k l hn hk hi hlen hlt r h1 h2;refine Oi _ _ _ _ ?_;have hik:=CW hlt hi;have hkk:=CW hlt (show k<l.length by omega);have hand:l.getD i 0&&&l.getD k 0<18446744073709551616:=Nat.lt_of_le_of_lt Nat.and_le_left hik;unfold gI at h1 h2;rw [if_pos hlen] at h1 h2;rw [cond_pos (by simp;omega),bg (by simp;omega),Int.toNat_natCast,k8 (getD_map hi),bg (by simp;omega),Int.toNat_natCast,k8 (getD_map (by omega)),F5 hik hkk,aj,i84 (by omega) hlt hand,yK];obtain ⟨e,he,hle⟩:=yI l (l.getD i 0&&&l.getD k 0);by_cases h256:(oF l (l.getD i 0&&&l.getD k 0)).length≤256
  ·rw [cond_neg (by rw [List.length_map];exact decide_eq_false (by omega)),cg (by omega)]
   exact ih (k+1) _ (by omega) (by omega) (by rw [he];simp;omega) h256 (JN hlt hand) r h1 h2
  ·rw [cond_pos (by rw [List.length_map];exact decide_eq_true (by omega)),h2 (by rw [HJ (by omega)];exact h256)]
theorem h41b:∀(n i:Nat) (l:List Nat),258≤i+n→l.length≤256→(∀c∈l,c<18446744073709551616)→wL i (jk l) (l.map e1)=some (if (fZ n i l).length≤256 then ((fZ n i l).map e1,true) else ([],false)):=by
 intro n
 induction n with
 |zero=>
  intro i l hn hlen hlt;refine Oh _ _ _ ?_;rw [cond_neg (by simp;omega)];show _=some (if l.length≤256 then (l.map e1,true) else ([],false));rw [if_pos hlen];simp;omega
 |succ n ih=>
  intro i l hn hlen hlt;refine Oh _ _ _ ?_;have hf:fZ (n+1) i l=if i<l.length∧l.length≤256 then fZ n (i+1) (gI i i 0 l) else l:=rfl
  by_cases hi:i<l.length
  ·rw [if_pos (⟨hi,hlen⟩:i<l.length∧l.length≤256)] at hf
   rw [hf,cond_pos (by simp;omega)];refine h41c i 0 l rfl (by omega) hi hlen hlt _ (fun h=> ?_) (fun h=> ?_)
   ·exact ih (i+1) _ (by omega) h (Nb i i 0 l hlt)
   ·rw [Ff (by omega),if_neg h]
  ·rw [if_neg (fun h:i<l.length∧l.length≤256=>hi h.1)] at hf
   rw [hf,cond_neg (by simp;omega),if_pos hlen];simp;omega
theorem h41a {cs:List Nat} (hlt:∀c∈cs,c<18446744073709551616) (hnd:cs.Nodup) (hnz:∀c∈cs,c≠0) (hlen:cs.length≤256):∀(xs:List Nat) (i:Nat),cs.drop i=xs→i≤cs.length→∀r,wL 0 (jk cs) (cs.map e1)=some r→GA (cs.map e1) (cs.map e1).length i (jk (cs.take i)) ((cs.take i).map e1)=some r:=by
 intro xs
 induction xs with
 |nil=>
  intro i h hi r hr;refine RI _ _ _ _ _ ?_;have hm:(cs.map e1).drop i=[]:=by rw [←List.map_drop,h];rfl
  rw [bS hm,cond_false,List.take_of_length_le (eG h)];exact hr
 |cons w xs ih=>
  intro i h hi r hr;refine RI _ _ _ _ _ ?_;have hlt':=cW h;have hm:(cs.map e1).drop i=e1 w::xs.map e1:=by rw [←List.map_drop,h];rfl
  have hw:w∈cs:=List.mem_of_getElem? (bU h);have hd:cs.take (i+1)=cs.take i++[w]:=by
   rw [List.take_add_one,bU h];rfl
  have hnot:w∉cs.take i:=by
   have h1:=List.take_append_drop i cs;rw [h] at h1;rw [←h1,List.nodup_append] at hnd;exact fun hmm=>hnd.2.2 w hmm w (by simp) rfl
  have ha:oF (cs.take i) w=cs.take (i+1):=by
   rw [hd];exact if_neg (by simp only [not_or];exact ⟨hnz w hw,hnot⟩)
  rw [bR hm,cond_true,bW hm,i84 (by simp;omega) (fun c hc=>hlt c (List.mem_of_mem_take hc)) (hlt w hw),yK,ha,bB hm (by simp;omega)];exact ih (i+1) (bf h) (by omega) r hr
theorem i41 {cs:List Nat} (hlt:∀c∈cs,c<18446744073709551616) (hnd:cs.Nodup) (hnz:∀c∈cs,c≠0) (hlen:cs.length≤256):f41 (cs.map e1)=some (if (qA cs).length≤256 then ((qA cs).map e1,true) else ([],false)):=by
 refine e41 _ ?_;have:=h41b 258 0 cs (by omega) hlen hlt;exact h41a hlt hnd hnz hlen cs 0 rfl (by omega) _ this
end Go.Proofs.YtfoddgpndoeeaaaGreatDoor.cl
