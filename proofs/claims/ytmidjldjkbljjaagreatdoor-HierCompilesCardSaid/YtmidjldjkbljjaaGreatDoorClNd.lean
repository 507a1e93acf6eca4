/- The Closure laws. -/
import Derived.Test.YtmidjldjkbljjaaGreatDoorClNb
import Derived.Test.YtmidjldjkbljjaaGreatDoorClL
set_option linter.unusedVariables false
set_option linter.unusedSimpArgs false
set_option linter.unusedSectionVars false
namespace Go.Proofs.YtmidjldjkbljjaaGreatDoor.cl
open Go Go.AM
theorem Jp (l:List aT):strs (l.map aA)=some l:=by
 induction l with
 |nil=>rfl
 |cons x l ih=>simp only [List.map_cons,aA,strs] at ih⊢;rw [ih];rfl
theorem i80 (l:List aT) (hl:l.length≤1073741824):f80 l=some ((),eA Op.bytesLess l):=by
 refine sC (E:=N5) ?_;refine oZ ?_;have hb:Nat.ble l.length 1073741824=true:=Nat.ble_eq_true_of_le hl;simp only [dg,Ey,Jp,hb,cond_true];rfl
theorem MN {K V R:Type} {l:List (K×V)} {key:K} {b:Bool} (h:(jB l key).isSome=b) (k:Bool→Option R):Xg l key k=k b:=by subst h;rfl
theorem xV (a b:aT) (h:Op.bytesLess a b=true):Op.bytesLess b a=false:=jt h
theorem P9 (x y z:aT) (h:Op.bytesLess x y=true) (h':Op.bytesLess z y=false):Op.bytesLess x z=true:=by
 by_cases e:z=y
 ·rw [e];exact h
 ·exact sr _ _ _ h (me _ _ h' e)
theorem Ks {α:Type} (lt:α→α→Bool) (asymm:∀a b,lt a b=true→lt b a=false) (up:∀x y z,lt x y=true→lt z y=false→lt x z=true):∀(l E:List α),fq lt E→fq lt (l.foldl (fun out x=>kC lt x out) E)∧(l.foldl (fun out x=>kC lt x out) E).Perm (E++l):=by
 intro l
 induction l with
 |nil=>intro E hE;exact ⟨hE,by simp⟩
 |cons p l ih=>
  intro E hE;obtain ⟨h1,h2⟩:=ih _ (oN lt asymm up hE (x:=p));refine ⟨h1,h2.trans ?_⟩;refine ((Ed lt p E).append_right l).trans ?_;exact (List.perm_middle (a:=p) (l₁:=E) (l₂:=l)).symm
theorem va {α:Type} (lt:α→α→Bool) (asymm:∀a b,lt a b=true→lt b a=false) (up:∀x y z,lt x y=true→lt z y=false→lt x z=true) (l:List α):fq lt (eA lt l)∧(eA lt l).Perm l:=by
 have:=Ks lt asymm up l [] (by simp [fq]);simpa [eA] using this
theorem wu {l:List aT} (h:l.Nodup):SS (eA Op.bytesLess l):=by
 obtain ⟨h1,h2⟩:=va Op.bytesLess xV P9 l;have hn:(eA Op.bytesLess l).Nodup:=h2.nodup_iff.2 h;unfold SS;have:=List.Pairwise.and h1 hn;exact this.imp fun {a b} ⟨hx,hne⟩=>by
  cases e:Op.bytesLess a b with
  |true=>rfl
  |false=>rw [me a b e hne] at hx;cases hx
theorem tY {l:List aT} {x:aT}:x∈eA Op.bytesLess l↔x∈l:=(va Op.bytesLess xV P9 l).2.mem_iff
theorem wv (l:List aT):(eA Op.bytesLess l).length=l.length:=(va Op.bytesLess xV P9 l).2.length_eq
theorem Iy {l:List aT} (h:l.Nodup):eA Op.bytesLess l=fo l:=SS.ext (wu h) (cT l) fun y=>by rw [tY,cL]
theorem RD {l:List aT} (h:SS l):eA Op.bytesLess l=l:=SS.ext (wu h.nodup) h fun y=>tY
noncomputable def j0 (o:List aT):List (aT×Bool):=o.foldl (fun m x=>ec m x true) []
theorem wH (o:List aT) (x:aT):j0 (o++[x])=ec (j0 o) x true:=by simp [j0]
theorem Bk (o:List aT) (x:aT):getM (j0 o) x=if x∈o then some true else none:=by
 have key:∀(l:List aT) (m:List (aT×Bool)) (s:List aT),(∀x,getM m x=if x∈s then some true else none)→∀x,getM (l.foldl (fun m x=>ec m x true) m) x=if x∈s++l then some true else none:=by
  intro l
  induction l with
  |nil=>intro m s h x;simpa using h x
  |cons y l ih=>
   intro m s h x
   rw [List.foldl_cons,ih _ (s++[y]) (fun z=>by
    rw [iM,h]
    by_cases e:z=y<;>simp [e])]
   simp
 have:=key o [] [] (fun x=>by rw [gR];simp) x;simpa [j0] using this
theorem h74b {to:List (aT×List aT)} {i:Nat} {l:List aT} (JT:l.length≤1048576):∀(xs:List aT) (k:Nat) (o:List aT),l.drop k=xs→i<o.length→o.length+xs.length≤4194304→∀r,
  JC to (i+1:Nat) (j0 (dJ o xs)) (dJ o xs)=some r→ot to i l l.length k (j0 o) o=some r:=by
 intro xs
 induction xs with
 |nil=>
  intro k o h hi hlen r hr;refine SQ _ _ _ _ _ _ _ ?_;rw [aP h,cond_false,bh (by omega)];exact hr
 |cons s xs ih=>
  intro k o h hi hlen r hr;refine SQ _ _ _ _ _ _ _ ?_;simp only [List.length_cons] at hlen;rw [aU h,cond_true,aL h,aM h (by omega)];by_cases h2:s∈o
  ·rw [dU (v:=true) (by rw [Bk,if_pos h2]),Bool.not_true,cond_false]
   refine ih (k+1) o (az h) hi (by omega) r ?_;have e:dJ o (s::xs)=dJ o xs:=by simp [dJ,h2]
   rw [e] at hr;exact hr
  ·rw [iO (by rw [Bk,if_neg h2]),jJ,cg _ (by omega) (by simp) (by omega),←wH]
   refine ih (k+1) (o++[s]) (az h) (by simp;omega) (by simp;omega) r ?_;have e:dJ o (s::xs)=dJ (o++[s]) xs:=by simp [dJ,h2]
   rw [e] at hr;exact hr
theorem i74 {to:List (aT×List aT)} {U:List aT} {nx:aT→List aT} (hU:U.length≤1048576) (hto:∀x∈U,getM to x=some (nx x)) (hnl:∀x∈U,(nx x).length≤1048576) (xS:∀x∈U,∀y∈nx x,y∈U) {x:aT} (hx:x∈U):
  ∃l,f74 to x=some l∧SS l∧(∀y,y∈l↔Ae nx x y)∧l.length≤U.length:=by
 obtain ⟨o,h1,h2,h3,h4⟩:=search (next:=nx) (U:=U) (x0:=x) hx xS (R:=List aT) (outer:=fun i o=>JC to i (j0 o) o) (fin:=fun o=>rT (f80 o) fun aZ By=>some By)
  (fun i o ho hi r hr=>by
   refine Wg _ _ _ _ ?_
   rw [cond_neg (by simp;omega)];exact hr)
  (fun i o y ho hlen hy hyU r hr=>by
   have hi:=(List.getElem?_eq_some_iff.1 hy).1;refine Wg _ _ _ _ ?_;rw [cond_pos (by simp;omega),nH hi,Int.toNat_natCast,gv hy,dU (hto y hyU)];have:=hnl y hyU
   exact h74b (by omega) (nx y) 0 o rfl hi (by omega) r hr)
 refine ⟨eA Op.bytesLess o,?_,wu h1,fun y=>by rw [tY,h2],by rw [wv];exact h3⟩;refine e74 _ _ ?_;rw [dU (hto x hx),jJ]
 have:=h4 (eA Op.bytesLess o) (by
  show rT (f80 o) _=_
  rw [i80 o (by omega),jN])
 exact this
theorem h81b {d:List af} (z:Sz d) {nm:aT} {i:Nat} (hi:i<d.length) {t:af} (hst:t.aD.length≤1048576) (kq:t.aD.Nodup) {pre:aT→List aT} (hpre:∀y,(pre y).length≤1048576) {K:aT→Prop}:
  ∀(xs:List aT) (k:Nat) (m:List (aT×Option (List aT))),t.aD.drop k=xs→Full m→(∀y,K y→(getM m y).isSome=true)→(∀y,rowOf m y=pre y++(if y∈t.aD.take k then [t.Name] else []))→
  ∃m',Full m'∧(∀y,K y→(getM m' y).isSome=true)∧(∀y,rowOf m' y=pre y++(if y∈t.aD then [t.Name] else []))∧∀r,EU nm d d.length (i+1:Nat) m'=some r→
  xG nm d d.length i t.aD t.aD.length k t m=some r:=by
 have hl:=z.len;intro xs
 induction xs with
 |nil=>
  intro k m h hF hK hm;have:=dM h;refine ⟨m,hF,hK,fun y=>by rw [hm,List.take_of_length_le this],fun r hk=>Wm _ _ _ _ _ _ _ _ _ ?_⟩;rw [aP h,cond_false,bh (by omega)];exact hk
 |cons x xs ih=>
  intro k m h hF hK hm;have hlt:=bL h;have hx:x∉t.aD.take k:=by
   have h1:=List.take_append_drop k t.aD;rw [h] at h1;rw [←h1,List.nodup_append] at kq;exact fun hm=>kq.2.2 x hm x (by simp) rfl
  have hd:t.aD.take (k+1)=t.aD.take k++[x]:=by
   rw [List.take_add_one,aW h];rfl
  obtain ⟨m',e1,e2⟩:=EX hF x (fun dZ jm=>check ((List.length dZ+List.length [t.Name]) *16≤140737488355328∧List.length dZ+List.length [t.Name]≤4611686018427387904) (nT (ec jm x (some (dZ++[t.Name]))) fun pX=>xG nm d d.length i t.aD t.aD.length (IntKind.wrap .i64 (k+1)) t pX));have hrow:rowOf m x=pre x:=by rw [hm,if_neg hx,List.append_nil]
  obtain ⟨m2,a1,aK,a2,a3⟩:=ih (k+1) (ec m x (some (pre x++[t.Name]))) (az h) (hF.put _ _) (fun y hy=>by
   rw [iM];split
   ·rfl
   ·exact hK y hy) (fun y=>by
   rw [yO,hm,hd];by_cases e:y=x
   ·subst e;simp
   ·have:(y∈t.aD.take k++[x])↔y∈t.aD.take k:=by simp [e]
    simp only [e,if_false,this])
  refine ⟨m2,a1,aK,a2,fun r hk=>Wm _ _ _ _ _ _ _ _ _ ?_⟩;rw [aU h,cond_true,aL h,e1,hrow,cg _ (by have:=hpre x;omega) (by simp) (by omega),jJ,e2,aM h (by omega)];exact a3 r hk
theorem h81a {d:List af} (z:Sz d) (Ec:∀t∈d,t.aD.Nodup) {nm:aT}:
  ∀(xs:List af) (i:Nat) (m:List (aT×Option (List aT))),d.drop i=xs→Full m→(∀y,y∈cO (d.take i)→(getM m y).isSome=true)→(∀y,rowOf m y=dn (d.take i) y)→
  ∃m',(∀y∈cO d,getM m' y=some (dn d y))∧∀r,f74 m' nm=some r→EU nm d d.length i m=some r:=by
 have hl:=z.len;intro xs
 induction xs with
 |nil=>
  intro i m h hF hK hm;have hge:=dM h;rw [List.take_of_length_le hge] at hm hK;obtain ⟨m',e1,e2,e3⟩:=DQ hF (fun UD=>Option.bind (f74 UD nm) fun ow=>some ow);refine ⟨m',fun y hy=> ?_,fun r hk=>SX _ _ _ _ _ ?_⟩
  ·have h1:=e2 y
   have h2:=e3 y;rw [hK y hy] at h2;rw [hm] at h1;cases e:getM m' y with
   |none=>rw [e] at h2;cases h2
   |some v=>rw [e] at h1;simp only [Option.getD_some] at h1;rw [h1]
  ·rw [aP h,cond_false,e1,hk];rfl
 |cons x xs ih=>
  intro i m h hF hK hm;have hlt:=bL h;have hx:x∈d:=List.mem_of_getElem? (aW h);have hd:d.take (i+1)=d.take i++[x]:=by
   rw [List.take_add_one,aW h];rfl
  have go:∀m0,Full m0→(∀y,y∈cO (d.take (i+1))→(getM m0 y).isSome=true)→(∀y,rowOf m0 y=dn (d.take i) y)→∃m',(∀y∈cO d,getM m' y=some (dn d y))∧∀r,f74 m' nm=some r→xG nm d d.length i x.aD x.aD.length 0 x m0=some r:=by
   intro m0 hF0 hK0 hm0
   obtain ⟨m2,a1,a2,a3,a4⟩:=h81b z hlt (nm:=nm) (by have:=z.sup x hx;omega) (Ec x hx) (pre:=dn (d.take i)) (fun y=>by
    have:=tR (d.take i) y
    rw [List.length_take] at this;omega) (K:=fun y=>y∈cO (d.take (i+1))) x.aD 0 m0 rfl hF0 hK0 (fun y=>by rw [hm0];simp)
   obtain ⟨m',r1,r2⟩:=ih (i+1) m2 (az h) a1 a2 (fun y=>by
    rw [a3,hd,DY];refine congrArg _ ?_;unfold dn
    by_cases e:y∈x.aD<;>simp [e])
   exact ⟨m',r1,fun r hr=>a4 r (r2 r hr)⟩
  by_cases hs:(jB m x.Name).isSome=true
  ·obtain ⟨m',r1,r2⟩:=go m hF (fun y hy=>by
    rw [hd] at hy;simp only [List.map_append,List.map_cons,List.map_nil,List.mem_append,List.mem_singleton] at hy;rcases hy with hy|rfl
    ·exact hK y hy
    ·rw [←zS];exact hs) hm
   refine ⟨m',r1,fun r hk=>SX _ _ _ _ _ ?_⟩;rw [aU h,cond_true,aL h,MN hs,Bool.not_true,cond_false];exact r2 r hk
  ·have hs':(jB m x.Name).isSome=false:=by simpa using hs
   have hnone:getM m x.Name=none:=by
    rw [zS] at hs';cases e:getM m x.Name with
    |none=>rfl
    |some v=>rw [e] at hs';cases hs'
   obtain ⟨m',r1,r2⟩:=go (ec m x.Name (some [])) (hF.put _ _) (fun y hy=>by
    rw [hd] at hy;simp only [List.map_append,List.map_cons,List.map_nil,List.mem_append,List.mem_singleton] at hy;rw [iM];split
    ·rfl
    ·rename_i hne
     rcases hy with hy|rfl
     ·exact hK y hy
     ·exact absurd rfl hne) (fun y=>by
    rw [yO];split
    ·rename_i e;subst e
     rw [←hm,rowOf,hnone]
    ·exact hm y)
   refine ⟨m',r1,fun r hk=>SX _ _ _ _ _ ?_⟩;rw [aU h,cond_true,aL h,MN hs',Bool.not_false,cond_true,jJ];exact r2 r hk
theorem i81 {d:List af} (z:Sz d) (Ec:∀t∈d,t.aD.Nodup) {x:aT} (hx:x∈cO d):∃l,f81 d x=some l∧SS l∧(∀y,y∈l↔Le d x y)∧l.length≤d.length:=by
 have hl:=z.len;obtain ⟨m,h1,h2⟩:=h81a z Ec (nm:=x) d 0 [] rfl Full.nil (fun y hy=>by cases hy) (fun y=>by rw [yN];rfl);obtain ⟨l,r1,r2,r3,r4⟩:=i74 (to:=m) (U:=cO d) (nx:=dn d) (by simpa using hl) h1 (fun x _=>by have:=tR d x;omega) (fun x _ y hy=>sD hy) hx;exact ⟨l,e81 _ _ (h2 l r1),r2,r3,by simpa using r4⟩
theorem h124 (l:List aT) (hl:l.length≤1073741824) (hS:SS l):∀(n i:Nat),l.length-i=n→1≤i→i≤l.length→GF i l=some (l.length,l):=by
 intro n
 induction n with
 |zero=>
  intro i hi h1 hle;refine RO _ _ ?_;rw [cond_neg (by simp;omega)]
 |succ n ih=>
  intro i hi h1 hle;refine RO _ _ ?_;have hlt:i<l.length:=by omega
  obtain ⟨j,rfl⟩:∃j,i=j+1:=⟨i-1,by omega⟩
  have hne:l[j+1]≠l[j]:=by
   intro e;have:=(List.getElem_inj hS.nodup).1 e;omega
  rw [cond_pos (by simp;omega),nH hlt,Int.toNat_natCast,mT hlt,uk (by omega),nH (by omega),Int.toNat_natCast,mT (by omega),cond_neg (by simpa using hne),bh (by omega)];exact ih (j+1+1) (by omega) (by omega) (by omega)
theorem i124 (l:List aT) (hl:l.length≤1073741824) (hS:SS l):f124 l=some (l.length,l):=by
 refine e124 _ ?_;by_cases h:l.length<2
 ·rw [cond_pos (by simp;omega)]
 ·rw [cond_neg (by simp;omega)]
  exact h124 l hl hS _ 1 rfl (by omega) (by omega)
theorem h90 {d:List af} {l:List aT} (hl:l.length≤1048576) (hm:∀x∈l,x∈cO d) (hS:SS l):∀(xs:List aT) (i:Nat),l.drop i=xs→i≤l.length→CP (Ci d) l l.length i (l.take i)=some l:=by
 intro xs
 induction xs with
 |nil=>
  intro i h hi;refine Wp _ _ _ _ _ ?_;have hge:=dM h;rw [List.take_of_length_le hge,aP h,cond_false,i80 l (by omega),jN,RD hS,i124 l (by omega) hS,jN,aV (Nat.le_refl _),List.take_length]
 |cons x xs ih=>
  intro i h hi;refine Wp _ _ _ _ _ ?_;have hlt:=bL h;have hx:x∈l:=List.mem_of_getElem? (aW h);obtain ⟨t,_,_,e⟩:=yR (hm x hx);have hd:l.take (i+1)=l.take i++[x]:=by
   rw [List.take_add_one,aW h];rfl
  rw [aU h,cond_true,aL h,dU e,cg _ (by simp;omega) (by simp) (by omega),aM h (by omega),←hd];exact ih (i+1) (az h) (by omega)
theorem i90 {d:List af} (z:Sz d) {l:List aT} (hl:l.length≤1048576) (hm:∀x∈l,x∈cO d) (hS:SS l):f90 d l=some l:=by
 have hz:=z.len;refine e90 _ _ ?_;rw [i75 d (by omega),ah];exact h90 hl hm hS l 0 rfl (by omega)
theorem h126 (l:List aT) (s:aT) (up:List aT) (hl:l.length≤1073741824) (hu:up.length≤1073741824):∀(xs:List aT) (i:Nat),l.drop i=xs→Cn l s up l.length i=some (bI (fun x=> !(x==s)&&decide (x∈up)) xs i):=by
 intro xs
 induction xs with
 |nil=>intro i h;refine RQ _ _ _ _ _ ?_;rw [aP h];rfl
 |cons x xs ih=>
  intro i h;refine RQ _ _ _ _ _ ?_;have h91:f91 x s up=some (!(x==s)&&decide (x∈up)):=by
   refine e91 _ _ _ ?_;cases hx:x==s with
   |true=>rfl
   |false=>rw [Bool.not_false,cond_true,i92 _ _ hu];rfl
  rw [aU h,cond_true,aL h,h91,ah,aM h hl,ih (i+1) (az h),bI];cases (!(x==s)&&decide (x∈up))<;>rfl
theorem h46 {d:List af} (z:Sz d) (A:Acc d) {l:List aT} (hl:l.length≤1048576) (hm:∀x∈l,x∈cO d):∀(xs:List aT) (i:Nat) (o:List aT),l.drop i=xs→o.length≤i→
  CM l (Ci d) l l.length i o=some (o++xs.filter (gQ d l)):=by
 have hz:=z.len;intro xs
 induction xs with
 |nil=>intro i o h ho;refine VU _ _ _ _ _ _ ?_;rw [aP h];simp
 |cons x xs ih=>
  intro i o h ho;refine VU _ _ _ _ _ _ ?_;have hlt:=bL h;have hx:=hm x (List.mem_of_getElem? (aW h));obtain ⟨u,hu,_,hU,yb⟩:=i74 (to:=Ci d) (U:=cO d) (nx:=up d) (by simpa using hz) (fun x hx=>U6 A.nd hx) (fun x _=>EZ z x) (fun x hx y hy=>(B1 A hx (.step .refl hy)).1) hx;simp only [List.length_map] at yb;have h93:f93 l x u=some (!gQ d l x):=by
   refine e93 _ _ _ ?_;have:f126 l x u=_:=e126 _ _ _ (h126 l x u (by omega) (by omega) l 0 rfl);rw [this,ah,FF];refine congrArg some ?_;unfold gQ;rw [List.not_all_eq_any_not];refine List.any_congr rfl ?_|>fun h=>h
   intro y;have e1:decide (y∈u)=(open Classical in decide (Le d y x)):=by rw [decide_eq_decide,hU,wZ A hx]
   rw [e1];have e2:(y==x)=decide (y=x):=by rw [Bool.eq_iff_iff];simp
   rw [e2];cases decide (y=x)<;>simp
  rw [aU h,cond_true,aL h,hu,ah,h93,ah,aM h (by omega),List.filter_cons];cases hf:gQ d l x with
  |true=>
   rw [Bool.not_true,Bool.not_false,cond_true,cg _ (by omega) (by simp) (by omega),ih (i+1) (o++[x]) (az h) (by simp;omega)];simp
  |false=>rw [Bool.not_false,Bool.not_true,cond_false,ih (i+1) o (az h) (by omega)];simp
theorem i46 {d:List af} (z:Sz d) (A:Acc d) {l:List aT} (hl:l.length≤1048576) (hm:∀x∈l,x∈cO d) (hS:SS l):f46 d l=some (kN d l):=by
 have hz:=z.len;refine e46 _ _ ?_;rw [i90 z hl hm hS,ah,i75 d (by omega),ah];have h0:=h46 z A hl hm l 0 [] rfl (by simp);rw [show ((0:Nat):Int)=0 from rfl] at h0;rw [h0];have hf:l.filter (fun s=>decide (s∈cO d))=l:=List.filter_eq_self.2 fun x hx=>by simpa using hm x hx
 have hs:fo l=l:=SS.ext (cT l) hS fun y=>cL
 simp only [kN,hf,hs,List.nil_append]
end Go.Proofs.YtmidjldjkbljjaaGreatDoor.cl
set_option linter.unusedVariables false
set_option linter.unusedSimpArgs false
set_option linter.unusedSectionVars false
namespace Go.Proofs.YtmidjldjkbljjaaGreatDoor.cl
open Go Go.AM
theorem h83b {l:List Nat} (hl:l.length≤1048576) (h64:∀j∈l,j<64):∀(xs:List Nat) (i w:Nat),l.drop i=xs→w<18446744073709551616→vC (cast l) (cast l).length i [(w:Int)]=some (e1 (mk w xs),0):=by
 intro xs
 induction xs with
 |nil=>
  intro i w h hw;refine K1 _ _ _ _ ?_;have hn:norm [(w:Int)]=e1 w:=by
   have:=sX (f:=fun _=>(w:Int)) (n:=1) (w:=w) (by omega) (fun _=>rfl) (fun h=>by cases h);simpa [tab] using this
  rw [aP (nG h),cond_false,c68 _ (by simp),hn];rfl
 |cons x xs ih=>
  intro i w h hw;refine K1 _ _ _ _ ?_;have hx:x<64:=h64 x (List.mem_of_getElem? (aW h));have Qt:IntKind.wrap .i64 (Int.tdiv (x:Int) 64)=0:=by rw [Md hx];rfl
  have e3:min x (IntKind.bits .u64)=x:=by
   show min x 64=x;omega
  have e4:IntKind.wrap .u64 (1 *2^ x)=((2^ x:Nat):Int):=by
   have hp:=nZ hx;have:(1 *2^ x:Int)=((2^ x:Nat):Int):=by simp
   rw [this,kg hp]
  have e5:IntKind.wrap .u64 ((BitVec.ofInt (IntKind.bits .u64) (w:Int)|||BitVec.ofInt (IntKind.bits .u64) ((2^ x:Nat):Int)).toNat:Int)=((w|||2^ x:Nat):Int):=wS hw (nZ hx);simp only [aL (dw h),aU (dw h),cond_true,Qt,Me hx,e3,e4,Int.toNat_zero,Int.toNat_natCast,aM (dw h) (by simp;omega)];rw [aV (by decide),aV (by simp),gv (x:=(w:Int)) (by simp),aV (by decide),aV (by omega),aV (by simp),gv (x:=(w:Int)) (by simp),e5];exact ih (i+1) _ (az h) (BQ hw (nZ hx))
theorem h83a {l:List Nat} (hl:l.length≤1048576) (h64:∀j∈l,j<64):∀(xs:List Nat) (i:Nat) (m:Int),l.drop i=xs→(m= -1∧i=0∨0≤m∧m<64∧0<i∧i≤l.length)→JF (cast l) m (cast l) (cast l).length i=some (e1 (mk 0 l),0):=by
 intro xs
 induction xs with
 |nil=>
  intro i m h hm;refine Wn _ _ _ _ _ ?_;have hge:=dM h;rw [aP (nG h),cond_false,aV (by decide)];rcases hm with ⟨rfl,rfl⟩|⟨h0,h1,h2,h3⟩
  ·have hl0:l=[]:=List.length_eq_zero_iff.1 (by omega)
   subst hl0;rw [aV (by decide)];have hq:vC (cast []) ((cast []).length:Int) 0 (List.replicate (Int.toNat (IntKind.wrap .i64 (Int.tdiv (IntKind.wrap .i64 (-1+64)) 64))) 0)=some (e1 (mk 0 []),0):=by
    refine K1 _ _ _ _ ?_;have hr:(List.replicate (Int.toNat (IntKind.wrap .i64 (Int.tdiv (IntKind.wrap .i64 (-1+64)) 64))) (0:Int))=[]:=by decide
    rw [hr,cond_neg (by decide),c68 _ (by simp)];rfl
   exact hq
  ·have Qt:IntKind.wrap .i64 (Int.tdiv (IntKind.wrap .i64 (m+64)) 64)=1:=by
    have e2:IntKind.wrap .i64 (m+64)=m+64:=eC (by omega) (by omega);have e3:Int.tdiv (m+64) 64=1:=by
     rw [Int.tdiv_eq_ediv_of_nonneg (by omega)];omega
    rw [e2,e3];rfl
   rw [Qt,aV (by decide)];exact h83b hl h64 l 0 0 rfl (by omega)
 |cons x xs ih=>
  intro i m h hm;refine Wn _ _ _ _ _ ?_;have hlt:=bL h;have hx:x<64:=h64 x (List.mem_of_getElem? (aW h));rw [aU (dw h),cond_true,aL (dw h),cond_neg (by simp),cond_neg (by simp;omega),aM (dw h) (by simp;omega)];refine ih (i+1) _ (az h) (.inr ?_);split
  ·exact ⟨by omega,by omega,by omega,by omega⟩
  ·rcases hm with ⟨rfl,rfl⟩|⟨h0,h1,h2,h3⟩
   ·rename_i hc;omega
   ·exact ⟨h0,h1,by omega,by omega⟩
theorem i83 {l:List Nat} (hl:l.length≤1048576) (h64:∀j∈l,j<64):f83 (cast l)=some (e1 (mk 0 l),0):=e83 _ (h83a hl h64 l 0 (-1) rfl (.inl ⟨rfl,rfl⟩))
theorem Y0 {l:List aT} (h:SS l) {i j:Nat} (hi:i<l.length) (hj:j<l.length):Op.bytesLess l[i] l[j]=decide (i<j):=by
 have hp:=List.pairwise_iff_getElem.1 h;by_cases h1:i<j
 ·rw [hp i j hi hj h1];simp [h1]
 ·by_cases h2:i=j
  ·subst h2;rw [xW];simp
  ·have:=hp j i hj hi (by omega)
   rw [jt this];simp [h1]
theorem i120 (a b:aT):f120 a b=some (Op.bytesLess a b):=by
 refine e120 _ _ ?_;have h97:f97 a=some false:=e97 _ (by simp);rw [h97,ah];rfl
theorem half {i j:Nat} (h:i+j≤2097152):IntKind.wrap .i64 (Int.fdiv (IntKind.wrap .u64 (IntKind.wrap .i64 ((i:Int)+(j:Int)))) (2^ min (Int.toNat 1) (IntKind.bits .u64)))=(((i+j) / 2:Nat):Int):=by
 have e1:IntKind.wrap .i64 ((i:Int)+(j:Int))=((i+j:Nat):Int):=by rw [eC (by omega) (by omega)];omega
 have e2:IntKind.wrap .u64 ((i+j:Nat):Int)=((i+j:Nat):Int):=kg (by omega);have e3:(2^ min (Int.toNat 1) (IntKind.bits .u64):Int)=2:=by rfl
 rw [e1,e2,e3,Int.fdiv_eq_ediv_of_nonneg _ (by omega)];rw [eC (by omega) (by omega)];omega
theorem h82 {l:List aT} (hS:SS l) (hl:l.length≤1048576) {k:Nat} (hk:k<l.length):∀(n i j:Nat),j-i=n→i≤k→k≤j→j≤l.length→EV l l[k] l.length i j=some ((k:Int),true):=by
 intro n
 induction n using Nat.strongRecOn with
 |_ n ih=>
  intro i j hn hik hkj hj;refine k82_3 _ _ _ _ _ ?_;by_cases hij:i<j
  ·have hh:(i+j) / 2<l.length:=by omega
   rw [cond_pos (by simp;omega),aV (by decide),half (by omega),bG hh,i120,ah,Y0 hS hh hk];by_cases hlt:(i+j) / 2<k
   ·rw [cond_pos (by simpa using hlt),bh (by omega)]
    exact ih (j-((i+j) / 2+1)) (by omega) _ j rfl (by omega) hkj hj
   ·rw [cond_neg (by simpa using hlt)]
    exact ih ((i+j) / 2-i) (by omega) i _ rfl hik (by omega) (by omega)
  ·obtain rfl:i=k:=by omega
   rw [cond_neg (by simp;omega),cond_pos (by simp;omega),bG hk,cond_pos (by simp)]
theorem i82 {l:List aT} (hS:SS l) (hl:l.length≤1048576) {k:Nat} (hk:k<l.length):f82 l l[k]=some ((k:Int),true):=e82 _ _ (h82 hS hl hk _ 0 l.length rfl (by omega) (by omega) (Nat.le_refl _))
theorem h40c {d:List af} (z:Sz d) (h64:(cH d).length≤64) {i:Nat} (hi:i<(cH d).length) {x:aT} {low:List aT} (hlow:low.length≤d.length) (hL:∀y,y∈low↔Le d x y) (hx:x∈cO d) {codes:List W} (hc:codes.length=(cH d).length) {r:List aT×List (List Int)}
  (hr:vB d (cH d).length (i+1:Nat) (cH d) (codes.set i (e1 (cw d (cH d) x)))=some r):∀(xs:List aT) (k:Nat) (o:List Nat),low.drop k=xs→k≤low.length→o.length≤k→(∀j,j∈o↔∃h:j<(cH d).length,(cH d)[j]∈low.take k)→
  ze d i (cH d).length i low low.length k (cH d) (cast o) codes=some r:=by
 have hz:=z.len;intro xs
 induction xs with
 |nil=>
  intro k o h YK ho hm;refine SM _ _ _ _ _ _ _ _ _ _ ?_;have hge:=dM h;rw [List.take_of_length_le hge] at hm;have h64':∀j∈o,j<64:=fun j hj=>by obtain ⟨h1,_⟩:=(hm j).1 hj;omega
  have ew:mk 0 o=cw d (cH d) x:=by
   apply Nat.eq_of_testBit_eq;intro j;rw [Te,Nat.zero_testBit,Bool.false_or,Bool.eq_iff_iff,decide_eq_true_iff,hm,pQ];constructor
   ·rintro ⟨h1,h2⟩
    refine ⟨h1,?_⟩;rw [List.getD_eq_getElem?_getD,List.getElem?_eq_getElem h1];exact (hL _).1 h2
   ·rintro ⟨h1,h2⟩
    refine ⟨h1,?_⟩;rw [List.getD_eq_getElem?_getD,List.getElem?_eq_getElem h1] at h2;exact (hL _).2 h2
  have hol:o.length≤1048576:=by omega
  rw [aP h,cond_false,i83 hol h64',ah,ah,aV (by simp;omega),Int.toNat_natCast,mT (by omega),bh (by omega),ew];exact hr
 |cons y xs ih=>
  intro k o h YK ho hm;refine SM _ _ _ _ _ _ _ _ _ _ ?_;have hlt:=bL h;have hy:y∈low:=List.mem_of_getElem? (aW h);have hyn:y∈cH d:=cL.2 (Le.cO hx ((hL y).1 hy));obtain ⟨j,hj,e⟩:=List.mem_iff_getElem.1 hyn;have hd:low.take (k+1)=low.take k++[y]:=by
   rw [List.take_add_one,aW h];rfl
  have hal:=eY (d:=d);have hb:=i82 (l:=cH d) (cT (cO d)) (by omega) hj;rw [e] at hb;rw [aU h,cond_true,aL h,hb,ah,cg _ (by simp;omega) (by simp) (by omega),aM h (by omega)]
  have:=ih (k+1) (o++[j]) (az h) (by omega) (by simp;omega) (fun i'=>by
   rw [List.mem_append,List.mem_singleton,hm,hd];constructor
   ·rintro (⟨h1,h2⟩|rfl)
    ·exact ⟨h1,List.mem_append_left _ h2⟩
    ·exact ⟨hj,List.mem_append_right _ (by rw [e];simp)⟩
   ·rintro ⟨h1,h2⟩
    rcases List.mem_append.1 h2 with h2|h2
    ·exact .inl ⟨h1,h2⟩
    ·right
     simp only [List.mem_singleton] at h2;have:(cH d)[i']=(cH d)[j]:=by rw [h2,e]
     exact (List.getElem_inj (cT (cO d)).nodup).1 this)
  rw [show cast (o++[j])=cast o++[(j:Int)] from List.map_append] at this;exact this
theorem Pk {α:Type} {f:aT→α} {z:α} {l:List aT} {i:Nat} (hi:i<l.length):(((l.take i).map f)++List.replicate (l.length-i) z).set i (f l[i])=((l.take (i+1)).map f)++List.replicate (l.length-(i+1)) z:=by
 rw [List.set_append_right _ _ (by simp;omega)];have e:i-((l.take i).map f).length=0:=by simp;omega
 rw [e,show l.length-i=(l.length-(i+1))+1 by omega,List.replicate_succ,List.set_cons_zero];have e2:l.take (i+1)=l.take i++[l[i]]:=by
  rw [List.take_add_one,List.getElem?_eq_getElem hi];rfl
 rw [e2,List.map_append,List.append_assoc];rfl
theorem h40b {d:List af} (z:Sz d) (Ec:∀t∈d,t.aD.Nodup) (h64:(cH d).length≤64):∀(n i:Nat),(cH d).length-i=n→i≤(cH d).length→
  vB d (cH d).length i (cH d) ((((cH d).take i).map fun x=>e1 (cw d (cH d) x))++List.replicate ((cH d).length-i) ([]:W))=some (cH d,(fI d).map e1):=by
 have hz:=z.len;intro n
 induction n with
 |zero=>
  intro i hn hi;obtain rfl:i=(cH d).length:=by omega
  refine SL _ _ _ _ _ ?_;rw [cond_neg (by simp),List.take_length,Nat.sub_self];simp [fI,Function.comp_def]
 |succ n ih=>
  intro i hn hi;refine SL _ _ _ _ _ ?_;have hlt:i<(cH d).length:=by omega
  have hx:(cH d)[i]∈cO d:=cL.1 (List.getElem_mem hlt);obtain ⟨low,r1,r2,r3,r4⟩:=i81 z Ec hx;have hih:=ih (i+1) (by omega) (by omega);rw [←Pk (f:=fun x=>e1 (cw d (cH d) x)) (z:=([]:W)) hlt] at hih;rw [cond_pos (by simp;omega),nH hlt,Int.toNat_natCast,mT hlt,r1,ah];exact h40c z h64 hlt r4 r3 hx (by simp;omega) hih low 0 [] rfl (by omega) (by simp) (fun j=>by simp)
theorem h40a {d:List af} (z:Sz d) (vG:(cO d).Nodup) (Ec:∀t∈d,t.aD.Nodup) (h64:d.length≤64):∀(xs:List af) (i:Nat),d.drop i=xs→i≤d.length→EK d d d.length i (cO (d.take i))=some (cH d,(fI d).map e1):=by
 have hz:=z.len;have hal:=eY (d:=d);intro xs
 induction xs with
 |nil=>
  intro i h hi;refine VR _ _ _ _ _ ?_;have hge:=dM h;rw [List.take_of_length_le hge,aP h,cond_false,i80 _ (by simp;omega),jN,Iy vG];have hal':(fo (cO d)).length≤d.length:=hal;rw [aV (by omega)];have:=h40b z Ec (by omega) _ 0 rfl (by omega);simpa using this
 |cons x xs ih=>
  intro i h hi;refine VR _ _ _ _ _ ?_;have hlt:=bL h;have hd:d.take (i+1)=d.take i++[x]:=by
   rw [List.take_add_one,aW h];rfl
  have:=ih (i+1) (az h) (by omega);rw [hd,show cO (d.take i++[x])=cO (d.take i)++[x.Name] from List.map_append] at this;rw [aU h,cond_true,aL h,cg _ (by simp;omega) (by simp) (by omega),aM h (by omega)];exact this
theorem i40 {d:List af} (z:Sz d) (vG:(cO d).Nodup) (Ec:∀t∈d,t.aD.Nodup) (h64:d.length≤64):f40 d=some (cH d,(fI d).map e1):=e40 _ (h40a z vG Ec h64 d 0 rfl (by omega))
def Hh (w j:Nat):Int:=((w / 2^ (8 *j) % 256:Nat):Int)
def vb (w:Nat):aT:=if w=0 then [] else (List.range 8).map fun j=>UInt8.ofNat (w / 2^ (8 *j) % 256)
theorem Hj (l:List Int):bytesOf (l.map (aB .u8))=some (l.map fun n=>UInt8.ofNat n.toNat):=by
 induction l with
 |nil=>rfl
 |cons x l ih=>simp only [List.map_cons,aB,bytesOf] at ih⊢;rw [ih];rfl
theorem DV {R:Type} (l:List Int) (k:List UInt8→Option R):A5 l k=k (l.map fun n=>UInt8.ofNat n.toNat):=by
 unfold A5 su;rw [Hj]
theorem h85b {w:Nat} (hw:w<18446744073709551616):∀(n j:Nat),8-j=n→j≤8→∀r,JG [(w:Int)] 1 1 ((List.range 8).map (Hh w))=some r→JH w ((8 *j:Nat):Int) [(w:Int)] 1 0 ((List.range j).map (Hh w))=some r:=by
 intro n
 induction n with
 |zero=>
  intro j hn hj r hr;obtain rfl:j=8:=by omega
  refine Wo _ _ _ _ _ _ ?_;rw [cond_neg (by decide)];exact hr
 |succ n ih=>
  intro j hn hj r hr;refine Wo _ _ _ _ _ _ ?_;have e1:min (8 *j) (IntKind.bits .u64)=8 *j:=by
   show min (8 *j) 64=8 *j;omega
  have e2:Int.fdiv (w:Int) (2^ (8 *j))=((w / 2^ (8 *j):Nat):Int):=by
   rw [show (2^ (8 *j):Int)=((2^ (8 *j):Nat):Int) by simp,Int.fdiv_eq_ediv_of_nonneg _ (Int.natCast_nonneg _)];simp
  have e3:IntKind.wrap .u8 ((w / 2^ (8 *j):Nat):Int)=Hh w j:=by
   rw [PB];unfold Hh;simp
  have e4:IntKind.wrap .i64 (((8 *j:Nat):Int)+8)=((8 *(j+1):Nat):Int):=by
   rw [eC (by omega) (by omega)];omega
  rw [cond_pos (by simp;omega),aV (by omega),Int.toNat_natCast,e1,e2,e3,e4,cg _ (by simp;omega) (by simp) (by omega)];have:=ih (j+1) (by omega) (by omega) r hr;rw [List.range_succ,List.map_append] at this;exact this
theorem i85 {w:Nat} (hw:w<18446744073709551616):f85 (e1 w)=some (vb w):=by
 refine e85 _ ?_;by_cases h0:w=0
 ·subst h0
  rw [show e1 0=[] from rfl,aV (by decide)];refine SY _ _ _ _ ?_;rw [cond_neg (by decide),DV];rfl
 ·have hl:e1 w=[(w:Int)]:=by simp [e1,h0]
  rw [hl,aV (by rw [show ([(w:Int)].length:Int)=1 from rfl];decide)];refine SY _ _ _ _ ?_;rw [cond_pos (by simp),show (0:Int)=((0:Nat):Int) from rfl,dQ (x:=(w:Int)) (by simp)]
  have h:=h85b hw _ 0 rfl (by omega) (vb w) (by
   refine SY _ _ _ _ ?_;rw [cond_neg (by decide),DV];unfold vb Hh;rw [if_neg h0,List.map_map]
   simp only [Function.comp_def,Int.toNat_natCast])
  exact h
theorem S0 {w v:Nat} (hw:w<18446744073709551616) (hv:v<18446744073709551616) (h:vb w=vb v):w=v:=by
 unfold vb at h;split at h
 ·split at h
  ·omega
  ·simp at h
 ·split at h
  ·simp at h
  ·have hb:∀j,j<8→w / 2^ (8 *j) % 256=v / 2^ (8 *j) % 256:=by
    intro j hj;have:=congrArg (fun l=>l[j]?) h;simp only [List.getElem?_map,List.getElem?_range hj,Option.map_some,Option.some.injEq] at this;have h2:=congrArg UInt8.toNat this;simp only [UInt8.toNat_ofNat'] at h2;omega
   have b0:=hb 0 (by omega);have b1:=hb 1 (by omega);have b2:=hb 2 (by omega);have b3:=hb 3 (by omega);have b4:=hb 4 (by omega);have b5:=hb 5 (by omega);have b6:=hb 6 (by omega);have b7:=hb 7 (by omega);simp only [Nat.reduceMul,Nat.reducePow,Nat.mul_zero,Nat.pow_zero,Nat.div_one] at b0 b1 b2 b3 b4 b5 b6 b7;omega
noncomputable def jI (l:List Nat):List (aT×Bool):=l.foldl (fun m w=>ec m (vb w) true) []
theorem Bv (l:List Nat) (w:Nat):jI (l++[w])=ec (jI l) (vb w) true:=by simp [jI]
theorem vZ (l:List Nat) (x:aT):getM (jI l) x=if x∈l.map vb then some true else none:=by
 have key:∀(l:List Nat) (m:List (aT×Bool)) (s:List aT),(∀x,getM m x=if x∈s then some true else none)→∀x,getM (l.foldl (fun m w=>ec m (vb w) true) m) x=if x∈s++l.map vb then some true else none:=by
  intro l
  induction l with
  |nil=>intro m s h x;simpa using h x
  |cons y l ih=>
   intro m s h x
   rw [List.foldl_cons,ih _ (s++[vb y]) (fun z=>by
    rw [iM,h]
    by_cases e:z=vb y<;>simp [e])]
   simp
 have:=key l [] [] (fun x=>by rw [gR];simp) x;simpa [jI] using this
theorem i84 {l:List Nat} (hl:l.length≤1048576) (hlt:∀c∈l,c<18446744073709551616) {w:Nat} (hw:w<18446744073709551616):f84 (e1 w) (jI l) (l.map e1)=some ((),jI (lY l w),(lY l w).map e1):=by
 refine e84 _ _ _ ?_;by_cases h0:w=0
 ·subst h0
  rw [cond_neg (by decide)];have:lY l 0=l:=by simp [lY]
  rw [this]
 ·have hl1:(e1 w).length=1:=by unfold e1;rw [if_neg h0];rfl
  rw [cond_pos (by rw [hl1];decide),i85 hw,ah];by_cases hm:w∈l
  ·have:lY l w=l:=if_pos (.inr hm)
   rw [dU (v:=true) (by rw [vZ,if_pos (List.mem_map_of_mem hm)]),this];rfl
  ·have hk:vb w∉l.map vb:=by
    intro hc;obtain ⟨v,hv,e⟩:=List.mem_map.1 hc;exact hm (S0 (hlt v hv) hw e▸hv)
   have:lY l w=l++[w]:=if_neg (by simp only [not_or];exact ⟨h0,hm⟩);rw [iO (by rw [vZ,if_neg hk]),ah,jJ,cg _ (by simp;omega) (by simp) (by omega),this,Bv,List.map_append];rfl
theorem Kq {i n k:Nat} {l:List Nat} (h:256<l.length):gr i n k l=l:=by
 cases n with
 |zero=>rfl
 |succ n=>unfold gr;rw [if_neg (by omega)]
theorem HL {n i:Nat} {l:List Nat} (h:256<l.length):fK n i l=l:=by
 cases n with
 |zero=>rfl
 |succ n=>unfold fK;rw [if_neg (by omega)]
theorem h41c {i:Nat}:∀(n k:Nat) (l:List Nat),i-k=n→k≤i→i<l.length→l.length≤256→(∀c∈l,c<18446744073709551616)→∀r,
  ((gr i n k l).length≤256→zf (i+1:Nat) (jI (gr i n k l)) ((gr i n k l).map e1)=some r)→(¬(gr i n k l).length≤256→r=([],false))→GX i k (jI l) (l.map e1)=some r:=by
 intro n
 induction n with
 |zero=>
  intro k l hn hk hi hlen hlt r h1 h2;refine SO _ _ _ _ ?_;rw [cond_neg (by simp;omega),bh (by omega)];exact h1 hlen
 |succ n ih=>
  intro k l hn hk hi hlen hlt r h1 h2;refine SO _ _ _ _ ?_;have hik:=vY hlt hi;have hkk:=vY hlt (show k<l.length by omega);have hand:l.getD i 0&&&l.getD k 0<18446744073709551616:=Nat.lt_of_le_of_lt Nat.and_le_left hik;unfold gr at h1 h2;rw [if_pos hlen] at h1 h2;rw [cond_pos (by simp;omega),aV (by simp;omega),Int.toNat_natCast,gv (getD_map hi),aV (by simp;omega),Int.toNat_natCast,gv (getD_map (by omega)),Dp hik hkk,ah,i84 (by omega) hlt hand,AZ];obtain ⟨e,he,hle⟩:=vI l (l.getD i 0&&&l.getD k 0);by_cases h256:(lY l (l.getD i 0&&&l.getD k 0)).length≤256
  ·rw [cond_neg (by rw [List.length_map];exact decide_eq_false (by omega)),bh (by omega)]
   exact ih (k+1) _ (by omega) (by omega) (by rw [he];simp;omega) h256 (E8 hlt hand) r h1 h2
  ·rw [cond_pos (by rw [List.length_map];exact decide_eq_true (by omega)),h2 (by rw [Kq (by omega)];exact h256)]
theorem h41b:∀(n i:Nat) (l:List Nat),258≤i+n→l.length≤256→(∀c∈l,c<18446744073709551616)→zf i (jI l) (l.map e1)=some (if (fK n i l).length≤256 then ((fK n i l).map e1,true) else ([],false)):=by
 intro n
 induction n with
 |zero=>
  intro i l hn hlen hlt;refine SN _ _ _ ?_;rw [cond_neg (by simp;omega)];show _=some (if l.length≤256 then (l.map e1,true) else ([],false));rw [if_pos hlen];simp;omega
 |succ n ih=>
  intro i l hn hlen hlt;refine SN _ _ _ ?_;have hf:fK (n+1) i l=if i<l.length∧l.length≤256 then fK n (i+1) (gr i i 0 l) else l:=rfl
  by_cases hi:i<l.length
  ·rw [if_pos (⟨hi,hlen⟩:i<l.length∧l.length≤256)] at hf
   rw [hf,cond_pos (by simp;omega)];refine h41c i 0 l rfl (by omega) hi hlen hlt _ (fun h=> ?_) (fun h=> ?_)
   ·exact ih (i+1) _ (by omega) h (HJ i i 0 l hlt)
   ·rw [HL (by omega),if_neg h]
  ·rw [if_neg (fun h:i<l.length∧l.length≤256=>hi h.1)] at hf
   rw [hf,cond_neg (by simp;omega),if_pos hlen];simp;omega
theorem h41a {cs:List Nat} (hlt:∀c∈cs,c<18446744073709551616) (kq:cs.Nodup) (hnz:∀c∈cs,c≠0) (hlen:cs.length≤256):∀(xs:List Nat) (i:Nat),cs.drop i=xs→i≤cs.length→∀r,zf 0 (jI cs) (cs.map e1)=some r→Jr (cs.map e1) (cs.map e1).length i (jI (cs.take i)) ((cs.take i).map e1)=some r:=by
 intro xs
 induction xs with
 |nil=>
  intro i h hi r hr;refine VS _ _ _ _ _ ?_;have hm:(cs.map e1).drop i=[]:=by rw [←List.map_drop,h];rfl
  rw [aP hm,cond_false,List.take_of_length_le (dM h)];exact hr
 |cons w xs ih=>
  intro i h hi r hr;refine VS _ _ _ _ _ ?_;have hlt':=bL h;have hm:(cs.map e1).drop i=e1 w::xs.map e1:=by rw [←List.map_drop,h];rfl
  have hw:w∈cs:=List.mem_of_getElem? (aW h);have hd:cs.take (i+1)=cs.take i++[w]:=by
   rw [List.take_add_one,aW h];rfl
  have hnot:w∉cs.take i:=by
   have h1:=List.take_append_drop i cs;rw [h] at h1;rw [←h1,List.nodup_append] at kq;exact fun hmm=>kq.2.2 w hmm w (by simp) rfl
  have ha:lY (cs.take i) w=cs.take (i+1):=by
   rw [hd];exact if_neg (by simp only [not_or];exact ⟨hnz w hw,hnot⟩)
  rw [aU hm,cond_true,aL hm,i84 (by simp;omega) (fun c hc=>hlt c (List.mem_of_mem_take hc)) (hlt w hw),AZ,ha,aM hm (by simp;omega)];exact ih (i+1) (az h) (by omega) r hr
theorem i41 {cs:List Nat} (hlt:∀c∈cs,c<18446744073709551616) (kq:cs.Nodup) (hnz:∀c∈cs,c≠0) (hlen:cs.length≤256):f41 (cs.map e1)=some (if (qi cs).length≤256 then ((qi cs).map e1,true) else ([],false)):=by
 refine e41 _ ?_;have:=h41b 258 0 cs (by omega) hlen hlt;exact h41a hlt kq hnz hlen cs 0 rfl (by omega) _ this
end Go.Proofs.YtmidjldjkbljjaaGreatDoor.cl
