/- The Closure laws. -/
import Derived.Test.YtmidjldjkbljjaaGreatDoorClNb
import Derived.Test.YtmidjldjkbljjaaGreatDoorClL
set_option linter.unusedVariables false
set_option linter.unusedSimpArgs false
set_option linter.unusedSectionVars false
namespace Go.Proofs.YtmidjldjkbljjaaGreatDoor.cl
open Go Go.AM
theorem HY (l:List aS):strs (l.map au)=some l:=by
 induction l with
 |nil=>rfl
 |cons x l ih=>simp only [List.map_cons,au,strs] at ih⊢;rw [ih];rfl
theorem i80 (l:List aS) (hl:l.length≤1073741824):f80 l=some ((),ec Op.bytesLess l):=by
 refine rH (E:=MD) ?_;refine ov ?_;have hb:Nat.ble l.length 1073741824=true:=Nat.ble_eq_true_of_le hl;simp only [c9,Ds,HY,hb,cond_true];rfl
theorem Lv {K V R:Type} {l:List (K×V)} {key:K} {b:Bool} (h:(iF l key).isSome=b) (k:Bool→Option R):Vk l key k=k b:=by subst h;rfl
theorem wK (a b:aS) (h:Op.bytesLess a b=true):Op.bytesLess b a=false:=jr h
theorem Ov (x y z:aS) (h:Op.bytesLess x y=true) (h':Op.bytesLess z y=false):Op.bytesLess x z=true:=by
 by_cases e:z=y
 ·rw [e];exact h
 ·exact rE _ _ _ h (lR _ _ h' e)
theorem Jr {α:Type} (lt:α→α→Bool) (asymm:∀a b,lt a b=true→lt b a=false) (up:∀x y z,lt x y=true→lt z y=false→lt x z=true):∀(l E:List α),e9 lt E→e9 lt (l.foldl (fun out x=>kj lt x out) E)∧(l.foldl (fun out x=>kj lt x out) E).Perm (E++l):=by
 intro l
 induction l with
 |nil=>intro E hE;exact ⟨hE,by simp⟩
 |cons p l ih=>
  intro E hE;obtain ⟨h1,h2⟩:=ih _ (n9 lt asymm up hE (x:=p));refine ⟨h1,h2.trans ?_⟩;refine ((C6 lt p E).append_right l).trans ?_;exact (List.perm_middle (a:=p) (l₁:=E) (l₂:=l)).symm
theorem uk {α:Type} (lt:α→α→Bool) (asymm:∀a b,lt a b=true→lt b a=false) (up:∀x y z,lt x y=true→lt z y=false→lt x z=true) (l:List α):e9 lt (ec lt l)∧(ec lt l).Perm l:=by
 have:=Jr lt asymm up l [] (by simp [e9]);simpa [ec] using this
theorem vp {l:List aS} (h:l.Nodup):SS (ec Op.bytesLess l):=by
 obtain ⟨h1,h2⟩:=uk Op.bytesLess wK Ov l;have hn:(ec Op.bytesLess l).Nodup:=h2.nodup_iff.2 h;unfold SS;have:=List.Pairwise.and h1 hn;exact this.imp fun {a b} ⟨hx,hne⟩=>by
  cases e:Op.bytesLess a b with
  |true=>rfl
  |false=>rw [lR a b e hne] at hx;cases hx
theorem s5 {l:List aS} {x:aS}:x∈ec Op.bytesLess l↔x∈l:=(uk Op.bytesLess wK Ov l).2.mem_iff
theorem vq (l:List aS):(ec Op.bytesLess l).length=l.length:=(uk Op.bytesLess wK Ov l).2.length_eq
theorem G4 {l:List aS} (h:l.Nodup):ec Op.bytesLess l=eU l:=SS.ext (vp h) (cU l) fun y=>by rw [s5,cO]
theorem PN {l:List aS} (h:SS l):ec Op.bytesLess l=l:=SS.ext (vp h.nodup) h fun y=>s5
noncomputable def jS (o:List aS):List (aS×Bool):=o.foldl (fun m x=>dP m x true) []
theorem vw (o:List aS) (x:aS):jS (o++[x])=dP (jS o) x true:=by simp [jS]
theorem An (o:List aS) (x:aS):getM (jS o) x=if x∈o then some true else none:=by
 have key:∀(l:List aS) (m:List (aS×Bool)) (s:List aS),(∀x,getM m x=if x∈s then some true else none)→∀x,getM (l.foldl (fun m x=>dP m x true) m) x=if x∈s++l then some true else none:=by
  intro l
  induction l with
  |nil=>intro m s h x;simpa using h x
  |cons y l ih=>
   intro m s h x
   rw [List.foldl_cons,ih _ (s++[y]) (fun z=>by
    rw [gm,h]
    by_cases e:z=y<;>simp [e])]
   simp
 have:=key o [] [] (fun x=>by rw [eS];simp) x;simpa [jS] using this
theorem h74b {to:List (aS×List aS)} {i:Nat} {l:List aS} (IM:l.length≤1048576):∀(xs:List aS) (k:Nat) (o:List aS),l.drop k=xs→i<o.length→o.length+xs.length≤4194304→∀r,
  Io to (i+1:Nat) (jS (dD o xs)) (dD o xs)=some r→nN to i l l.length k (jS o) o=some r:=by
 intro xs
 induction xs with
 |nil=>
  intro k o h hi hlen r hr;refine QT _ _ _ _ _ _ _ ?_;rw [aQ h,cond_false,bl (by omega)];exact hr
 |cons s xs ih=>
  intro k o h hi hlen r hr;refine QT _ _ _ _ _ _ _ ?_;simp only [List.length_cons] at hlen;rw [aT h,cond_true,aM h,aN h (by omega)];by_cases h2:s∈o
  ·rw [dK (v:=true) (by rw [An,if_pos h2]),Bool.not_true,cond_false]
   refine ih (k+1) o (az h) hi (by omega) r ?_;have e:dD o (s::xs)=dD o xs:=by simp [dD,h2]
   rw [e] at hr;exact hr
  ·rw [gI (by rw [An,if_neg h2]),iw,cF _ (by omega) (by simp) (by omega),←vw]
   refine ih (k+1) (o++[s]) (az h) (by simp;omega) (by simp;omega) r ?_;have e:dD o (s::xs)=dD (o++[s]) xs:=by simp [dD,h2]
   rw [e] at hr;exact hr
theorem i74 {to:List (aS×List aS)} {U:List aS} {nx:aS→List aS} (hU:U.length≤1048576) (hto:∀x∈U,getM to x=some (nx x)) (hnl:∀x∈U,(nx x).length≤1048576) (rS:∀x∈U,∀y∈nx x,y∈U) {x:aS} (hx:x∈U):
  ∃l,f74 to x=some l∧SS l∧(∀y,y∈l↔zg nx x y)∧l.length≤U.length:=by
 obtain ⟨o,h1,h2,h3,h4⟩:=search (next:=nx) (U:=U) (x0:=x) hx rS (R:=List aS) (outer:=fun i o=>Io to i (jS o) o) (fin:=fun o=>qW (f80 o) fun bC w6=>some w6)
  (fun i o ho hi r hr=>by
   refine Uj _ _ _ _ ?_
   rw [cond_neg (by simp;omega)];exact hr)
  (fun i o y ho hlen hy hyU r hr=>by
   have hi:=(List.getElem?_eq_some_iff.1 hy).1;refine Uj _ _ _ _ ?_;rw [cond_pos (by simp;omega),jL hi,Int.toNat_natCast,gp hy,dK (hto y hyU)];have:=hnl y hyU
   exact h74b (by omega) (nx y) 0 o rfl hi (by omega) r hr)
 refine ⟨ec Op.bytesLess o,?_,vp h1,fun y=>by rw [s5,h2],by rw [vq];exact h3⟩;refine e74 _ _ ?_;rw [dK (hto x hx),iw]
 have:=h4 (ec Op.bytesLess o) (by
  show qW (f80 o) _=_
  rw [i80 o (by omega),jJ])
 exact this
theorem h81b {d:List af} (z:Sz d) {nm:aS} {i:Nat} (hi:i<d.length) {t:af} (hst:t.aB.length≤1048576) (hnd:t.aB.Nodup) {pre:aS→List aS} (hpre:∀y,(pre y).length≤1048576) {K:aS→Prop}:
  ∀(xs:List aS) (k:Nat) (m:List (aS×Option (List aS))),t.aB.drop k=xs→Full m→(∀y,K y→(getM m y).isSome=true)→(∀y,rowOf m y=pre y++(if y∈t.aB.take k then [t.Name] else []))→
  ∃m',Full m'∧(∀y,K y→(getM m' y).isSome=true)∧(∀y,rowOf m' y=pre y++(if y∈t.aB then [t.Name] else []))∧∀r,DM nm d d.length (i+1:Nat) m'=some r→
  wB nm d d.length i t.aB t.aB.length k t m=some r:=by
 have hl:=z.len;intro xs
 induction xs with
 |nil=>
  intro k m h hF hK hm;have:=dJ h;refine ⟨m,hF,hK,fun y=>by rw [hm,List.take_of_length_le this],fun r hk=>Up _ _ _ _ _ _ _ _ _ ?_⟩;rw [aQ h,cond_false,bl (by omega)];exact hk
 |cons x xs ih=>
  intro k m h hF hK hm;have hlt:=bN h;have hx:x∉t.aB.take k:=by
   have h1:=List.take_append_drop k t.aB;rw [h] at h1;rw [←h1,List.nodup_append] at hnd;exact fun hm=>hnd.2.2 x hm x (by simp) rfl
  have hd:t.aB.take (k+1)=t.aB.take k++[x]:=by
   rw [List.take_add_one,aZ h];rfl
  obtain ⟨m',e1,e2⟩:=DP hF x (fun dO jj=>check ((List.length dO+List.length [t.Name]) *16≤140737488355328∧List.length dO+List.length [t.Name]≤4611686018427387904) (lV (dP jj x (some (dO++[t.Name]))) fun oO=>wB nm d d.length i t.aB t.aB.length (IntKind.wrap .i64 (k+1)) t oO));have hrow:rowOf m x=pre x:=by rw [hm,if_neg hx,List.append_nil]
  obtain ⟨m2,a1,aK,a2,a3⟩:=ih (k+1) (dP m x (some (pre x++[t.Name]))) (az h) (hF.put _ _) (fun y hy=>by
   rw [gm];split
   ·rfl
   ·exact hK y hy) (fun y=>by
   rw [xO,hm,hd];by_cases e:y=x
   ·subst e;simp
   ·have:(y∈t.aB.take k++[x])↔y∈t.aB.take k:=by simp [e]
    simp only [e,if_false,this])
  refine ⟨m2,a1,aK,a2,fun r hk=>Up _ _ _ _ _ _ _ _ _ ?_⟩;rw [aT h,cond_true,aM h,e1,hrow,cF _ (by have:=hpre x;omega) (by simp) (by omega),iw,e2,aN h (by omega)];exact a3 r hk
theorem h81a {d:List af} (z:Sz d) (C1:∀t∈d,t.aB.Nodup) {nm:aS}:
  ∀(xs:List af) (i:Nat) (m:List (aS×Option (List aS))),d.drop i=xs→Full m→(∀y,y∈cK (d.take i)→(getM m y).isSome=true)→(∀y,rowOf m y=dn (d.take i) y)→
  ∃m',(∀y∈cK d,getM m' y=some (dn d y))∧∀r,f74 m' nm=some r→DM nm d d.length i m=some r:=by
 have hl:=z.len;intro xs
 induction xs with
 |nil=>
  intro i m h hF hK hm;have hge:=dJ h;rw [List.take_of_length_le hge] at hm hK;obtain ⟨m',e1,e2,e3⟩:=CJ hF (fun SY=>Option.bind (f74 SY nm) fun nP=>some nP);refine ⟨m',fun y hy=> ?_,fun r hk=>QW _ _ _ _ _ ?_⟩
  ·have h1:=e2 y
   have h2:=e3 y;rw [hK y hy] at h2;rw [hm] at h1;cases e:getM m' y with
   |none=>rw [e] at h2;cases h2
   |some v=>rw [e] at h1;simp only [Option.getD_some] at h1;rw [h1]
  ·rw [aQ h,cond_false,e1,hk];rfl
 |cons x xs ih=>
  intro i m h hF hK hm;have hlt:=bN h;have hx:x∈d:=List.mem_of_getElem? (aZ h);have hd:d.take (i+1)=d.take i++[x]:=by
   rw [List.take_add_one,aZ h];rfl
  have go:∀m0,Full m0→(∀y,y∈cK (d.take (i+1))→(getM m0 y).isSome=true)→(∀y,rowOf m0 y=dn (d.take i) y)→∃m',(∀y∈cK d,getM m' y=some (dn d y))∧∀r,f74 m' nm=some r→wB nm d d.length i x.aB x.aB.length 0 x m0=some r:=by
   intro m0 hF0 hK0 hm0
   obtain ⟨m2,a1,a2,a3,a4⟩:=h81b z hlt (nm:=nm) (by have:=z.sup x hx;omega) (C1 x hx) (pre:=dn (d.take i)) (fun y=>by
    have:=sR (d.take i) y
    rw [List.length_take] at this;omega) (K:=fun y=>y∈cK (d.take (i+1))) x.aB 0 m0 rfl hF0 hK0 (fun y=>by rw [hm0];simp)
   obtain ⟨m',r1,r2⟩:=ih (i+1) m2 (az h) a1 a2 (fun y=>by
    rw [a3,hd,CR];refine congrArg _ ?_;unfold dn
    by_cases e:y∈x.aB<;>simp [e])
   exact ⟨m',r1,fun r hr=>a4 r (r2 r hr)⟩
  by_cases hs:(iF m x.Name).isSome=true
  ·obtain ⟨m',r1,r2⟩:=go m hF (fun y hy=>by
    rw [hd] at hy;simp only [List.map_append,List.map_cons,List.map_nil,List.mem_append,List.mem_singleton] at hy;rcases hy with hy|rfl
    ·exact hK y hy
    ·rw [←yW];exact hs) hm
   refine ⟨m',r1,fun r hk=>QW _ _ _ _ _ ?_⟩;rw [aT h,cond_true,aM h,Lv hs,Bool.not_true,cond_false];exact r2 r hk
  ·have hs':(iF m x.Name).isSome=false:=by simpa using hs
   have hnone:getM m x.Name=none:=by
    rw [yW] at hs';cases e:getM m x.Name with
    |none=>rfl
    |some v=>rw [e] at hs';cases hs'
   obtain ⟨m',r1,r2⟩:=go (dP m x.Name (some [])) (hF.put _ _) (fun y hy=>by
    rw [hd] at hy;simp only [List.map_append,List.map_cons,List.map_nil,List.mem_append,List.mem_singleton] at hy;rw [gm];split
    ·rfl
    ·rename_i hne
     rcases hy with hy|rfl
     ·exact hK y hy
     ·exact absurd rfl hne) (fun y=>by
    rw [xO];split
    ·rename_i e;subst e
     rw [←hm,rowOf,hnone]
    ·exact hm y)
   refine ⟨m',r1,fun r hk=>QW _ _ _ _ _ ?_⟩;rw [aT h,cond_true,aM h,Lv hs',Bool.not_false,cond_true,iw];exact r2 r hk
theorem i81 {d:List af} (z:Sz d) (C1:∀t∈d,t.aB.Nodup) {x:aS} (hx:x∈cK d):∃l,f81 d x=some l∧SS l∧(∀y,y∈l↔Le d x y)∧l.length≤d.length:=by
 have hl:=z.len;obtain ⟨m,h1,h2⟩:=h81a z C1 (nm:=x) d 0 [] rfl Full.nil (fun y hy=>by cases hy) (fun y=>by rw [xN];rfl);obtain ⟨l,r1,r2,r3,r4⟩:=i74 (to:=m) (U:=cK d) (nx:=dn d) (by simpa using hl) h1 (fun x _=>by have:=sR d x;omega) (fun x _ y hy=>rI hy) hx;exact ⟨l,e81 _ _ (h2 l r1),r2,r3,by simpa using r4⟩
theorem h124 (l:List aS) (hl:l.length≤1073741824) (hS:SS l):∀(n i:Nat),l.length-i=n→1≤i→i≤l.length→FB i l=some (l.length,l):=by
 intro n
 induction n with
 |zero=>
  intro i hi h1 hle;refine PZ _ _ ?_;rw [cond_neg (by simp;omega)]
 |succ n ih=>
  intro i hi h1 hle;refine PZ _ _ ?_;have hlt:i<l.length:=by omega
  obtain ⟨j,rfl⟩:∃j,i=j+1:=⟨i-1,by omega⟩
  have hne:l[j+1]≠l[j]:=by
   intro e;have:=(List.getElem_inj hS.nodup).1 e;omega
  rw [cond_pos (by simp;omega),jL hlt,Int.toNat_natCast,fU hlt,qe (by omega),jL (by omega),Int.toNat_natCast,fU (by omega),cond_neg (by simpa using hne),bl (by omega)];exact ih (j+1+1) (by omega) (by omega) (by omega)
theorem i124 (l:List aS) (hl:l.length≤1073741824) (hS:SS l):f124 l=some (l.length,l):=by
 refine e124 _ ?_;by_cases h:l.length<2
 ·rw [cond_pos (by simp;omega)]
 ·rw [cond_neg (by simp;omega)]
  exact h124 l hl hS _ 1 rfl (by omega) (by omega)
theorem h90 {d:List af} {l:List aS} (hl:l.length≤1048576) (hm:∀x∈l,x∈cK d) (hS:SS l):∀(xs:List aS) (i:Nat),l.drop i=xs→i≤l.length→BR (Bo d) l l.length i (l.take i)=some l:=by
 intro xs
 induction xs with
 |nil=>
  intro i h hi;refine Us _ _ _ _ _ ?_;have hge:=dJ h;rw [List.take_of_length_le hge,aQ h,cond_false,i80 l (by omega),jJ,PN hS,i124 l (by omega) hS,jJ,aU (Nat.le_refl _),List.take_length]
 |cons x xs ih=>
  intro i h hi;refine Us _ _ _ _ _ ?_;have hlt:=bN h;have hx:x∈l:=List.mem_of_getElem? (aZ h);obtain ⟨t,_,_,e⟩:=xR (hm x hx);have hd:l.take (i+1)=l.take i++[x]:=by
   rw [List.take_add_one,aZ h];rfl
  rw [aT h,cond_true,aM h,dK e,cF _ (by simp;omega) (by simp) (by omega),aN h (by omega),←hd];exact ih (i+1) (az h) (by omega)
theorem i90 {d:List af} (z:Sz d) {l:List aS} (hl:l.length≤1048576) (hm:∀x∈l,x∈cK d) (hS:SS l):f90 d l=some l:=by
 have hz:=z.len;refine e90 _ _ ?_;rw [i75 d (by omega),ah];exact h90 hl hm hS l 0 rfl (by omega)
theorem h126 (l:List aS) (s:aS) (up:List aS) (hl:l.length≤1073741824) (hu:up.length≤1073741824):∀(xs:List aS) (i:Nat),l.drop i=xs→Bs l s up l.length i=some (bJ (fun x=> !(x==s)&&decide (x∈up)) xs i):=by
 intro xs
 induction xs with
 |nil=>intro i h;refine P3 _ _ _ _ _ ?_;rw [aQ h];rfl
 |cons x xs ih=>
  intro i h;refine P3 _ _ _ _ _ ?_;have h91:f91 x s up=some (!(x==s)&&decide (x∈up)):=by
   refine e91 _ _ _ ?_;cases hx:x==s with
   |true=>rfl
   |false=>rw [Bool.not_false,cond_true,i92 _ _ hu];rfl
  rw [aT h,cond_true,aM h,h91,ah,aN h hl,ih (i+1) (az h),bJ];cases (!(x==s)&&decide (x∈up))<;>rfl
theorem h46 {d:List af} (z:Sz d) (A:Acc d) {l:List aS} (hl:l.length≤1048576) (hm:∀x∈l,x∈cK d):∀(xs:List aS) (i:Nat) (o:List aS),l.drop i=xs→o.length≤i→
  BO l (Bo d) l l.length i o=some (o++xs.filter (iL d l)):=by
 have hz:=z.len;intro xs
 induction xs with
 |nil=>intro i o h ho;refine T3 _ _ _ _ _ _ ?_;rw [aQ h];simp
 |cons x xs ih=>
  intro i o h ho;refine T3 _ _ _ _ _ _ ?_;have hlt:=bN h;have hx:=hm x (List.mem_of_getElem? (aZ h));obtain ⟨u,hu,_,hU,wV⟩:=i74 (to:=Bo d) (U:=cK d) (nx:=up d) (by simpa using hz) (fun x hx=>Tk A.nd hx) (fun x _=>DR z x) (fun x hx y hy=>(Bb A hx (.step .refl hy)).1) hx;simp only [List.length_map] at wV;have h93:f93 l x u=some (!iL d l x):=by
   refine e93 _ _ _ ?_;have:f126 l x u=_:=e126 _ _ _ (h126 l x u (by omega) (by omega) l 0 rfl);rw [this,ah,Es];refine congrArg some ?_;unfold iL;rw [List.not_all_eq_any_not];refine List.any_congr rfl ?_|>fun h=>h
   intro y;have e1:decide (y∈u)=(open Classical in decide (Le d y x)):=by rw [decide_eq_decide,hU,vQ A hx]
   rw [e1];have e2:(y==x)=decide (y=x):=by rw [Bool.eq_iff_iff];simp
   rw [e2];cases decide (y=x)<;>simp
  rw [aT h,cond_true,aM h,hu,ah,h93,ah,aN h (by omega),List.filter_cons];cases hf:iL d l x with
  |true=>
   rw [Bool.not_true,Bool.not_false,cond_true,cF _ (by omega) (by simp) (by omega),ih (i+1) (o++[x]) (az h) (by simp;omega)];simp
  |false=>rw [Bool.not_false,Bool.not_true,cond_false,ih (i+1) o (az h) (by omega)];simp
theorem i46 {d:List af} (z:Sz d) (A:Acc d) {l:List aS} (hl:l.length≤1048576) (hm:∀x∈l,x∈cK d) (hS:SS l):f46 d l=some (mw d l):=by
 have hz:=z.len;refine e46 _ _ ?_;rw [i90 z hl hm hS,ah,i75 d (by omega),ah];have h0:=h46 z A hl hm l 0 [] rfl (by simp);rw [show ((0:Nat):Int)=0 from rfl] at h0;rw [h0];have hf:l.filter (fun s=>decide (s∈cK d))=l:=List.filter_eq_self.2 fun x hx=>by simpa using hm x hx
 have hs:eU l=l:=SS.ext (cU l) hS fun y=>cO
 simp only [mw,hf,hs,List.nil_append]
end Go.Proofs.YtmidjldjkbljjaaGreatDoor.cl
set_option linter.unusedVariables false
set_option linter.unusedSimpArgs false
set_option linter.unusedSectionVars false
namespace Go.Proofs.YtmidjldjkbljjaaGreatDoor.cl
open Go Go.AM
theorem h83b {l:List Nat} (hl:l.length≤1048576) (h64:∀j∈l,j<64):∀(xs:List Nat) (i w:Nat),l.drop i=xs→w<18446744073709551616→uN (cast l) (cast l).length i [(w:Int)]=some (e1 (mk w xs),0):=by
 intro xs
 induction xs with
 |nil=>
  intro i w h hw;refine JW _ _ _ _ ?_;have hn:norm [(w:Int)]=e1 w:=by
   have:=AW (f:=fun _=>(w:Int)) (n:=1) (w:=w) (by omega) (fun _=>rfl) (fun h=>by cases h);simpa [tab] using this
  rw [aQ (uZ h),cond_false,c68 _ (by simp),hn];rfl
 |cons x xs ih=>
  intro i w h hw;refine JW _ _ _ _ ?_;have hx:x<64:=h64 x (List.mem_of_getElem? (aZ h));have Sl:IntKind.wrap .i64 (Int.tdiv (x:Int) 64)=0:=by rw [KZ hx];rfl
  have e3:min x (IntKind.bits .u64)=x:=by
   show min x 64=x;omega
  have e4:IntKind.wrap .u64 (1 *2^ x)=((2^ x:Nat):Int):=by
   have hp:=nG hx;have:(1 *2^ x:Int)=((2^ x:Nat):Int):=by simp
   rw [this,jW hp]
  have e5:IntKind.wrap .u64 ((BitVec.ofInt (IntKind.bits .u64) (w:Int)|||BitVec.ofInt (IntKind.bits .u64) ((2^ x:Nat):Int)).toNat:Int)=((w|||2^ x:Nat):Int):=HB hw (nG hx);simp only [aM (fC h),aT (fC h),cond_true,Sl,K0 hx,e3,e4,Int.toNat_zero,Int.toNat_natCast,aN (fC h) (by simp;omega)];rw [aU (by decide),aU (by simp),gp (x:=(w:Int)) (by simp),aU (by decide),aU (by omega),aU (by simp),gp (x:=(w:Int)) (by simp),e5];exact ih (i+1) _ (az h) (Mh hw (nG hx))
theorem h83a {l:List Nat} (hl:l.length≤1048576) (h64:∀j∈l,j<64):∀(xs:List Nat) (i:Nat) (m:Int),l.drop i=xs→(m= -1∧i=0∨0≤m∧m<64∧0<i∧i≤l.length)→Ir (cast l) m (cast l) (cast l).length i=some (e1 (mk 0 l),0):=by
 intro xs
 induction xs with
 |nil=>
  intro i m h hm;refine Uq _ _ _ _ _ ?_;have hge:=dJ h;rw [aQ (uZ h),cond_false,aU (by decide)];rcases hm with ⟨rfl,rfl⟩|⟨h0,h1,h2,h3⟩
  ·have hl0:l=[]:=List.length_eq_zero_iff.1 (by omega)
   subst hl0;rw [aU (by decide)];have hq:uN (cast []) ((cast []).length:Int) 0 (List.replicate (Int.toNat (IntKind.wrap .i64 (Int.tdiv (IntKind.wrap .i64 (-1+64)) 64))) 0)=some (e1 (mk 0 []),0):=by
    refine JW _ _ _ _ ?_;have hr:(List.replicate (Int.toNat (IntKind.wrap .i64 (Int.tdiv (IntKind.wrap .i64 (-1+64)) 64))) (0:Int))=[]:=by decide
    rw [hr,cond_neg (by decide),c68 _ (by simp)];rfl
   exact hq
  ·have Sl:IntKind.wrap .i64 (Int.tdiv (IntKind.wrap .i64 (m+64)) 64)=1:=by
    have e2:IntKind.wrap .i64 (m+64)=m+64:=fF (by omega) (by omega);have e3:Int.tdiv (m+64) 64=1:=by
     rw [Int.tdiv_eq_ediv_of_nonneg (by omega)];omega
    rw [e2,e3];rfl
   rw [Sl,aU (by decide)];exact h83b hl h64 l 0 0 rfl (by omega)
 |cons x xs ih=>
  intro i m h hm;refine Uq _ _ _ _ _ ?_;have hlt:=bN h;have hx:x<64:=h64 x (List.mem_of_getElem? (aZ h));rw [aT (fC h),cond_true,aM (fC h),cond_neg (by simp),cond_neg (by simp;omega),aN (fC h) (by simp;omega)];refine ih (i+1) _ (az h) (.inr ?_);split
  ·exact ⟨by omega,by omega,by omega,by omega⟩
  ·rcases hm with ⟨rfl,rfl⟩|⟨h0,h1,h2,h3⟩
   ·rename_i hc;omega
   ·exact ⟨h0,h1,by omega,by omega⟩
theorem i83 {l:List Nat} (hl:l.length≤1048576) (h64:∀j∈l,j<64):f83 (cast l)=some (e1 (mk 0 l),0):=e83 _ (h83a hl h64 l 0 (-1) rfl (.inl ⟨rfl,rfl⟩))
theorem Tt {l:List aS} (h:SS l) {i j:Nat} (hi:i<l.length) (hj:j<l.length):Op.bytesLess l[i] l[j]=decide (i<j):=by
 have hp:=List.pairwise_iff_getElem.1 h;by_cases h1:i<j
 ·rw [hp i j hi hj h1];simp [h1]
 ·by_cases h2:i=j
  ·subst h2;rw [wL];simp
  ·have:=hp j i hj hi (by omega)
   rw [jr this];simp [h1]
theorem i120 (a b:aS):f120 a b=some (Op.bytesLess a b):=by
 refine e120 _ _ ?_;have h97:f97 a=some false:=e97 _ (by simp);rw [h97,ah];rfl
theorem half {i j:Nat} (h:i+j≤2097152):IntKind.wrap .i64 (Int.fdiv (IntKind.wrap .u64 (IntKind.wrap .i64 ((i:Int)+(j:Int)))) (2^ min (Int.toNat 1) (IntKind.bits .u64)))=(((i+j) / 2:Nat):Int):=by
 have e1:IntKind.wrap .i64 ((i:Int)+(j:Int))=((i+j:Nat):Int):=by rw [fF (by omega) (by omega)];omega
 have e2:IntKind.wrap .u64 ((i+j:Nat):Int)=((i+j:Nat):Int):=jW (by omega);have e3:(2^ min (Int.toNat 1) (IntKind.bits .u64):Int)=2:=by rfl
 rw [e1,e2,e3,Int.fdiv_eq_ediv_of_nonneg _ (by omega)];rw [fF (by omega) (by omega)];omega
theorem h82 {l:List aS} (hS:SS l) (hl:l.length≤1048576) {k:Nat} (hk:k<l.length):∀(n i j:Nat),j-i=n→i≤k→k≤j→j≤l.length→DN l l[k] l.length i j=some ((k:Int),true):=by
 intro n
 induction n using Nat.strongRecOn with
 |_ n ih=>
  intro i j hn hik hkj hj;refine YP _ _ _ _ _ ?_;by_cases hij:i<j
  ·have hh:(i+j) / 2<l.length:=by omega
   rw [cond_pos (by simp;omega),aU (by decide),half (by omega),cu hh,i120,ah,Tt hS hh hk];by_cases hlt:(i+j) / 2<k
   ·rw [cond_pos (by simpa using hlt),bl (by omega)]
    exact ih (j-((i+j) / 2+1)) (by omega) _ j rfl (by omega) hkj hj
   ·rw [cond_neg (by simpa using hlt)]
    exact ih ((i+j) / 2-i) (by omega) i _ rfl hik (by omega) (by omega)
  ·obtain rfl:i=k:=by omega
   rw [cond_neg (by simp;omega),cond_pos (by simp;omega),cu hk,cond_pos (by simp)]
theorem i82 {l:List aS} (hS:SS l) (hl:l.length≤1048576) {k:Nat} (hk:k<l.length):f82 l l[k]=some ((k:Int),true):=e82 _ _ (h82 hS hl hk _ 0 l.length rfl (by omega) (by omega) (Nat.le_refl _))
theorem h40c {d:List af} (z:Sz d) (h64:(cI d).length≤64) {i:Nat} (hi:i<(cI d).length) {x:aS} {low:List aS} (hlow:low.length≤d.length) (hL:∀y,y∈low↔Le d x y) (hx:x∈cK d) {codes:List W} (hc:codes.length=(cI d).length) {r:List aS×List (List Int)}
  (hr:uM d (cI d).length (i+1:Nat) (cI d) (codes.set i (e1 (cw d (cI d) x)))=some r):∀(xs:List aS) (k:Nat) (o:List Nat),low.drop k=xs→k≤low.length→o.length≤k→(∀j,j∈o↔∃h:j<(cI d).length,(cI d)[j]∈low.take k)→
  yd d i (cI d).length i low low.length k (cI d) (cast o) codes=some r:=by
 have hz:=z.len;intro xs
 induction xs with
 |nil=>
  intro k o h WN ho hm;refine QM _ _ _ _ _ _ _ _ _ _ ?_;have hge:=dJ h;rw [List.take_of_length_le hge] at hm;have h64':∀j∈o,j<64:=fun j hj=>by obtain ⟨h1,_⟩:=(hm j).1 hj;omega
  have ew:mk 0 o=cw d (cI d) x:=by
   apply Nat.eq_of_testBit_eq;intro j;rw [Ro,Nat.zero_testBit,Bool.false_or,Bool.eq_iff_iff,decide_eq_true_iff,hm,oJ];constructor
   ·rintro ⟨h1,h2⟩
    refine ⟨h1,?_⟩;rw [List.getD_eq_getElem?_getD,List.getElem?_eq_getElem h1];exact (hL _).1 h2
   ·rintro ⟨h1,h2⟩
    refine ⟨h1,?_⟩;rw [List.getD_eq_getElem?_getD,List.getElem?_eq_getElem h1] at h2;exact (hL _).2 h2
  have hol:o.length≤1048576:=by omega
  rw [aQ h,cond_false,i83 hol h64',ah,ah,aU (by simp;omega),Int.toNat_natCast,fU (by omega),bl (by omega),ew];exact hr
 |cons y xs ih=>
  intro k o h WN ho hm;refine QM _ _ _ _ _ _ _ _ _ _ ?_;have hlt:=bN h;have hy:y∈low:=List.mem_of_getElem? (aZ h);have hyn:y∈cI d:=cO.2 (Le.cK hx ((hL y).1 hy));obtain ⟨j,hj,e⟩:=List.mem_iff_getElem.1 hyn;have hd:low.take (k+1)=low.take k++[y]:=by
   rw [List.take_add_one,aZ h];rfl
  have hal:=eN (d:=d);have hb:=i82 (l:=cI d) (cU (cK d)) (by omega) hj;rw [e] at hb;rw [aT h,cond_true,aM h,hb,ah,cF _ (by simp;omega) (by simp) (by omega),aN h (by omega)]
  have:=ih (k+1) (o++[j]) (az h) (by omega) (by simp;omega) (fun i'=>by
   rw [List.mem_append,List.mem_singleton,hm,hd];constructor
   ·rintro (⟨h1,h2⟩|rfl)
    ·exact ⟨h1,List.mem_append_left _ h2⟩
    ·exact ⟨hj,List.mem_append_right _ (by rw [e];simp)⟩
   ·rintro ⟨h1,h2⟩
    rcases List.mem_append.1 h2 with h2|h2
    ·exact .inl ⟨h1,h2⟩
    ·right
     simp only [List.mem_singleton] at h2;have:(cI d)[i']=(cI d)[j]:=by rw [h2,e]
     exact (List.getElem_inj (cU (cK d)).nodup).1 this)
  rw [show cast (o++[j])=cast o++[(j:Int)] from List.map_append] at this;exact this
theorem NP {α:Type} {f:aS→α} {z:α} {l:List aS} {i:Nat} (hi:i<l.length):(((l.take i).map f)++List.replicate (l.length-i) z).set i (f l[i])=((l.take (i+1)).map f)++List.replicate (l.length-(i+1)) z:=by
 rw [List.set_append_right _ _ (by simp;omega)];have e:i-((l.take i).map f).length=0:=by simp;omega
 rw [e,show l.length-i=(l.length-(i+1))+1 by omega,List.replicate_succ,List.set_cons_zero];have e2:l.take (i+1)=l.take i++[l[i]]:=by
  rw [List.take_add_one,List.getElem?_eq_getElem hi];rfl
 rw [e2,List.map_append,List.append_assoc];rfl
theorem h40b {d:List af} (z:Sz d) (C1:∀t∈d,t.aB.Nodup) (h64:(cI d).length≤64):∀(n i:Nat),(cI d).length-i=n→i≤(cI d).length→
  uM d (cI d).length i (cI d) ((((cI d).take i).map fun x=>e1 (cw d (cI d) x))++List.replicate ((cI d).length-i) ([]:W))=some (cI d,(fq d).map e1):=by
 have hz:=z.len;intro n
 induction n with
 |zero=>
  intro i hn hi;obtain rfl:i=(cI d).length:=by omega
  refine QL _ _ _ _ _ ?_;rw [cond_neg (by simp),List.take_length,Nat.sub_self];simp [fq,Function.comp_def]
 |succ n ih=>
  intro i hn hi;refine QL _ _ _ _ _ ?_;have hlt:i<(cI d).length:=by omega
  have hx:(cI d)[i]∈cK d:=cO.1 (List.getElem_mem hlt);obtain ⟨low,r1,r2,r3,r4⟩:=i81 z C1 hx;have hih:=ih (i+1) (by omega) (by omega);rw [←NP (f:=fun x=>e1 (cw d (cI d) x)) (z:=([]:W)) hlt] at hih;rw [cond_pos (by simp;omega),jL hlt,Int.toNat_natCast,fU hlt,r1,ah];exact h40c z h64 hlt r4 r3 hx (by simp;omega) hih low 0 [] rfl (by omega) (by simp) (fun j=>by simp)
theorem h40a {d:List af} (z:Sz d) (uP:(cK d).Nodup) (C1:∀t∈d,t.aB.Nodup) (h64:d.length≤64):∀(xs:List af) (i:Nat),d.drop i=xs→i≤d.length→DG d d d.length i (cK (d.take i))=some (cI d,(fq d).map e1):=by
 have hz:=z.len;have hal:=eN (d:=d);intro xs
 induction xs with
 |nil=>
  intro i h hi;refine TY _ _ _ _ _ ?_;have hge:=dJ h;rw [List.take_of_length_le hge,aQ h,cond_false,i80 _ (by simp;omega),jJ,G4 uP];have hal':(eU (cK d)).length≤d.length:=hal;rw [aU (by omega)];have:=h40b z C1 (by omega) _ 0 rfl (by omega);simpa using this
 |cons x xs ih=>
  intro i h hi;refine TY _ _ _ _ _ ?_;have hlt:=bN h;have hd:d.take (i+1)=d.take i++[x]:=by
   rw [List.take_add_one,aZ h];rfl
  have:=ih (i+1) (az h) (by omega);rw [hd,show cK (d.take i++[x])=cK (d.take i)++[x.Name] from List.map_append] at this;rw [aT h,cond_true,aM h,cF _ (by simp;omega) (by simp) (by omega),aN h (by omega)];exact this
theorem i40 {d:List af} (z:Sz d) (uP:(cK d).Nodup) (C1:∀t∈d,t.aB.Nodup) (h64:d.length≤64):f40 d=some (cI d,(fq d).map e1):=e40 _ (h40a z uP C1 h64 d 0 rfl (by omega))
def FY (w j:Nat):Int:=((w / 2^ (8 *j) % 256:Nat):Int)
def um (w:Nat):aS:=if w=0 then [] else (List.range 8).map fun j=>UInt8.ofNat (w / 2^ (8 *j) % 256)
theorem F1 (l:List Int):bytesOf (l.map (aD .u8))=some (l.map fun n=>UInt8.ofNat n.toNat):=by
 induction l with
 |nil=>rfl
 |cons x l ih=>simp only [List.map_cons,aD,bytesOf] at ih⊢;rw [ih];rfl
theorem CO {R:Type} (l:List Int) (k:List UInt8→Option R):z7 l k=k (l.map fun n=>UInt8.ofNat n.toNat):=by
 unfold z7 rF;rw [F1]
theorem h85b {w:Nat} (hw:w<18446744073709551616):∀(n j:Nat),8-j=n→j≤8→∀r,It [(w:Int)] 1 1 ((List.range 8).map (FY w))=some r→Iu w ((8 *j:Nat):Int) [(w:Int)] 1 0 ((List.range j).map (FY w))=some r:=by
 intro n
 induction n with
 |zero=>
  intro j hn hj r hr;obtain rfl:j=8:=by omega
  refine Ur _ _ _ _ _ _ ?_;rw [cond_neg (by decide)];exact hr
 |succ n ih=>
  intro j hn hj r hr;refine Ur _ _ _ _ _ _ ?_;have e1:min (8 *j) (IntKind.bits .u64)=8 *j:=by
   show min (8 *j) 64=8 *j;omega
  have e2:Int.fdiv (w:Int) (2^ (8 *j))=((w / 2^ (8 *j):Nat):Int):=by
   rw [show (2^ (8 *j):Int)=((2^ (8 *j):Nat):Int) by simp,Int.fdiv_eq_ediv_of_nonneg _ (Int.natCast_nonneg _)];simp
  have e3:IntKind.wrap .u8 ((w / 2^ (8 *j):Nat):Int)=FY w j:=by
   rw [N3];unfold FY;simp
  have e4:IntKind.wrap .i64 (((8 *j:Nat):Int)+8)=((8 *(j+1):Nat):Int):=by
   rw [fF (by omega) (by omega)];omega
  rw [cond_pos (by simp;omega),aU (by omega),Int.toNat_natCast,e1,e2,e3,e4,cF _ (by simp;omega) (by simp) (by omega)];have:=ih (j+1) (by omega) (by omega) r hr;rw [List.range_succ,List.map_append] at this;exact this
theorem i85 {w:Nat} (hw:w<18446744073709551616):f85 (e1 w)=some (um w):=by
 refine e85 _ ?_;by_cases h0:w=0
 ·subst h0
  rw [show e1 0=[] from rfl,aU (by decide)];refine QX _ _ _ _ ?_;rw [cond_neg (by decide),CO];rfl
 ·have hl:e1 w=[(w:Int)]:=by simp [e1,h0]
  rw [hl,aU (by rw [show ([(w:Int)].length:Int)=1 from rfl];decide)];refine QX _ _ _ _ ?_;rw [cond_pos (by simp),show (0:Int)=((0:Nat):Int) from rfl,fI (x:=(w:Int)) (by simp)]
  have h:=h85b hw _ 0 rfl (by omega) (um w) (by
   refine QX _ _ _ _ ?_;rw [cond_neg (by decide),CO];unfold um FY;rw [if_neg h0,List.map_map]
   simp only [Function.comp_def,Int.toNat_natCast])
  exact h
theorem QZ {w v:Nat} (hw:w<18446744073709551616) (hv:v<18446744073709551616) (h:um w=um v):w=v:=by
 unfold um at h;split at h
 ·split at h
  ·omega
  ·simp at h
 ·split at h
  ·simp at h
  ·have hb:∀j,j<8→w / 2^ (8 *j) % 256=v / 2^ (8 *j) % 256:=by
    intro j hj;have:=congrArg (fun l=>l[j]?) h;simp only [List.getElem?_map,List.getElem?_range hj,Option.map_some,Option.some.injEq] at this;have h2:=congrArg UInt8.toNat this;simp only [UInt8.toNat_ofNat'] at h2;omega
   have b0:=hb 0 (by omega);have b1:=hb 1 (by omega);have b2:=hb 2 (by omega);have b3:=hb 3 (by omega);have b4:=hb 4 (by omega);have b5:=hb 5 (by omega);have b6:=hb 6 (by omega);have b7:=hb 7 (by omega);simp only [Nat.reduceMul,Nat.reducePow,Nat.mul_zero,Nat.pow_zero,Nat.div_one] at b0 b1 b2 b3 b4 b5 b6 b7;omega
noncomputable def jF (l:List Nat):List (aS×Bool):=l.foldl (fun m w=>dP m (um w) true) []
theorem Ay (l:List Nat) (w:Nat):jF (l++[w])=dP (jF l) (um w) true:=by simp [jF]
theorem vg (l:List Nat) (x:aS):getM (jF l) x=if x∈l.map um then some true else none:=by
 have key:∀(l:List Nat) (m:List (aS×Bool)) (s:List aS),(∀x,getM m x=if x∈s then some true else none)→∀x,getM (l.foldl (fun m w=>dP m (um w) true) m) x=if x∈s++l.map um then some true else none:=by
  intro l
  induction l with
  |nil=>intro m s h x;simpa using h x
  |cons y l ih=>
   intro m s h x
   rw [List.foldl_cons,ih _ (s++[um y]) (fun z=>by
    rw [gm,h]
    by_cases e:z=um y<;>simp [e])]
   simp
 have:=key l [] [] (fun x=>by rw [eS];simp) x;simpa [jF] using this
theorem i84 {l:List Nat} (hl:l.length≤1048576) (hlt:∀c∈l,c<18446744073709551616) {w:Nat} (hw:w<18446744073709551616):f84 (e1 w) (jF l) (l.map e1)=some ((),jF (lN l w),(lN l w).map e1):=by
 refine e84 _ _ _ ?_;by_cases h0:w=0
 ·subst h0
  rw [cond_neg (by decide)];have:lN l 0=l:=by simp [lN]
  rw [this]
 ·have hl1:(e1 w).length=1:=by unfold e1;rw [if_neg h0];rfl
  rw [cond_pos (by rw [hl1];decide),i85 hw,ah];by_cases hm:w∈l
  ·have:lN l w=l:=if_pos (.inr hm)
   rw [dK (v:=true) (by rw [vg,if_pos (List.mem_map_of_mem hm)]),this];rfl
  ·have hk:um w∉l.map um:=by
    intro hc;obtain ⟨v,hv,e⟩:=List.mem_map.1 hc;exact hm (QZ (hlt v hv) hw e▸hv)
   have:lN l w=l++[w]:=if_neg (by simp only [not_or];exact ⟨h0,hm⟩);rw [gI (by rw [vg,if_neg hk]),ah,iw,cF _ (by simp;omega) (by simp) (by omega),this,Ay,List.map_append];rfl
theorem Jo {i n k:Nat} {l:List Nat} (h:256<l.length):gj i n k l=l:=by
 cases n with
 |zero=>rfl
 |succ n=>unfold gj;rw [if_neg (by omega)]
theorem Gr {n i:Nat} {l:List Nat} (h:256<l.length):fu n i l=l:=by
 cases n with
 |zero=>rfl
 |succ n=>unfold fu;rw [if_neg (by omega)]
theorem h41c {i:Nat}:∀(n k:Nat) (l:List Nat),i-k=n→k≤i→i<l.length→l.length≤256→(∀c∈l,c<18446744073709551616)→∀r,
  ((gj i n k l).length≤256→yf (i+1:Nat) (jF (gj i n k l)) ((gj i n k l).map e1)=some r)→(¬(gj i n k l).length≤256→r=([],false))→FJ i k (jF l) (l.map e1)=some r:=by
 intro n
 induction n with
 |zero=>
  intro k l hn hk hi hlen hlt r h1 h2;refine QO _ _ _ _ ?_;rw [cond_neg (by simp;omega),bl (by omega)];exact h1 hlen
 |succ n ih=>
  intro k l hn hk hi hlen hlt r h1 h2;refine QO _ _ _ _ ?_;have hik:=vf hlt hi;have hkk:=vf hlt (show k<l.length by omega);have hand:l.getD i 0&&&l.getD k 0<18446744073709551616:=Nat.lt_of_le_of_lt Nat.and_le_left hik;unfold gj at h1 h2;rw [if_pos hlen] at h1 h2;rw [cond_pos (by simp;omega),aU (by simp;omega),Int.toNat_natCast,gp (getD_map hi),aU (by simp;omega),Int.toNat_natCast,gp (getD_map (by omega)),Hv hik hkk,ah,i84 (by omega) hlt hand,z1];obtain ⟨e,he,hle⟩:=uR l (l.getD i 0&&&l.getD k 0);by_cases h256:(lN l (l.getD i 0&&&l.getD k 0)).length≤256
  ·rw [cond_neg (by rw [List.length_map];exact decide_eq_false (by omega)),bl (by omega)]
   exact ih (k+1) _ (by omega) (by omega) (by rw [he];simp;omega) h256 (DX hlt hand) r h1 h2
  ·rw [cond_pos (by rw [List.length_map];exact decide_eq_true (by omega)),h2 (by rw [Jo (by omega)];exact h256)]
theorem h41b:∀(n i:Nat) (l:List Nat),258≤i+n→l.length≤256→(∀c∈l,c<18446744073709551616)→yf i (jF l) (l.map e1)=some (if (fu n i l).length≤256 then ((fu n i l).map e1,true) else ([],false)):=by
 intro n
 induction n with
 |zero=>
  intro i l hn hlen hlt;refine QN _ _ _ ?_;rw [cond_neg (by simp;omega)];show _=some (if l.length≤256 then (l.map e1,true) else ([],false));rw [if_pos hlen];simp;omega
 |succ n ih=>
  intro i l hn hlen hlt;refine QN _ _ _ ?_;have hf:fu (n+1) i l=if i<l.length∧l.length≤256 then fu n (i+1) (gj i i 0 l) else l:=rfl
  by_cases hi:i<l.length
  ·rw [if_pos (⟨hi,hlen⟩:i<l.length∧l.length≤256)] at hf
   rw [hf,cond_pos (by simp;omega)];refine h41c i 0 l rfl (by omega) hi hlen hlt _ (fun h=> ?_) (fun h=> ?_)
   ·exact ih (i+1) _ (by omega) h (Gp i i 0 l hlt)
   ·rw [Gr (by omega),if_neg h]
  ·rw [if_neg (fun h:i<l.length∧l.length≤256=>hi h.1)] at hf
   rw [hf,cond_neg (by simp;omega),if_pos hlen];simp;omega
theorem h41a {cs:List Nat} (hlt:∀c∈cs,c<18446744073709551616) (hnd:cs.Nodup) (hnz:∀c∈cs,c≠0) (hlen:cs.length≤256):∀(xs:List Nat) (i:Nat),cs.drop i=xs→i≤cs.length→∀r,yf 0 (jF cs) (cs.map e1)=some r→H7 (cs.map e1) (cs.map e1).length i (jF (cs.take i)) ((cs.take i).map e1)=some r:=by
 intro xs
 induction xs with
 |nil=>
  intro i h hi r hr;refine TZ _ _ _ _ _ ?_;have hm:(cs.map e1).drop i=[]:=by rw [←List.map_drop,h];rfl
  rw [aQ hm,cond_false,List.take_of_length_le (dJ h)];exact hr
 |cons w xs ih=>
  intro i h hi r hr;refine TZ _ _ _ _ _ ?_;have hlt':=bN h;have hm:(cs.map e1).drop i=e1 w::xs.map e1:=by rw [←List.map_drop,h];rfl
  have hw:w∈cs:=List.mem_of_getElem? (aZ h);have hd:cs.take (i+1)=cs.take i++[w]:=by
   rw [List.take_add_one,aZ h];rfl
  have hnot:w∉cs.take i:=by
   have h1:=List.take_append_drop i cs;rw [h] at h1;rw [←h1,List.nodup_append] at hnd;exact fun hmm=>hnd.2.2 w hmm w (by simp) rfl
  have ha:lN (cs.take i) w=cs.take (i+1):=by
   rw [hd];exact if_neg (by simp only [not_or];exact ⟨hnz w hw,hnot⟩)
  rw [aT hm,cond_true,aM hm,i84 (by simp;omega) (fun c hc=>hlt c (List.mem_of_mem_take hc)) (hlt w hw),z1,ha,aN hm (by simp;omega)];exact ih (i+1) (az h) (by omega) r hr
theorem i41 {cs:List Nat} (hlt:∀c∈cs,c<18446744073709551616) (hnd:cs.Nodup) (hnz:∀c∈cs,c≠0) (hlen:cs.length≤256):f41 (cs.map e1)=some (if (nY cs).length≤256 then ((nY cs).map e1,true) else ([],false)):=by
 refine e41 _ ?_;have:=h41b 258 0 cs (by omega) hlen hlt;exact h41a hlt hnd hnz hlen cs 0 rfl (by omega) _ this
end Go.Proofs.YtmidjldjkbljjaaGreatDoor.cl
