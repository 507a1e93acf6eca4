/- The Closure laws. -/
import Derived.Test.YtmidjldjkbljjaaGreatDoorClC
set_option linter.unusedVariables false
set_option linter.unusedSimpArgs false
set_option linter.unusedSectionVars false
namespace Go.Proofs.YtmidjldjkbljjaaGreatDoor.cl
open Go Go.AM
theorem h112 (t:af) (o:List aT) (ho:o.length≤1073741824) (ht:t.aD.length≤1073741824):∀(xs:List aT) (i:Nat),t.aD.drop i=xs→GC o i t=some (xs.all fun s=>decide (s∈o)):=by
 intro xs
 induction xs with
 |nil=>intro i h;refine RM _ _ _ ?_;rw [aP h];rfl
 |cons x xs ih=>
  intro i h;refine RM _ _ _ ?_;rw [aU h,cond_true,aL h,Qi _ _ ho,ah,aM h ht,ih (i+1) (az h),List.all_cons];by_cases hx:x∈o<;>simp [hx]
theorem Za (t:af) (o:List aT) (ho:o.length≤1073741824) (ht:t.aD.length≤1073741824):f112 t o=some (t.aD.all fun s=>decide (s∈o)):=e112 _ _ (h112 t o ho ht _ 0 rfl)
structure Sz (d:List af):Prop where
 len:d.length≤1048576
 sup:∀t∈d,t.aD.length≤1048576
structure AR (d:List af) (o:List aT):Prop where
 nd:o.Nodup
 sub:∀x∈o,x∈cO d
 pre:∀i x,o[i]? =some x→∃t∈d,t.Name=x∧∀s∈t.aD,s∈o.take i
def YZ (d:List af) (o:List aT) (x:aT):Prop:=∃t∈d,t.Name=x∧x∉o∧∀s∈t.aD,s∈o
theorem AR.len {d:List af} {o:List aT} (h:AR d o):o.length≤d.length:=by
 have:=dF h.nd h.sub;simpa using this
theorem Z0 {d:List af} (z:Sz d) {o:List aT} (ho:o.length≤d.length):∀(xs:List af) (i:Nat) (more:Bool) (next:aT),d.drop i=xs→(more=true→YZ d o next)→
  ∃(sR:Bool) (next':aT),(sR=true→YZ d o next')∧(sR=false→∀t∈xs,t.Name∉o→∃s∈t.aD,s∉o)∧(more=true→sR=true)∧
   ∀r,Aa d sR (if sR=true then o++[next'] else o)=some r→xF d more next i o=some r:=by
 have hl:=z.len;intro xs
 induction xs with
 |nil=>
  intro i more next h hr
  refine ⟨more,next,hr,fun _ t ht=>(by cases ht),fun h=>h,fun r hh=> ?_⟩;refine Nn _ _ _ _ _ ?_;rw [aP h,cond_false];cases more with
  |true=>rw [cond_true,cg _ (by omega) (by simp) (by omega)];rw [if_pos rfl] at hh;exact hh
  |false=>rw [cond_false];rw [if_neg (by simp)] at hh;exact hh
 |cons x xs ih=>
  intro i more next h hr
  have hx:x∈d:=List.mem_of_getElem? (aW h);by_cases h1:x.Name∈o
  ·obtain ⟨m',n',a1,a2,a4,a3⟩:=ih (i+1) more next (az h) hr
   refine ⟨m',n',a1,fun e t ht hn=> ?_,a4,fun r hh=> ?_⟩
   ·rcases List.mem_cons.1 ht with rfl|ht
    ·exact absurd h1 hn
    ·exact a2 e t ht hn
   ·refine Nn _ _ _ _ _ ?_
    rw [aU h,cond_true,aL h,Qi _ _ (by omega),ah,cond_pos (by simpa using h1),aM h (by omega)];exact a3 r hh
  ·by_cases h2:∀s∈x.aD,s∈o
   ·have hrx:YZ d o x.Name:=⟨x,hx,rfl,h1,h2⟩
    have Df:(x.aD.all fun s=>decide (s∈o))=true:=by
     rw [List.all_eq_true];intro s hs;simpa using h2 s hs
    have go:∀nx,YZ d o nx→(more=false→nx=x.Name)→(more=true→nx=if Op.bytesLess x.Name next=true then x.Name else next)→∃(sR:Bool) (next':aT),(sR=true→YZ d o next')∧(sR=false→∀t∈x::xs,t.Name∉o→∃s∈t.aD,s∉o)∧(more=true→sR=true)∧
      ∀r,Aa d sR (if sR=true then o++[next'] else o)=some r→xF d more next i o=some r:=by
     intro nx hn e1 e2;obtain ⟨m',n',a1,a2,a4,a3⟩:=ih (i+1) true nx (az h) (fun _=>hn);refine ⟨m',n',a1,fun e=>(by rw [a4 rfl] at e;cases e),fun _=>a4 rfl,fun r hh=> ?_⟩;have hh:=a3 r hh;refine Nn _ _ _ _ _ ?_;rw [aU h,cond_true,aL h,Qi _ _ (by omega),ah,cond_neg (by simpa using h1),aL h,Za _ _ (by omega) (by have:=z.sup x hx;omega),ah,Df,Bool.not_true,cond_false];cases more with
     |false=>
      rw [Bool.not_false,cond_true,aL h,aM h (by omega)];rw [e1 rfl] at hh;exact hh
     |true=>
      rw [Bool.not_true,cond_false,aL h,aL h,aM h (by omega)];have:=e2 rfl;cases hb:Op.bytesLess x.Name next with
      |true=>rw [hb,if_pos rfl] at this;rw [this] at hh;rw [cond_true];exact hh
      |false=>rw [hb] at this;simp only [Bool.false_eq_true,if_false] at this;rw [this] at hh;rw [cond_false];exact hh
    cases hm:more with
    |false=>rw [hm] at go;exact go x.Name hrx (fun _=>rfl) (fun e=>by cases e)
    |true=>
     rw [hm] at go;refine go _ ?_ (fun e=>by cases e) (fun _=>rfl);split
     ·exact hrx
     ·exact hr hm
   ·obtain ⟨m',n',a1,a2,a4,a3⟩:=ih (i+1) more next (az h) hr
    have Df:(x.aD.all fun s=>decide (s∈o))=false:=by
     apply Classical.byContradiction;intro hc;rw [Bool.not_eq_false,List.all_eq_true] at hc;exact h2 fun s hs=>by simpa using hc s hs
    refine ⟨m',n',a1,fun e t ht hn=> ?_,a4,fun r hh=> ?_⟩
    ·rcases List.mem_cons.1 ht with rfl|ht
     ·apply Classical.byContradiction;intro hc
      exact h2 fun s hs=>Classical.byContradiction fun Eb=>hc ⟨s,hs,Eb⟩
     ·exact a2 e t ht hn
    ·refine Nn _ _ _ _ _ ?_
     rw [aU h,cond_true,aL h,Qi _ _ (by omega),ah,cond_neg (by simpa using h1),aL h,Za _ _ (by omega) (by have:=z.sup x hx;omega),ah,Df,Bool.not_false,cond_true,aM h (by omega)];exact a3 r hh
theorem h73 {d:List af} (z:Sz d):∀(n:Nat) (o:List aT),d.length-o.length=n→AR d o→
  ∃out,AR d out∧(∀t∈d,t.Name∉out→∃s∈t.aD,s∉out)∧Aa d true o=some out:=by
 intro n
 induction n with
 |zero=>
  intro o hn ho;have hlen:=ho.len;obtain ⟨m',n',a1,a2,a4,a3⟩:=Z0 z hlen d 0 false [] rfl (fun e=>by cases e);cases m' with
  |false=>
   refine ⟨o,ho,a2 rfl,?_⟩;refine IC _ _ _ ?_;rw [cond_true];refine a3 _ ?_;refine IC _ _ _ ?_;simp
  |true=>
   obtain ⟨t,ht,e,hno,hs⟩:=a1 rfl
   have:(o++[n']).length≤(cO d).length:=dF (by
    rw [List.nodup_append]
    exact ⟨ho.nd,by simp,fun a ha b hb=>by simp only [List.mem_singleton] at hb;subst hb;exact fun e=>hno (e▸ha)⟩) (fun x hx=>by
     rcases List.mem_append.1 hx with hx|hx
     ·exact ho.sub x hx
     ·simp only [List.mem_singleton] at hx;subst hx;rw [←e];exact List.mem_map_of_mem ht)
   simp at this;omega
 |succ n ih=>
  intro o hn ho;have hlen:=ho.len;obtain ⟨m',n',a1,a2,a4,a3⟩:=Z0 z hlen d 0 false [] rfl (fun e=>by cases e);cases m' with
  |false=>
   refine ⟨o,ho,a2 rfl,?_⟩;refine IC _ _ _ ?_;rw [cond_true];refine a3 _ ?_;refine IC _ _ _ ?_;simp
  |true=>
   obtain ⟨t,ht,e,hno,hs⟩:=a1 rfl;have hT:AR d (o++[n']):=by
    refine ⟨?_,?_,?_⟩
    ·rw [List.nodup_append]
     exact ⟨ho.nd,by simp,fun a ha b hb=>by simp only [List.mem_singleton] at hb;subst hb;exact fun e=>hno (e▸ha)⟩
    ·intro x hx
     rcases List.mem_append.1 hx with hx|hx
     ·exact ho.sub x hx
     ·simp only [List.mem_singleton] at hx;subst hx;rw [←e];exact List.mem_map_of_mem ht
    ·intro i x hx
     by_cases hi:i<o.length
     ·rw [List.getElem?_append_left hi] at hx
      obtain ⟨u,hu,e1,h1⟩:=ho.pre i x hx;exact ⟨u,hu,e1,fun s hs=>by rw [List.take_append_of_le_length (by omega)];exact h1 s hs⟩
     ·have hi2:i=o.length:=by
       apply Classical.byContradiction;intro hc;rw [List.getElem?_eq_none (by simp;omega)] at hx;cases hx
      subst hi2;rw [List.getElem?_append_right (by omega),Nat.sub_self] at hx;simp only [List.getElem?_cons_zero,Option.some.injEq] at hx;subst hx;exact ⟨t,ht,e,fun s hs'=>by rw [List.take_left'];exact hs s hs';rfl⟩
   obtain ⟨out,b1,b2,b3⟩:=ih (o++[n']) (by simp;omega) hT;refine ⟨out,b1,b2,?_⟩;refine IC _ _ _ ?_;rw [cond_true];exact a3 _ b3
theorem c73 {d:List af} (z:Sz d):∃out,AR d out∧(∀t∈d,t.Name∉out→∃s∈t.aD,s∉out)∧f73 d=some out:=by
 obtain ⟨out,h1,h2,h3⟩:=h73 z _ [] rfl ⟨by simp,fun x hx=>(by cases hx),fun i x hx=>(by simp at hx)⟩;exact ⟨out,h1,h2,e73 _ h3⟩
def qK (d:List af):Prop:=∃r:aT→Nat,∀t∈d,∀s∈t.aD,r s<r t.Name
theorem s6 {d:List af} {o:List aT} (hn:(cO d).Nodup) (ho:AR d o) (hf:∀t∈d,t.Name∈o):qK d:=by
 refine ⟨fun x=>o.idxOf x,fun t ht s hs=> ?_⟩;have hm:=hf t ht;have hi:o.idxOf t.Name<o.length:=List.idxOf_lt_length_iff.2 hm;have iW:o[o.idxOf t.Name]? =some t.Name:=by
  rw [List.getElem?_eq_getElem hi,List.getElem_idxOf hi]
 obtain ⟨u,hu,e,hpre⟩:=ho.pre _ _ iW;have hut:u=t:=by
  obtain ⟨i,hi1,rfl⟩:=List.mem_iff_getElem.1 hu;obtain ⟨j,hj1,rfl⟩:=List.mem_iff_getElem.1 ht;have:(cO d)[i]'(by simpa using hi1)=(cO d)[j]'(by simpa using hj1):=by simpa using e
  have:=(List.getElem_inj hn).1 this;subst this;rfl
 subst hut;have:=hpre s hs;rw [List.mem_take_iff_getElem] at this;obtain ⟨k,hk,rfl⟩:=this;show o.idxOf o[k]<_;have h1:o.idxOf o[k]=k:=ho.nd.idxOf_getElem k (by omega);have h2:k<o.idxOf u.Name:=by omega
 rw [h1];exact h2
theorem sK {d:List af} {o:List aT} (Rc:∀t∈d,∀s∈t.aD,s∈cO d) (KG:∀t∈d,t.Name∉o→∃s∈t.aD,s∉o) (hr:qK d):∀t∈d,t.Name∈o:=by
 obtain ⟨r,hr⟩:=hr;have key:∀(n:Nat) (t:af),t∈d→r t.Name=n→t.Name∈o:=by
  intro n
  induction n using Nat.strongRecOn with
  |_ n ih=>
   intro t ht e;apply Classical.byContradiction;intro hc;obtain ⟨s,hs,hso⟩:=KG t ht hc;obtain ⟨u,hu,rfl⟩:=List.mem_map.1 (Rc t ht s hs);have:=hr t ht _ hs;exact hso (ih (r u.Name) (by omega) u hu rfl)
 exact fun t ht=>key _ t ht rfl
def kQ (d:List af):Nat:=(d.filter fun t=>t.aD.length==0).length
open Classical in
noncomputable def tP (d:List af):Int:=
 if uT d=true then 7 else if kD [] d≠0 then kD [] d else if kZ (cO d) d≠0 then kZ (cO d) d else if kQ d≠1 then 1 else if qK d then 0 else 6
theorem h32 {d:List af} (z:Sz d) (h1:kD [] d=0) (h2:kZ (cO d) d=0):∀(xs:List af) (i n:Nat),d.drop i=xs→n≤i→
  Cy d n i=some (open Classical in if n+kQ xs≠1 then 1 else if qK d then 0 else 6):=by
 have hl:=z.len;intro xs
 induction xs with
 |nil=>
  intro i n h hn;refine Sb _ _ _ ?_;obtain ⟨out,b1,b2,b3⟩:=c73 z;have kq:=((nX d []).1 h1).2.1;have Rc:∀t∈d,∀s∈t.aD,s∈cO d:=fun t ht=>((jX _ d).1 h2 t ht).1
  rw [aP h,cond_false];have e0:n+kQ []=n:=rfl;rw [e0];by_cases YM:n=1
  ·rw [cond_neg (by simp;omega),b3,ah,if_neg (by omega)]
   by_cases hr:qK d
   ·have hfull:=sK Rc b2 hr
    have:(cO d).length≤out.length:=dF kq fun x hx=>by
     obtain ⟨t,ht,rfl⟩:=List.mem_map.1 hx;exact hfull t ht
    simp only [List.length_map] at this;rw [cond_neg (by simp;omega),if_pos hr]
   ·have:out.length<d.length:=by
     apply Classical.byContradiction;intro hc;apply hr;refine s6 kq b1 fun t ht=> ?_
     exact BN b1.nd b1.sub (by simp;omega) _ (List.mem_map_of_mem ht)
    rw [cond_pos (by simp;omega),if_neg hr]
  ·rw [cond_pos (by simp;omega),if_pos YM]
 |cons x xs ih=>
  intro i n h hn;refine Sb _ _ _ ?_;have hlt:=bL h;rw [aU h,cond_true,aL h,aM h (by omega),bh (by omega)];by_cases hx:x.aD.length=0
  ·rw [cond_pos (by simpa using hx),ih (i+1) (n+1) (az h) (by omega)]
   have:kQ (x::xs)=kQ xs+1:=by simp [kQ,List.filter_cons,hx]
   rw [this,show n+1+kQ xs=n+(kQ xs+1) by omega]
  ·rw [cond_neg (by simpa using hx),ih (i+1) n (az h) (by omega)]
   have:kQ (x::xs)=kQ xs:=by
    have:(x.aD.length==0)=false:=by simpa using hx
    simp [kQ,List.filter_cons,this]
   rw [this]
theorem c32 {d:List af} (z:Sz d):f32 d=some (tP d):=by
 have hl:=z.len;refine e32 _ ?_;rw [c70,ah,c71 d (by omega),ah,c72 d (by omega) (fun t ht=>by have:=z.sup t ht;omega),ah];unfold tP;by_cases h0:uT d=true
 ·rw [if_pos h0,if_pos h0];rfl
 ·rw [if_neg h0,if_neg h0]
  by_cases h1:kD [] d=0
  ·by_cases h2:kZ (cO d) d=0
   ·have:=h32 z h1 h2 d 0 0 rfl (by omega)
    rw [h1,h2,if_neg (by simp),if_neg (by simp)];simpa using this
   ·rw [if_pos h2,h1,if_neg (by simp)]
    rw [cond_neg (by simp),cond_neg (by simp),cond_pos (by simpa using h2)]
  ·rw [if_pos h1,cond_neg (by simp),cond_pos (by simpa using h1)]
structure Acc (d:List af):Prop where
 nd:(cO d).Nodup
 name:∀t∈d,isName t.Name=true
 dec:∀t∈d,∀s∈t.aD,s∈cO d
 top:kQ d=1
 rk:qK d
theorem qM {d:List af} (h:tP d=0):Acc d:=by
 unfold tP at h;split at h
 ·cases h
 split at h
 ·rename_i h1;exact absurd h h1
 split at h
 ·rename_i h1;exact absurd h h1
 split at h
 ·cases h
 split at h
 ·rename_i h0 h1 h2 h3 h4
  have KA:kD [] d=0:=Classical.byContradiction h1;have Df:kZ (cO d) d=0:=Classical.byContradiction h2;obtain ⟨a1,a2,_⟩:=(nX d []).1 KA;exact ⟨a2,a1,fun t ht=>((jX _ d).1 Df t ht).1,Classical.byContradiction h3,h4⟩
 ·cases h
end Go.Proofs.YtmidjldjkbljjaaGreatDoor.cl
set_option linter.unusedVariables false
set_option linter.unusedSimpArgs false
set_option linter.unusedSectionVars false
namespace Go.Proofs.YtmidjldjkbljjaaGreatDoor.cl
open Go Go.AM
def dn (d:List af) (x:aT):List aT:=(d.filter fun t=>decide (x∈t.aD)).map (·.Name)
def up (d:List af) (x:aT):List aT:=match d.find? (fun t=>t.Name==x) with
 |some t=>t.aD
 |none=>[]
theorem vj {d:List af} {x y:aT}:y∈dn d x↔∃t∈d,t.Name=y∧x∈t.aD:=by
 simp only [dn,List.mem_map,List.mem_filter,decide_eq_true_eq];exact ⟨fun ⟨t,⟨h1,h2⟩,h3⟩=>⟨t,h1,h3,h2⟩,fun ⟨t,h1,h3,h2⟩=>⟨t,⟨h1,h2⟩,h3⟩⟩
theorem sD {d:List af} {x y:aT} (h:y∈dn d x):y∈cO d:=by
 obtain ⟨t,ht,e,_⟩:=vj.1 h;exact e▸List.mem_map_of_mem ht
theorem Wu {d:List af} (hn:(cO d).Nodup) {t u:af} (ht:t∈d) (hu:u∈d) (e:t.Name=u.Name):t=u:=by
 obtain ⟨i,hi1,rfl⟩:=List.mem_iff_getElem.1 ht;obtain ⟨j,hj1,rfl⟩:=List.mem_iff_getElem.1 hu;have:(cO d)[i]'(by simpa using hi1)=(cO d)[j]'(by simpa using hj1):=by simpa using e
 have:=(List.getElem_inj hn).1 this;subst this;rfl
theorem tI {d:List af} (hn:(cO d).Nodup) {t:af} (ht:t∈d):up d t.Name=t.aD:=by
 unfold up;cases e:d.find? (fun u=>u.Name==t.Name) with
 |none=>
  rw [List.find?_eq_none] at e;exact absurd (e t ht) (by simp)
 |some u=>
  have h1:=List.find?_some e;have h2:=List.mem_of_find?_eq_some e;rw [Wu hn h2 ht (by simpa using h1)]
theorem FL {d:List af} (hn:(cO d).Nodup) {x y:aT} (hx:x∈cO d):y∈up d x↔x∈dn d y:=by
 obtain ⟨t,ht,rfl⟩:=List.mem_map.1 hx;rw [tI hn ht,vj];constructor
 ·intro h;exact ⟨t,ht,rfl,h⟩
 ·rintro ⟨u,hu,e,h⟩
  rw [Wu hn hu ht e] at h;exact h
abbrev Le (d:List af) (x y:aT):Prop:=Ae (dn d) x y
theorem Le.cO {d:List af} {x y:aT} (hx:x∈cO d) (h:Le d x y):y∈cO d:=by
 induction h with
 |refl=>exact hx
 |step _ hz _=>exact sD hz
theorem B1 {d:List af} (A:Acc d) {x y:aT} (hx:x∈cO d) (h:Ae (up d) x y):y∈cO d∧Le d y x:=by
 induction h with
 |refl=>exact ⟨hx, .refl⟩
 | @step y z h1 hz ih=>
  obtain ⟨hy,hl⟩:=ih;refine ⟨?_,?_⟩
  ·obtain ⟨t,ht,e⟩:=List.mem_map.1 hy
   subst e;rw [tI A.nd ht] at hz;exact A.dec t ht _ hz
  ·exact Ae.trans (.step .refl ((FL A.nd hy).1 hz)) hl
theorem Ae.head {next:aT→List aT} {x y z:aT} (h1:y∈next x) (h2:Ae next y z):Ae next x z:=Ae.trans (.step .refl h1) h2
theorem TK {d:List af} (A:Acc d) {x y:aT} (h:Le d y x):Ae (up d) x y:=by
 induction h with
 |refl=>exact .refl
 | @step u v h1 hz ih=>exact Ae.head ((FL A.nd (sD hz)).2 hz) ih
theorem wZ {d:List af} (A:Acc d) {x y:aT} (hx:x∈cO d):Ae (up d) x y↔Le d y x:=⟨fun h=>(B1 A hx h).2,TK A⟩
theorem FK {d:List af} {r:aT→Nat} (hr:∀t∈d,∀s∈t.aD,r s<r t.Name) {x y:aT} (h:Le d x y):x=y∨r x<r y:=by
 induction h with
 |refl=>exact .inl rfl
 |step _ hz ih=>
  obtain ⟨t,ht,rfl,hs⟩:=vj.1 hz;have:=hr t ht _ hs;rcases ih with rfl|h
  ·exact .inr this
  ·exact .inr (by omega)
theorem le_antisymm {d:List af} (A:Acc d) {x y:aT} (h1:Le d x y) (h2:Le d y x):x=y:=by
 obtain ⟨r,hr⟩:=A.rk;rcases FK hr h1 with h|h
 ·exact h
 ·rcases FK hr h2 with h'|h'
  ·exact h'.symm
  ·omega
theorem root {d:List af} (A:Acc d):∃t∈cO d,∀y∈cO d,Le d t y:=by
 have Uy:=A.top;unfold kQ at Uy;obtain ⟨t,ht⟩:=List.length_eq_one_iff.1 Uy;have htm:t∈d.filter (fun t=>t.aD.length==0):=by rw [ht];simp
 refine ⟨t.Name,List.mem_map_of_mem (List.mem_filter.1 htm).1,?_⟩;obtain ⟨r,hr⟩:=A.rk;have key:∀(n:Nat) (u:af),u∈d→r u.Name=n→Le d t.Name u.Name:=by
  intro n
  induction n using Nat.strongRecOn with
  |_ n ih=>
   intro u hu e;cases hs:u.aD with
   |nil=>
    have:u∈d.filter (fun t=>t.aD.length==0):=List.mem_filter.2 ⟨hu,by simp [hs]⟩;rw [ht,List.mem_singleton] at this;subst this;exact .refl
   |cons s l=>
    have hsu:s∈u.aD:=by rw [hs];simp
    obtain ⟨v,hv,rfl⟩:=List.mem_map.1 (A.dec u hu s hsu);have:=hr u hu _ hsu;exact .step (ih (r v.Name) (by omega) v hv rfl) (vj.2 ⟨u,hu,rfl,hsu⟩)
 intro y hy;obtain ⟨u,hu,rfl⟩:=List.mem_map.1 hy;exact key _ u hu rfl
theorem h99b {d:List af} (z:Sz d) {i:Nat} {x:aT}:∀(xs:List af) (k:Nat) (o:List aT),d.drop k=xs→o[i]? =some x→o.length+xs.length≤2097152→∀r,
  JI d (i+1:Nat) (dJ o ((xs.filter fun t=>decide (x∈t.aD)).map (·.Name)))=some r→CQ d i k o=some r:=by
 have hl:=z.len;intro xs
 induction xs with
 |nil=>
  intro k o h hx hlen r hr;refine Ws _ _ _ _ ?_;have hi:=(List.getElem?_eq_some_iff.1 hx).1;rw [aP h,cond_false,bh (by omega)];exact hr
 |cons t xs ih=>
  intro k o h hx hlen r hr;refine Ws _ _ _ _ ?_;have hi:=(List.getElem?_eq_some_iff.1 hx).1;have ht:t∈d:=List.mem_of_getElem? (aW h);have hsup:=z.sup t ht;simp only [List.length_cons] at hlen;rw [aU h,cond_true,aL h,nH hi,Int.toNat_natCast,gv hx,Qi _ _ (by omega),ah,aM h (by omega),aL h,Qi _ _ (by omega),ah,aL h];rw [List.filter_cons] at hr;by_cases h1:x∈t.aD
  ·rw [cond_pos (by simpa using h1)]
   rw [if_pos (by simpa using h1),List.map_cons] at hr;by_cases h2:t.Name∈o
   ·rw [cond_neg (by simpa using h2)]
    refine ih (k+1) o (az h) hx (by omega) r ?_;have e:dJ o (t.Name::(List.filter (fun t=>decide (x∈t.aD)) xs).map (·.Name))=dJ o ((List.filter (fun t=>decide (x∈t.aD)) xs).map (·.Name)):=by simp [dJ,h2]
    rw [e] at hr;exact hr
   ·rw [cond_pos (by simpa using h2),cg _ (by omega) (by simp) (by omega)]
    refine ih (k+1) (o++[t.Name]) (az h) (by rw [List.getElem?_append_left hi];exact hx) (by simp;omega) r ?_;have e:dJ o (t.Name::(List.filter (fun t=>decide (x∈t.aD)) xs).map (·.Name))=dJ (o++[t.Name]) ((List.filter (fun t=>decide (x∈t.aD)) xs).map (·.Name)):=by simp [dJ,h2]
    rw [e] at hr;exact hr
  ·rw [cond_neg (by simpa using h1)]
   rw [if_neg (by simpa using h1)] at hr;exact ih (k+1) o (az h) hx (by omega) r hr
theorem h99c (o:List aT) (ho:o.length≤1073741824):∀(xs:List aT) (i:Nat) (out:List aT),o.drop i=xs→out.length≤i→zg out i o=some (xs.foldl (fun o s=>jV s o) out):=by
 intro xs
 induction xs with
 |nil=>intro i out h hi;refine SZ _ _ _ ?_;rw [aP h];rfl
 |cons x xs ih=>
  intro i out h hi;refine SZ _ _ _ ?_;have hlt:=bL h;have:=gH x out;rw [aU h,cond_true,jv h,js h,YH _ _ (by omega),ah,aM h ho,ih (i+1) _ (az h) (by omega)];rfl
theorem c99 {d:List af} (z:Sz d) {x:aT} (hx:x∈cO d):∃l,f99 d x=some l∧SS l∧(∀y,y∈l↔Le d x y)∧l.length≤d.length:=by
 have hl:=z.len;obtain ⟨o,h1,h2,h3,h4⟩:=search (next:=dn d) (U:=cO d) (x0:=x) hx (fun x _ y hy=>sD hy) (R:=R99.T) (outer:=fun i o=>JI d i o) (fin:=fun o=>zg [] 0 o)
  (fun i o ho hi r hr=>by
   refine Wr _ _ _ ?_
   rw [cond_neg (by simp;omega)];exact hr)
  (fun i o y ho hlen hy _ r hr=>by
   have hi:=(List.getElem?_eq_some_iff.1 hy).1;refine Wr _ _ _ ?_;rw [cond_pos (by simp;omega)];simp only [List.length_map] at ho
   exact h99b z d 0 o rfl hy (by omega) r hr)
 simp only [List.length_map] at h3;have hs:zg [] 0 o=some (fo o):=h99c o (by omega) o 0 [] rfl (by simp);refine ⟨fo o,?_,cT o,fun y=>by rw [cL,h2],by have:=jc o;omega⟩;refine e99 _ _ ?_;obtain ⟨j,hj,e,_⟩:=Av hx;rw [Od d _ (by omega),ah,e,cond_neg (by simp)];exact h4 _ hs
theorem Zz {d:List af} (z:Sz d) {i:Nat} {l:List aT} (JT:l.length≤1048576):∀(xs:List aT) (k:Nat) (o:List aT),l.drop k=xs→i<o.length→o.length+xs.length≤2097152→∀r,
  Cp d (i+1:Nat) (dJ o xs)=some r→yV d i l k o=some r:=by
 have hl:=z.len;intro xs
 induction xs with
 |nil=>
  intro k o h hi hlen r hr;refine RT _ _ _ _ _ ?_;rw [aP h,cond_false,bh (by omega)];exact hr
 |cons s xs ih=>
  intro k o h hi hlen r hr;refine RT _ _ _ _ _ ?_;simp only [List.length_cons] at hlen;rw [aU h,cond_true,aL h,Qi _ _ (by omega),ah,aM h (by omega),aL h];by_cases h2:s∈o
  ·rw [cond_neg (by simpa using h2)]
   refine ih (k+1) o (az h) hi (by omega) r ?_;have e:dJ o (s::xs)=dJ o xs:=by simp [dJ,h2]
   rw [e] at hr;exact hr
  ·rw [cond_pos (by simpa using h2),cg _ (by omega) (by simp) (by omega)]
   refine ih (k+1) (o++[s]) (az h) (by simp;omega) (by simp;omega) r ?_;have e:dJ o (s::xs)=dJ (o++[s]) xs:=by simp [dJ,h2]
   rw [e] at hr;exact hr
theorem ZA (o:List aT) (ho:o.length≤1073741824):∀(xs:List aT) (i:Nat) (out:List aT),o.drop i=xs→out.length≤i→uc out i o=some (xs.foldl (fun o s=>jV s o) out):=by
 intro xs
 induction xs with
 |nil=>intro i out h hi;refine M4 _ _ _ ?_;rw [aP h];rfl
 |cons x xs ih=>
  intro i out h hi;refine M4 _ _ _ ?_;have hlt:=bL h;have:=gH x out;rw [aU h,cond_true,jv h,js h,YH _ _ (by omega),ah,aM h ho,ih (i+1) _ (az h) (by omega)];rfl
theorem c138 {d:List af} (z:Sz d) (A:Acc d) {x:aT} (hx:x∈cO d):∃l,f138 d x=some l∧SS l∧(∀y,y∈l↔Le d y x)∧l.length≤d.length:=by
 have hl:=z.len;obtain ⟨o,h1,h2,h3,h4⟩:=search (next:=up d) (U:=cO d) (x0:=x) hx (fun x hx y hy=>(B1 A hx (.step .refl hy)).1) (R:=R138.T) (outer:=fun i o=>Cp d i o) (fin:=fun o=>uc [] 0 o)
  (fun i o ho hi r hr=>by
   refine RS _ _ _ ?_
   rw [cond_neg (by simp;omega)];exact hr)
  (fun i o y ho hlen hy hyU r hr=>by
   have hi:=(List.getElem?_eq_some_iff.1 hy).1;refine RS _ _ _ ?_;obtain ⟨j,hj,e,hn,_⟩:=Av hyU;simp only [List.length_map] at ho;rw [cond_pos (by simp;omega),nH hi,Int.toNat_natCast,gv hy,Od d _ (by omega),ah,e,bG hj];have hsup:=z.sup _ (List.getElem_mem hj);refine Zz z (by omega) d[j].aD 0 o rfl hi (by omega) r ?_;have e2:up d y=d[j].aD:=by rw [←hn];exact tI A.nd (List.getElem_mem hj)
   rw [←e2];exact hr)
 simp only [List.length_map] at h3;have hs:uc [] 0 o=some (fo o):=ZA o (by omega) o 0 [] rfl (by simp);refine ⟨fo o,?_,cT o,fun y=>by rw [cL,h2,wZ A hx],by have:=jc o;omega⟩;refine e138 _ _ ?_;obtain ⟨j,hj,e,_⟩:=Av hx;rw [Od d _ (by omega),ah,e,cond_neg (by simp)];exact h4 _ hs
theorem h137 {d:List af} (z:Sz d) (l:List aT) (JT:l.length≤1048576):∀(xs:List aT) (i:Nat) (out:List aT),l.drop i=xs→out.length≤i→Co d l out i=some ((xs.filter fun s=>decide (s∈cO d)).foldl (fun o s=>jV s o) out):=by
 have hl:=z.len;intro xs
 induction xs with
 |nil=>intro i out h hi;refine RR _ _ _ _ ?_;rw [aP h];rfl
 |cons x xs ih=>
  intro i out h hi;refine RR _ _ _ _ ?_;have hlt:=bL h;have:=gH x out;rw [aU h,cond_true,aL h,Od d _ (by omega),ah,aM h (by omega),aL h,List.filter_cons];by_cases hm:x∈cO d
  ·have hge:fd d x≥0:=by
    apply Classical.byContradiction;intro hc;exact Ft.1 (by omega) hm
   rw [cond_pos (by simpa using hge),YH _ _ (by omega),ah,ih (i+1) _ (az h) (by omega),if_pos (by simpa using hm)];rfl
  ·have hneg:=Ft.2 hm
   rw [cond_neg (by simpa using hneg),ih (i+1) _ (az h) (by omega),if_neg (by simpa using hm)]
theorem c137 {d:List af} (z:Sz d) (l:List aT) (JT:l.length≤1048576):f137 d l=some (fo (l.filter fun s=>decide (s∈cO d))):=e137 _ _ (h137 z l JT l 0 [] rfl (by simp))
open Classical in
noncomputable def gQ (d:List af) (all:List aT) (x:aT):Bool:=all.all fun y=>decide (y=x)|| !decide (Le d y x)
theorem Zv {d:List af} (z:Sz d) {all up:List aT} {i:Nat} {x:aT} (hi:all[i]? =some x) (kq:all.Nodup) (hall:all.length≤1048576) (hup:up.length≤1048576) (hU:∀y,y∈up↔Le d y x) {o:List aT} (ho:o.length≤1048576) {r:List aT}:
  ∀(xs:List aT) (k:Nat) (free:Bool),all.drop k=xs→
  vt d all (i+1:Nat) (if (free&&gQ d xs x)=true then o++[x] else o)=some r→yT d all i up free k o=some r:=by
 intro xs;have hil:=(List.getElem?_eq_some_iff.1 hi).1
 induction xs with
 |nil=>
  intro k free h hr;refine RI _ _ _ _ _ _ _ ?_;rw [aP h,cond_false,bh (by omega)];have e:(free&&gQ d [] x)=free:=by simp [gQ]
  rw [e] at hr;cases free with
  |true=>rw [cond_true,dQ hi,cg _ (by omega) (by simp) (by omega)];rw [if_pos rfl] at hr;exact hr
  |false=>rw [cond_false];rw [if_neg (by simp)] at hr;exact hr
 |cons y xs ih=>
  intro k free h hr;refine RI _ _ _ _ _ _ _ ?_;rw [aU h,cond_true,aM h (by omega),aL h,Qi _ _ (by omega),ah];have e:gQ d (y::xs) x=((decide (y=x)|| !(open Classical in decide (Le d y x)))&&gQ d xs x):=by simp [gQ]
  rw [e] at hr;cases free with
  |false=>
   rw [cond_false];refine ih (k+1) false (az h) ?_;rw [Bool.false_and] at hr⊢;exact hr
  |true=>
   rw [cond_true];by_cases hk:k=i
   ·subst hk
    rw [aW h] at hi;obtain rfl:y=x:=Option.some.inj hi;rw [cond_pos (by simp)];refine ih (k+1) true (az h) ?_;have e1:(decide (y=y)|| !(open Classical in decide (Le d y y)))=true:=by simp
    rw [e1,Bool.true_and] at hr;exact hr
   ·have hne:y≠x:=by
     intro e;subst e;have h1:=aW h;have YK:=bL h;rw [List.getElem?_eq_getElem YK] at h1;rw [List.getElem?_eq_getElem hil] at hi;have:=(List.getElem_inj kq).1 ((Option.some.inj h1).trans (Option.some.inj hi).symm);exact hk this
    rw [cond_neg (by simp;omega)];refine ih (k+1) _ (az h) ?_;have e2:decide (y=x)=false:=by simpa using hne
    have e3:decide (y∈up)=(open Classical in decide (Le d y x)):=by rw [decide_eq_decide];exact hU y
    rw [e2,Bool.false_or,Bool.true_and] at hr;rw [e3];exact hr
theorem h104 {d:List af} (z:Sz d) (A:Acc d) {all:List aT} (kq:all.Nodup) (hall:all.length≤1048576) (hm:∀x∈all,x∈cO d):∀(xs:List aT) (i:Nat) (o:List aT),all.drop i=xs→o.length≤i→
  vt d all i o=some (o++xs.filter (gQ d all)):=by
 have hl:=z.len;intro xs
 induction xs with
 |nil=>intro i o h ho;refine RH _ _ _ _ ?_;rw [aP h];simp
 |cons x xs ih=>
  intro i o h ho;refine RH _ _ _ _ ?_;have hlt:=bL h;obtain ⟨u,hu,_,hU,yb⟩:=c138 z A (hm x (List.mem_of_getElem? (aW h)));rw [aU h,cond_true,aL h,hu,ah];refine Zv z (aW h) kq hall (by omega) hU (by omega) all 0 true rfl ?_;rw [Bool.true_and,List.filter_cons];cases hf:gQ d all x with
  |true=>rw [if_pos rfl,if_pos rfl,ih (i+1) (o++[x]) (az h) (by simp;omega)];simp
  |false=>rw [if_neg (by simp),if_neg (by simp),ih (i+1) o (az h) (by omega)]
noncomputable def kN (d:List af) (l:List aT):List aT:=(fo (l.filter fun s=>decide (s∈cO d))).filter (gQ d (fo (l.filter fun s=>decide (s∈cO d))))
theorem Y8 {d:List af} (z:Sz d) (A:Acc d) (l:List aT) (JT:l.length≤1048576):f104 d l=some (kN d l):=by
 refine e104 _ _ ?_;rw [c137 z l JT,ah];have h1:=jc (l.filter fun s=>decide (s∈cO d));have h2:=List.length_filter_le (fun s=>decide (s∈cO d)) l
 have:=h104 z A (all:=fo (l.filter fun s=>decide (s∈cO d))) (cT _).nodup (by omega) (fun x hx=>by
  have:=cL.1 hx
  simpa using (List.mem_filter.1 this).2) _ 0 [] rfl (by simp)
 exact this
end Go.Proofs.YtmidjldjkbljjaaGreatDoor.cl
