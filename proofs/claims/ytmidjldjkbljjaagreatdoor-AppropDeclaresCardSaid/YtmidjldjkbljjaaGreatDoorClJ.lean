/- The Closure laws. -/
import Derived.Test.YtmidjldjkbljjaaGreatDoorClC
set_option linter.unusedVariables false
set_option linter.unusedSimpArgs false
set_option linter.unusedSectionVars false
namespace Go.Proofs.YtmidjldjkbljjaaGreatDoor.cl
open Go Go.AM
theorem h112 (t:af) (o:List aS) (ho:o.length≤1073741824) (ht:t.aB.length≤1073741824):∀(xs:List aS) (i:Nat),t.aB.drop i=xs→Fy o i t=some (xs.all fun s=>decide (s∈o)):=by
 intro xs
 induction xs with
 |nil=>intro i h;refine PX _ _ _ ?_;rw [aQ h];rfl
 |cons x xs ih=>
  intro i h;refine PX _ _ _ ?_;rw [aT h,cond_true,aM h,OF _ _ ho,ah,aN h ht,ih (i+1) (az h),List.all_cons];by_cases hx:x∈o<;>simp [hx]
theorem Xi (t:af) (o:List aS) (ho:o.length≤1073741824) (ht:t.aB.length≤1073741824):f112 t o=some (t.aB.all fun s=>decide (s∈o)):=e112 _ _ (h112 t o ho ht _ 0 rfl)
structure Sz (d:List af):Prop where
 len:d.length≤1048576
 sup:∀t∈d,t.aB.length≤1048576
structure zT (d:List af) (o:List aS):Prop where
 nd:o.Nodup
 sub:∀x∈o,x∈cK d
 pre:∀i x,o[i]? =some x→∃t∈d,t.Name=x∧∀s∈t.aB,s∈o.take i
def W7 (d:List af) (o:List aS) (x:aS):Prop:=∃t∈d,t.Name=x∧x∉o∧∀s∈t.aB,s∈o
theorem zT.len {d:List af} {o:List aS} (h:zT d o):o.length≤d.length:=by
 have:=dw h.nd h.sub;simpa using this
theorem X9 {d:List af} (z:Sz d) {o:List aS} (ho:o.length≤d.length):∀(xs:List af) (i:Nat) (more:Bool) (next:aS),d.drop i=xs→(more=true→W7 d o next)→
  ∃(iN:Bool) (next':aS),(iN=true→W7 d o next')∧(iN=false→∀t∈xs,t.Name∉o→∃s∈t.aB,s∉o)∧(more=true→iN=true)∧
   ∀r,zb d iN (if iN=true then o++[next'] else o)=some r→wA d more next i o=some r:=by
 have hl:=z.len;intro xs
 induction xs with
 |nil=>
  intro i more next h hr
  refine ⟨more,next,hr,fun _ t ht=>(by cases ht),fun h=>h,fun r hh=> ?_⟩;refine LZ _ _ _ _ _ ?_;rw [aQ h,cond_false];cases more with
  |true=>rw [cond_true,cF _ (by omega) (by simp) (by omega)];rw [if_pos rfl] at hh;exact hh
  |false=>rw [cond_false];rw [if_neg (by simp)] at hh;exact hh
 |cons x xs ih=>
  intro i more next h hr
  have hx:x∈d:=List.mem_of_getElem? (aZ h);by_cases h1:x.Name∈o
  ·obtain ⟨m',n',a1,a2,a4,a3⟩:=ih (i+1) more next (az h) hr
   refine ⟨m',n',a1,fun e t ht hn=> ?_,a4,fun r hh=> ?_⟩
   ·rcases List.mem_cons.1 ht with rfl|ht
    ·exact absurd h1 hn
    ·exact a2 e t ht hn
   ·refine LZ _ _ _ _ _ ?_
    rw [aT h,cond_true,aM h,OF _ _ (by omega),ah,cond_pos (by simpa using h1),aN h (by omega)];exact a3 r hh
  ·by_cases h2:∀s∈x.aB,s∈o
   ·have hrx:W7 d o x.Name:=⟨x,hx,rfl,h1,h2⟩
    have Cf:(x.aB.all fun s=>decide (s∈o))=true:=by
     rw [List.all_eq_true];intro s hs;simpa using h2 s hs
    have go:∀nx,W7 d o nx→(more=false→nx=x.Name)→(more=true→nx=if Op.bytesLess x.Name next=true then x.Name else next)→∃(iN:Bool) (next':aS),(iN=true→W7 d o next')∧(iN=false→∀t∈x::xs,t.Name∉o→∃s∈t.aB,s∉o)∧(more=true→iN=true)∧
      ∀r,zb d iN (if iN=true then o++[next'] else o)=some r→wA d more next i o=some r:=by
     intro nx hn e1 e2;obtain ⟨m',n',a1,a2,a4,a3⟩:=ih (i+1) true nx (az h) (fun _=>hn);refine ⟨m',n',a1,fun e=>(by rw [a4 rfl] at e;cases e),fun _=>a4 rfl,fun r hh=> ?_⟩;have hh:=a3 r hh;refine LZ _ _ _ _ _ ?_;rw [aT h,cond_true,aM h,OF _ _ (by omega),ah,cond_neg (by simpa using h1),aM h,Xi _ _ (by omega) (by have:=z.sup x hx;omega),ah,Cf,Bool.not_true,cond_false];cases more with
     |false=>
      rw [Bool.not_false,cond_true,aM h,aN h (by omega)];rw [e1 rfl] at hh;exact hh
     |true=>
      rw [Bool.not_true,cond_false,aM h,aM h,aN h (by omega)];have:=e2 rfl;cases hb:Op.bytesLess x.Name next with
      |true=>rw [hb,if_pos rfl] at this;rw [this] at hh;rw [cond_true];exact hh
      |false=>rw [hb] at this;simp only [Bool.false_eq_true,if_false] at this;rw [this] at hh;rw [cond_false];exact hh
    cases hm:more with
    |false=>rw [hm] at go;exact go x.Name hrx (fun _=>rfl) (fun e=>by cases e)
    |true=>
     rw [hm] at go;refine go _ ?_ (fun e=>by cases e) (fun _=>rfl);split
     ·exact hrx
     ·exact hr hm
   ·obtain ⟨m',n',a1,a2,a4,a3⟩:=ih (i+1) more next (az h) hr
    have Cf:(x.aB.all fun s=>decide (s∈o))=false:=by
     apply Classical.byContradiction;intro hc;rw [Bool.not_eq_false,List.all_eq_true] at hc;exact h2 fun s hs=>by simpa using hc s hs
    refine ⟨m',n',a1,fun e t ht hn=> ?_,a4,fun r hh=> ?_⟩
    ·rcases List.mem_cons.1 ht with rfl|ht
     ·apply Classical.byContradiction;intro hc
      exact h2 fun s hs=>Classical.byContradiction fun C0=>hc ⟨s,hs,C0⟩
     ·exact a2 e t ht hn
    ·refine LZ _ _ _ _ _ ?_
     rw [aT h,cond_true,aM h,OF _ _ (by omega),ah,cond_neg (by simpa using h1),aM h,Xi _ _ (by omega) (by have:=z.sup x hx;omega),ah,Cf,Bool.not_false,cond_true,aN h (by omega)];exact a3 r hh
theorem h73 {d:List af} (z:Sz d):∀(n:Nat) (o:List aS),d.length-o.length=n→zT d o→
  ∃out,zT d out∧(∀t∈d,t.Name∉out→∃s∈t.aB,s∉out)∧zb d true o=some out:=by
 intro n
 induction n with
 |zero=>
  intro o hn ho;have hlen:=ho.len;obtain ⟨m',n',a1,a2,a4,a3⟩:=X9 z hlen d 0 false [] rfl (fun e=>by cases e);cases m' with
  |false=>
   refine ⟨o,ho,a2 rfl,?_⟩;refine G7 _ _ _ ?_;rw [cond_true];refine a3 _ ?_;refine G7 _ _ _ ?_;simp
  |true=>
   obtain ⟨t,ht,e,hno,hs⟩:=a1 rfl
   have:(o++[n']).length≤(cK d).length:=dw (by
    rw [List.nodup_append]
    exact ⟨ho.nd,by simp,fun a ha b hb=>by simp only [List.mem_singleton] at hb;subst hb;exact fun e=>hno (e▸ha)⟩) (fun x hx=>by
     rcases List.mem_append.1 hx with hx|hx
     ·exact ho.sub x hx
     ·simp only [List.mem_singleton] at hx;subst hx;rw [←e];exact List.mem_map_of_mem ht)
   simp at this;omega
 |succ n ih=>
  intro o hn ho;have hlen:=ho.len;obtain ⟨m',n',a1,a2,a4,a3⟩:=X9 z hlen d 0 false [] rfl (fun e=>by cases e);cases m' with
  |false=>
   refine ⟨o,ho,a2 rfl,?_⟩;refine G7 _ _ _ ?_;rw [cond_true];refine a3 _ ?_;refine G7 _ _ _ ?_;simp
  |true=>
   obtain ⟨t,ht,e,hno,hs⟩:=a1 rfl;have hT:zT d (o++[n']):=by
    refine ⟨?_,?_,?_⟩
    ·rw [List.nodup_append]
     exact ⟨ho.nd,by simp,fun a ha b hb=>by simp only [List.mem_singleton] at hb;subst hb;exact fun e=>hno (e▸ha)⟩
    ·intro x hx
     rcases List.mem_append.1 hx with hx|hx
     ·exact ho.sub x hx
     ·simp only [List.mem_singleton] at hx;subst hx;rw [←e];exact List.mem_map_of_mem ht
    ·intro i x hx
     by_cases hi:i<o.length
     ·rw [List.getElem?_append_left hi] at hx
      obtain ⟨u,hu,e1,h1⟩:=ho.pre i x hx;exact ⟨u,hu,e1,fun s hs=>by rw [List.take_append_of_le_length (by omega)];exact h1 s hs⟩
     ·have hi2:i=o.length:=by
       apply Classical.byContradiction;intro hc;rw [List.getElem?_eq_none (by simp;omega)] at hx;cases hx
      subst hi2;rw [List.getElem?_append_right (by omega),Nat.sub_self] at hx;simp only [List.getElem?_cons_zero,Option.some.injEq] at hx;subst hx;exact ⟨t,ht,e,fun s hs'=>by rw [List.take_left'];exact hs s hs';rfl⟩
   obtain ⟨out,b1,b2,b3⟩:=ih (o++[n']) (by simp;omega) hT;refine ⟨out,b1,b2,?_⟩;refine G7 _ _ _ ?_;rw [cond_true];exact a3 _ b3
theorem c73 {d:List af} (z:Sz d):∃out,zT d out∧(∀t∈d,t.Name∉out→∃s∈t.aB,s∉out)∧f73 d=some out:=by
 obtain ⟨out,h1,h2,h3⟩:=h73 z _ [] rfl ⟨by simp,fun x hx=>(by cases hx),fun i x hx=>(by simp at hx)⟩;exact ⟨out,h1,h2,e73 _ h3⟩
def qh (d:List af):Prop:=∃r:aS→Nat,∀t∈d,∀s∈t.aB,r s<r t.Name
theorem r9 {d:List af} {o:List aS} (hn:(cK d).Nodup) (ho:zT d o) (hf:∀t∈d,t.Name∈o):qh d:=by
 refine ⟨fun x=>o.idxOf x,fun t ht s hs=> ?_⟩;have hm:=hf t ht;have hi:o.idxOf t.Name<o.length:=List.idxOf_lt_length_iff.2 hm;have iU:o[o.idxOf t.Name]? =some t.Name:=by
  rw [List.getElem?_eq_getElem hi,List.getElem_idxOf hi]
 obtain ⟨u,hu,e,hpre⟩:=ho.pre _ _ iU;have hut:u=t:=by
  obtain ⟨i,hi1,rfl⟩:=List.mem_iff_getElem.1 hu;obtain ⟨j,hj1,rfl⟩:=List.mem_iff_getElem.1 ht;have:(cK d)[i]'(by simpa using hi1)=(cK d)[j]'(by simpa using hj1):=by simpa using e
  have:=(List.getElem_inj hn).1 this;subst this;rfl
 subst hut;have:=hpre s hs;rw [List.mem_take_iff_getElem] at this;obtain ⟨k,hk,rfl⟩:=this;show o.idxOf o[k]<_;have h1:o.idxOf o[k]=k:=ho.nd.idxOf_getElem k (by omega);have h2:k<o.idxOf u.Name:=by omega
 rw [h1];exact h2
theorem rP {d:List af} {o:List aS} (Pn:∀t∈d,∀s∈t.aB,s∈cK d) (JB:∀t∈d,t.Name∉o→∃s∈t.aB,s∉o) (hr:qh d):∀t∈d,t.Name∈o:=by
 obtain ⟨r,hr⟩:=hr;have key:∀(n:Nat) (t:af),t∈d→r t.Name=n→t.Name∈o:=by
  intro n
  induction n using Nat.strongRecOn with
  |_ n ih=>
   intro t ht e;apply Classical.byContradiction;intro hc;obtain ⟨s,hs,YC⟩:=JB t ht hc;obtain ⟨u,hu,rfl⟩:=List.mem_map.1 (Pn t ht s hs);have:=hr t ht _ hs;exact YC (ih (r u.Name) (by omega) u hu rfl)
 exact fun t ht=>key _ t ht rfl
def mA (d:List af):Nat:=(d.filter fun t=>t.aB.length==0).length
open Classical in
noncomputable def ql (d:List af):Int:=
 if zh d=true then 7 else if ko [] d≠0 then ko [] d else if kN (cK d) d≠0 then kN (cK d) d else if mA d≠1 then 1 else if qh d then 0 else 6
theorem h32 {d:List af} (z:Sz d) (h1:ko [] d=0) (h2:kN (cK d) d=0):∀(xs:List af) (i n:Nat),d.drop i=xs→n≤i→
  BA d n i=some (open Classical in if n+mA xs≠1 then 1 else if qh d then 0 else 6):=by
 have hl:=z.len;intro xs
 induction xs with
 |nil=>
  intro i n h hn;refine Qo _ _ _ ?_;obtain ⟨out,b1,b2,b3⟩:=c73 z;have hnd:=((uw d []).1 h1).2.1;have Pn:∀t∈d,∀s∈t.aB,s∈cK d:=fun t ht=>((nM _ d).1 h2 t ht).1
  rw [aQ h,cond_false];have e0:n+mA []=n:=rfl;rw [e0];by_cases WQ:n=1
  ·rw [cond_neg (by simp;omega),b3,ah,if_neg (by omega)]
   by_cases hr:qh d
   ·have hfull:=rP Pn b2 hr
    have:(cK d).length≤out.length:=dw hnd fun x hx=>by
     obtain ⟨t,ht,rfl⟩:=List.mem_map.1 hx;exact hfull t ht
    simp only [List.length_map] at this;rw [cond_neg (by simp;omega),if_pos hr]
   ·have:out.length<d.length:=by
     apply Classical.byContradiction;intro hc;apply hr;refine r9 hnd b1 fun t ht=> ?_
     exact AU b1.nd b1.sub (by simp;omega) _ (List.mem_map_of_mem ht)
    rw [cond_pos (by simp;omega),if_neg hr]
  ·rw [cond_pos (by simp;omega),if_pos WQ]
 |cons x xs ih=>
  intro i n h hn;refine Qo _ _ _ ?_;have hlt:=bN h;rw [aT h,cond_true,aM h,aN h (by omega),bl (by omega)];by_cases hx:x.aB.length=0
  ·rw [cond_pos (by simpa using hx),ih (i+1) (n+1) (az h) (by omega)]
   have:mA (x::xs)=mA xs+1:=by simp [mA,List.filter_cons,hx]
   rw [this,show n+1+mA xs=n+(mA xs+1) by omega]
  ·rw [cond_neg (by simpa using hx),ih (i+1) n (az h) (by omega)]
   have:mA (x::xs)=mA xs:=by
    have:(x.aB.length==0)=false:=by simpa using hx
    simp [mA,List.filter_cons,this]
   rw [this]
theorem c32 {d:List af} (z:Sz d):f32 d=some (ql d):=by
 have hl:=z.len;refine e32 _ ?_;rw [c70,ah,c71 d (by omega),ah,c72 d (by omega) (fun t ht=>by have:=z.sup t ht;omega),ah];unfold ql;by_cases h0:zh d=true
 ·rw [if_pos h0,if_pos h0];rfl
 ·rw [if_neg h0,if_neg h0]
  by_cases h1:ko [] d=0
  ·by_cases h2:kN (cK d) d=0
   ·have:=h32 z h1 h2 d 0 0 rfl (by omega)
    rw [h1,h2,if_neg (by simp),if_neg (by simp)];simpa using this
   ·rw [if_pos h2,h1,if_neg (by simp)]
    rw [cond_neg (by simp),cond_neg (by simp),cond_pos (by simpa using h2)]
  ·rw [if_pos h1,cond_neg (by simp),cond_pos (by simpa using h1)]
structure Acc (d:List af):Prop where
 nd:(cK d).Nodup
 name:∀t∈d,isName t.Name=true
 dec:∀t∈d,∀s∈t.aB,s∈cK d
 top:mA d=1
 rk:qh d
theorem tX {d:List af} (h:ql d=0):Acc d:=by
 unfold ql at h;split at h
 ·cases h
 split at h
 ·rename_i h1;exact absurd h h1
 split at h
 ·rename_i h1;exact absurd h h1
 split at h
 ·cases h
 split at h
 ·rename_i h0 h1 h2 h3 h4
  have Jz:ko [] d=0:=Classical.byContradiction h1;have Cf:kN (cK d) d=0:=Classical.byContradiction h2;obtain ⟨a1,a2,_⟩:=(uw d []).1 Jz;exact ⟨a2,a1,fun t ht=>((nM _ d).1 Cf t ht).1,Classical.byContradiction h3,h4⟩
 ·cases h
end Go.Proofs.YtmidjldjkbljjaaGreatDoor.cl
set_option linter.unusedVariables false
set_option linter.unusedSimpArgs false
set_option linter.unusedSectionVars false
namespace Go.Proofs.YtmidjldjkbljjaaGreatDoor.cl
open Go Go.AM
def dn (d:List af) (x:aS):List aS:=(d.filter fun t=>decide (x∈t.aB)).map (·.Name)
def up (d:List af) (x:aS):List aS:=match d.find? (fun t=>t.Name==x) with
 |some t=>t.aB
 |none=>[]
theorem AQ {d:List af} {x y:aS}:y∈dn d x↔∃t∈d,t.Name=y∧x∈t.aB:=by
 simp only [dn,List.mem_map,List.mem_filter,decide_eq_true_eq];exact ⟨fun ⟨t,⟨h1,h2⟩,h3⟩=>⟨t,h1,h3,h2⟩,fun ⟨t,h1,h3,h2⟩=>⟨t,⟨h1,h2⟩,h3⟩⟩
theorem rI {d:List af} {x y:aS} (h:y∈dn d x):y∈cK d:=by
 obtain ⟨t,ht,e,_⟩:=AQ.1 h;exact e▸List.mem_map_of_mem ht
theorem Rs {d:List af} (hn:(cK d).Nodup) {t u:af} (ht:t∈d) (hu:u∈d) (e:t.Name=u.Name):t=u:=by
 obtain ⟨i,hi1,rfl⟩:=List.mem_iff_getElem.1 ht;obtain ⟨j,hj1,rfl⟩:=List.mem_iff_getElem.1 hu;have:(cK d)[i]'(by simpa using hi1)=(cK d)[j]'(by simpa using hj1):=by simpa using e
 have:=(List.getElem_inj hn).1 this;subst this;rfl
theorem sI {d:List af} (hn:(cK d).Nodup) {t:af} (ht:t∈d):up d t.Name=t.aB:=by
 unfold up;cases e:d.find? (fun u=>u.Name==t.Name) with
 |none=>
  rw [List.find?_eq_none] at e;exact absurd (e t ht) (by simp)
 |some u=>
  have h1:=List.find?_some e;have h2:=List.mem_of_find?_eq_some e;rw [Rs hn h2 ht (by simpa using h1)]
theorem EC {d:List af} (hn:(cK d).Nodup) {x y:aS} (hx:x∈cK d):y∈up d x↔x∈dn d y:=by
 obtain ⟨t,ht,rfl⟩:=List.mem_map.1 hx;rw [sI hn ht,AQ];constructor
 ·intro h;exact ⟨t,ht,rfl,h⟩
 ·rintro ⟨u,hu,e,h⟩
  rw [Rs hn hu ht e] at h;exact h
abbrev Le (d:List af) (x y:aS):Prop:=zg (dn d) x y
theorem Le.cK {d:List af} {x y:aS} (hx:x∈cK d) (h:Le d x y):y∈cK d:=by
 induction h with
 |refl=>exact hx
 |step _ hz _=>exact rI hz
theorem Bb {d:List af} (A:Acc d) {x y:aS} (hx:x∈cK d) (h:zg (up d) x y):y∈cK d∧Le d y x:=by
 induction h with
 |refl=>exact ⟨hx, .refl⟩
 | @step y z h1 hz ih=>
  obtain ⟨hy,hl⟩:=ih;refine ⟨?_,?_⟩
  ·obtain ⟨t,ht,e⟩:=List.mem_map.1 hy
   subst e;rw [sI A.nd ht] at hz;exact A.dec t ht _ hz
  ·exact zg.trans (.step .refl ((EC A.nd hy).1 hz)) hl
theorem zg.head {next:aS→List aS} {x y z:aS} (h1:y∈next x) (h2:zg next y z):zg next x z:=zg.trans (.step .refl h1) h2
theorem RQ {d:List af} (A:Acc d) {x y:aS} (h:Le d y x):zg (up d) x y:=by
 induction h with
 |refl=>exact .refl
 | @step u v h1 hz ih=>exact zg.head ((EC A.nd (rI hz)).2 hz) ih
theorem vQ {d:List af} (A:Acc d) {x y:aS} (hx:x∈cK d):zg (up d) x y↔Le d y x:=⟨fun h=>(Bb A hx h).2,RQ A⟩
theorem Ez {d:List af} {r:aS→Nat} (hr:∀t∈d,∀s∈t.aB,r s<r t.Name) {x y:aS} (h:Le d x y):x=y∨r x<r y:=by
 induction h with
 |refl=>exact .inl rfl
 |step _ hz ih=>
  obtain ⟨t,ht,rfl,hs⟩:=AQ.1 hz;have:=hr t ht _ hs;rcases ih with rfl|h
  ·exact .inr this
  ·exact .inr (by omega)
theorem le_antisymm {d:List af} (A:Acc d) {x y:aS} (h1:Le d x y) (h2:Le d y x):x=y:=by
 obtain ⟨r,hr⟩:=A.rk;rcases Ez hr h1 with h|h
 ·exact h
 ·rcases Ez hr h2 with h'|h'
  ·exact h'.symm
  ·omega
theorem root {d:List af} (A:Acc d):∃t∈cK d,∀y∈cK d,Le d t y:=by
 have YE:=A.top;unfold mA at YE;obtain ⟨t,ht⟩:=List.length_eq_one_iff.1 YE;have htm:t∈d.filter (fun t=>t.aB.length==0):=by rw [ht];simp
 refine ⟨t.Name,List.mem_map_of_mem (List.mem_filter.1 htm).1,?_⟩;obtain ⟨r,hr⟩:=A.rk;have key:∀(n:Nat) (u:af),u∈d→r u.Name=n→Le d t.Name u.Name:=by
  intro n
  induction n using Nat.strongRecOn with
  |_ n ih=>
   intro u hu e;cases hs:u.aB with
   |nil=>
    have:u∈d.filter (fun t=>t.aB.length==0):=List.mem_filter.2 ⟨hu,by simp [hs]⟩;rw [ht,List.mem_singleton] at this;subst this;exact .refl
   |cons s l=>
    have hsu:s∈u.aB:=by rw [hs];simp
    obtain ⟨v,hv,rfl⟩:=List.mem_map.1 (A.dec u hu s hsu);have:=hr u hu _ hsu;exact .step (ih (r v.Name) (by omega) v hv rfl) (AQ.2 ⟨u,hu,rfl,hsu⟩)
 intro y hy;obtain ⟨u,hu,rfl⟩:=List.mem_map.1 hy;exact key _ u hu rfl
theorem h99b {d:List af} (z:Sz d) {i:Nat} {x:aS}:∀(xs:List af) (k:Nat) (o:List aS),d.drop k=xs→o[i]? =some x→o.length+xs.length≤2097152→∀r,
  Iv d (i+1:Nat) (dD o ((xs.filter fun t=>decide (x∈t.aB)).map (·.Name)))=some r→BS d i k o=some r:=by
 have hl:=z.len;intro xs
 induction xs with
 |nil=>
  intro k o h hx hlen r hr;refine Uv _ _ _ _ ?_;have hi:=(List.getElem?_eq_some_iff.1 hx).1;rw [aQ h,cond_false,bl (by omega)];exact hr
 |cons t xs ih=>
  intro k o h hx hlen r hr;refine Uv _ _ _ _ ?_;have hi:=(List.getElem?_eq_some_iff.1 hx).1;have ht:t∈d:=List.mem_of_getElem? (aZ h);have hsup:=z.sup t ht;simp only [List.length_cons] at hlen;rw [aT h,cond_true,aM h,jL hi,Int.toNat_natCast,gp hx,OF _ _ (by omega),ah,aN h (by omega),aM h,OF _ _ (by omega),ah,aM h];rw [List.filter_cons] at hr;by_cases h1:x∈t.aB
  ·rw [cond_pos (by simpa using h1)]
   rw [if_pos (by simpa using h1),List.map_cons] at hr;by_cases h2:t.Name∈o
   ·rw [cond_neg (by simpa using h2)]
    refine ih (k+1) o (az h) hx (by omega) r ?_;have e:dD o (t.Name::(List.filter (fun t=>decide (x∈t.aB)) xs).map (·.Name))=dD o ((List.filter (fun t=>decide (x∈t.aB)) xs).map (·.Name)):=by simp [dD,h2]
    rw [e] at hr;exact hr
   ·rw [cond_pos (by simpa using h2),cF _ (by omega) (by simp) (by omega)]
    refine ih (k+1) (o++[t.Name]) (az h) (by rw [List.getElem?_append_left hi];exact hx) (by simp;omega) r ?_;have e:dD o (t.Name::(List.filter (fun t=>decide (x∈t.aB)) xs).map (·.Name))=dD (o++[t.Name]) ((List.filter (fun t=>decide (x∈t.aB)) xs).map (·.Name)):=by simp [dD,h2]
    rw [e] at hr;exact hr
  ·rw [cond_neg (by simpa using h1)]
   rw [if_neg (by simpa using h1)] at hr;exact ih (k+1) o (az h) hx (by omega) r hr
theorem h99c (o:List aS) (ho:o.length≤1073741824):∀(xs:List aS) (i:Nat) (out:List aS),o.drop i=xs→out.length≤i→yg out i o=some (xs.foldl (fun o s=>jP s o) out):=by
 intro xs
 induction xs with
 |nil=>intro i out h hi;refine QY _ _ _ ?_;rw [aQ h];rfl
 |cons x xs ih=>
  intro i out h hi;refine QY _ _ _ ?_;have hlt:=bN h;have:=gF x out;rw [aT h,cond_true,kg h,j7 h,WK _ _ (by omega),ah,aN h ho,ih (i+1) _ (az h) (by omega)];rfl
theorem c99 {d:List af} (z:Sz d) {x:aS} (hx:x∈cK d):∃l,f99 d x=some l∧SS l∧(∀y,y∈l↔Le d x y)∧l.length≤d.length:=by
 have hl:=z.len;obtain ⟨o,h1,h2,h3,h4⟩:=search (next:=dn d) (U:=cK d) (x0:=x) hx (fun x _ y hy=>rI hy) (R:=R99.T) (outer:=fun i o=>Iv d i o) (fin:=fun o=>yg [] 0 o)
  (fun i o ho hi r hr=>by
   refine Uu _ _ _ ?_
   rw [cond_neg (by simp;omega)];exact hr)
  (fun i o y ho hlen hy _ r hr=>by
   have hi:=(List.getElem?_eq_some_iff.1 hy).1;refine Uu _ _ _ ?_;rw [cond_pos (by simp;omega)];simp only [List.length_map] at ho
   exact h99b z d 0 o rfl hy (by omega) r hr)
 simp only [List.length_map] at h3;have hs:yg [] 0 o=some (eU o):=h99c o (by omega) o 0 [] rfl (by simp);refine ⟨eU o,?_,cU o,fun y=>by rw [cO,h2],by have:=gK o;omega⟩;refine e99 _ _ ?_;obtain ⟨j,hj,e,_⟩:=zz hx;rw [MN d _ (by omega),ah,e,cond_neg (by simp)];exact h4 _ hs
theorem XH {d:List af} (z:Sz d) {i:Nat} {l:List aS} (IM:l.length≤1048576):∀(xs:List aS) (k:Nat) (o:List aS),l.drop k=xs→i<o.length→o.length+xs.length≤2097152→∀r,
  Bu d (i+1:Nat) (dD o xs)=some r→xW d i l k o=some r:=by
 have hl:=z.len;intro xs
 induction xs with
 |nil=>
  intro k o h hi hlen r hr;refine P6 _ _ _ _ _ ?_;rw [aQ h,cond_false,bl (by omega)];exact hr
 |cons s xs ih=>
  intro k o h hi hlen r hr;refine P6 _ _ _ _ _ ?_;simp only [List.length_cons] at hlen;rw [aT h,cond_true,aM h,OF _ _ (by omega),ah,aN h (by omega),aM h];by_cases h2:s∈o
  ·rw [cond_neg (by simpa using h2)]
   refine ih (k+1) o (az h) hi (by omega) r ?_;have e:dD o (s::xs)=dD o xs:=by simp [dD,h2]
   rw [e] at hr;exact hr
  ·rw [cond_pos (by simpa using h2),cF _ (by omega) (by simp) (by omega)]
   refine ih (k+1) (o++[s]) (az h) (by simp;omega) (by simp;omega) r ?_;have e:dD o (s::xs)=dD (o++[s]) xs:=by simp [dD,h2]
   rw [e] at hr;exact hr
theorem XI (o:List aS) (ho:o.length≤1073741824):∀(xs:List aS) (i:Nat) (out:List aS),o.drop i=xs→out.length≤i→s8 out i o=some (xs.foldl (fun o s=>jP s o) out):=by
 intro xs
 induction xs with
 |nil=>intro i out h hi;refine LI _ _ _ ?_;rw [aQ h];rfl
 |cons x xs ih=>
  intro i out h hi;refine LI _ _ _ ?_;have hlt:=bN h;have:=gF x out;rw [aT h,cond_true,kg h,j7 h,WK _ _ (by omega),ah,aN h ho,ih (i+1) _ (az h) (by omega)];rfl
theorem c138 {d:List af} (z:Sz d) (A:Acc d) {x:aS} (hx:x∈cK d):∃l,f138 d x=some l∧SS l∧(∀y,y∈l↔Le d y x)∧l.length≤d.length:=by
 have hl:=z.len;obtain ⟨o,h1,h2,h3,h4⟩:=search (next:=up d) (U:=cK d) (x0:=x) hx (fun x hx y hy=>(Bb A hx (.step .refl hy)).1) (R:=R138.T) (outer:=fun i o=>Bu d i o) (fin:=fun o=>s8 [] 0 o)
  (fun i o ho hi r hr=>by
   refine P5 _ _ _ ?_
   rw [cond_neg (by simp;omega)];exact hr)
  (fun i o y ho hlen hy hyU r hr=>by
   have hi:=(List.getElem?_eq_some_iff.1 hy).1;refine P5 _ _ _ ?_;obtain ⟨j,hj,e,hn,_⟩:=zz hyU;simp only [List.length_map] at ho;rw [cond_pos (by simp;omega),jL hi,Int.toNat_natCast,gp hy,MN d _ (by omega),ah,e,cu hj];have hsup:=z.sup _ (List.getElem_mem hj);refine XH z (by omega) d[j].aB 0 o rfl hi (by omega) r ?_;have e2:up d y=d[j].aB:=by rw [←hn];exact sI A.nd (List.getElem_mem hj)
   rw [←e2];exact hr)
 simp only [List.length_map] at h3;have hs:s8 [] 0 o=some (eU o):=XI o (by omega) o 0 [] rfl (by simp);refine ⟨eU o,?_,cU o,fun y=>by rw [cO,h2,vQ A hx],by have:=gK o;omega⟩;refine e138 _ _ ?_;obtain ⟨j,hj,e,_⟩:=zz hx;rw [MN d _ (by omega),ah,e,cond_neg (by simp)];exact h4 _ hs
theorem h137 {d:List af} (z:Sz d) (l:List aS) (IM:l.length≤1048576):∀(xs:List aS) (i:Nat) (out:List aS),l.drop i=xs→out.length≤i→Bt d l out i=some ((xs.filter fun s=>decide (s∈cK d)).foldl (fun o s=>jP s o) out):=by
 have hl:=z.len;intro xs
 induction xs with
 |nil=>intro i out h hi;refine P4 _ _ _ _ ?_;rw [aQ h];rfl
 |cons x xs ih=>
  intro i out h hi;refine P4 _ _ _ _ ?_;have hlt:=bN h;have:=gF x out;rw [aT h,cond_true,aM h,MN d _ (by omega),ah,aN h (by omega),aM h,List.filter_cons];by_cases hm:x∈cK d
  ·have hge:fd d x≥0:=by
    apply Classical.byContradiction;intro hc;exact Ej.1 (by omega) hm
   rw [cond_pos (by simpa using hge),WK _ _ (by omega),ah,ih (i+1) _ (az h) (by omega),if_pos (by simpa using hm)];rfl
  ·have hneg:=Ej.2 hm
   rw [cond_neg (by simpa using hneg),ih (i+1) _ (az h) (by omega),if_neg (by simpa using hm)]
theorem c137 {d:List af} (z:Sz d) (l:List aS) (IM:l.length≤1048576):f137 d l=some (eU (l.filter fun s=>decide (s∈cK d))):=e137 _ _ (h137 z l IM l 0 [] rfl (by simp))
open Classical in
noncomputable def iL (d:List af) (all:List aS) (x:aS):Bool:=all.all fun y=>decide (y=x)|| !decide (Le d y x)
theorem XD {d:List af} (z:Sz d) {all up:List aS} {i:Nat} {x:aS} (hi:all[i]? =some x) (hnd:all.Nodup) (hall:all.length≤1048576) (hup:up.length≤1048576) (hU:∀y,y∈up↔Le d y x) {o:List aS} (ho:o.length≤1048576) {r:List aS}:
  ∀(xs:List aS) (k:Nat) (free:Bool),all.drop k=xs→
  uE d all (i+1:Nat) (if (free&&iL d xs x)=true then o++[x] else o)=some r→xU d all i up free k o=some r:=by
 intro xs;have hil:=(List.getElem?_eq_some_iff.1 hi).1
 induction xs with
 |nil=>
  intro k free h hr;refine PU _ _ _ _ _ _ _ ?_;rw [aQ h,cond_false,bl (by omega)];have e:(free&&iL d [] x)=free:=by simp [iL]
  rw [e] at hr;cases free with
  |true=>rw [cond_true,fI hi,cF _ (by omega) (by simp) (by omega)];rw [if_pos rfl] at hr;exact hr
  |false=>rw [cond_false];rw [if_neg (by simp)] at hr;exact hr
 |cons y xs ih=>
  intro k free h hr;refine PU _ _ _ _ _ _ _ ?_;rw [aT h,cond_true,aN h (by omega),aM h,OF _ _ (by omega),ah];have e:iL d (y::xs) x=((decide (y=x)|| !(open Classical in decide (Le d y x)))&&iL d xs x):=by simp [iL]
  rw [e] at hr;cases free with
  |false=>
   rw [cond_false];refine ih (k+1) false (az h) ?_;rw [Bool.false_and] at hr⊢;exact hr
  |true=>
   rw [cond_true];by_cases hk:k=i
   ·subst hk
    rw [aZ h] at hi;obtain rfl:y=x:=Option.some.inj hi;rw [cond_pos (by simp)];refine ih (k+1) true (az h) ?_;have e1:(decide (y=y)|| !(open Classical in decide (Le d y y)))=true:=by simp
    rw [e1,Bool.true_and] at hr;exact hr
   ·have hne:y≠x:=by
     intro e;subst e;have h1:=aZ h;have WN:=bN h;rw [List.getElem?_eq_getElem WN] at h1;rw [List.getElem?_eq_getElem hil] at hi;have:=(List.getElem_inj hnd).1 ((Option.some.inj h1).trans (Option.some.inj hi).symm);exact hk this
    rw [cond_neg (by simp;omega)];refine ih (k+1) _ (az h) ?_;have e2:decide (y=x)=false:=by simpa using hne
    have e3:decide (y∈up)=(open Classical in decide (Le d y x)):=by rw [decide_eq_decide];exact hU y
    rw [e2,Bool.false_or,Bool.true_and] at hr;rw [e3];exact hr
theorem h104 {d:List af} (z:Sz d) (A:Acc d) {all:List aS} (hnd:all.Nodup) (hall:all.length≤1048576) (hm:∀x∈all,x∈cK d):∀(xs:List aS) (i:Nat) (o:List aS),all.drop i=xs→o.length≤i→
  uE d all i o=some (o++xs.filter (iL d all)):=by
 have hl:=z.len;intro xs
 induction xs with
 |nil=>intro i o h ho;refine PT _ _ _ _ ?_;rw [aQ h];simp
 |cons x xs ih=>
  intro i o h ho;refine PT _ _ _ _ ?_;have hlt:=bN h;obtain ⟨u,hu,_,hU,wV⟩:=c138 z A (hm x (List.mem_of_getElem? (aZ h)));rw [aT h,cond_true,aM h,hu,ah];refine XD z (aZ h) hnd hall (by omega) hU (by omega) all 0 true rfl ?_;rw [Bool.true_and,List.filter_cons];cases hf:iL d all x with
  |true=>rw [if_pos rfl,if_pos rfl,ih (i+1) (o++[x]) (az h) (by simp;omega)];simp
  |false=>rw [if_neg (by simp),if_neg (by simp),ih (i+1) o (az h) (by omega)]
noncomputable def mw (d:List af) (l:List aS):List aS:=(eU (l.filter fun s=>decide (s∈cK d))).filter (iL d (eU (l.filter fun s=>decide (s∈cK d))))
theorem Xf {d:List af} (z:Sz d) (A:Acc d) (l:List aS) (IM:l.length≤1048576):f104 d l=some (mw d l):=by
 refine e104 _ _ ?_;rw [c137 z l IM,ah];have h1:=gK (l.filter fun s=>decide (s∈cK d));have h2:=List.length_filter_le (fun s=>decide (s∈cK d)) l
 have:=h104 z A (all:=eU (l.filter fun s=>decide (s∈cK d))) (cU _).nodup (by omega) (fun x hx=>by
  have:=cO.1 hx
  simpa using (List.mem_filter.1 this).2) _ 0 [] rfl (by simp)
 exact this
end Go.Proofs.YtmidjldjkbljjaaGreatDoor.cl
