/- The Closure laws. -/
import Derived.Test.YtfoddgpndoeeaaaGreatDoorClC
set_option linter.unusedVariables false
set_option linter.unusedSimpArgs false
set_option linter.unusedSectionVars false
namespace Go.Proofs.YtfoddgpndoeeaaaGreatDoor.cl
open Go Go.AM
structure Sz (d:List af):Prop where
 len:d.length≤1048576
 sup:∀t∈d,t.aA.length≤1048576
structure G8 (d:List af) (o:List aR):Prop where
 nd:o.Nodup
 sub:∀x∈o,x∈cU d
 pre:∀i x,o[i]? =some x→∃t∈d,t.Name=x∧∀s∈t.aA,s∈o.take i
theorem G8.len {d:List af} {o:List aR} (h:G8 d o):o.length≤d.length:=by
 have:=dN h.nd h.sub;simpa using this
def s4 (d:List af):Prop:=∃r:aR→Nat,∀t∈d,∀s∈t.aA,r s<r t.Name
theorem zW {d:List af} {o:List aR} (hn:(cU d).Nodup) (ho:G8 d o) (hf:∀t∈d,t.Name∈o):s4 d:=by
 refine ⟨fun x=>o.idxOf x,fun t ht s hs=> ?_⟩;have hm:=hf t ht;have hi:o.idxOf t.Name<o.length:=List.idxOf_lt_length_iff.2 hm;have iE:o[o.idxOf t.Name]? =some t.Name:=by
  rw [List.getElem?_eq_getElem hi,List.getElem_idxOf hi]
 obtain ⟨u,hu,e,hpre⟩:=ho.pre _ _ iE;have hut:u=t:=by
  obtain ⟨i,hi1,rfl⟩:=List.mem_iff_getElem.1 hu;obtain ⟨j,hj1,rfl⟩:=List.mem_iff_getElem.1 ht;have:(cU d)[i]'(by simpa using hi1)=(cU d)[j]'(by simpa using hj1):=by simpa using e
  have:=(List.getElem_inj hn).1 this;subst this;rfl
 subst hut;have:=hpre s hs;rw [List.mem_take_iff_getElem] at this;obtain ⟨k,hk,rfl⟩:=this;show o.idxOf o[k]<_;have h1:o.idxOf o[k]=k:=ho.nd.idxOf_getElem k (by omega);have h2:k<o.idxOf u.Name:=by omega
 rw [h1];exact h2
theorem y9 {d:List af} {o:List aR} (SO:∀t∈d,∀s∈t.aA,s∈cU d) (HW:∀t∈d,t.Name∉o→∃s∈t.aA,s∉o) (hr:s4 d):∀t∈d,t.Name∈o:=by
 obtain ⟨r,hr⟩:=hr;have key:∀(n:Nat) (t:af),t∈d→r t.Name=n→t.Name∈o:=by
  intro n
  induction n using Nat.strongRecOn with
  |_ n ih=>
   intro t ht e;apply Classical.byContradiction;intro hc;obtain ⟨s,hs,VD⟩:=HW t ht hc;obtain ⟨u,hu,rfl⟩:=List.mem_map.1 (SO t ht s hs);have:=hr t ht _ hs;exact VD (ih (r u.Name) (by omega) u hu rfl)
 exact fun t ht=>key _ t ht rfl
def tV (d:List af):Nat:=(d.filter fun t=>t.aA.length==0).length
open Classical in
noncomputable def AI (d:List af):Int:=
 if EJ d=true then 7 else if mT [] d≠0 then mT [] d else if mY (cU d) d≠0 then mY (cU d) d else if tV d≠1 then 1 else if s4 d then 0 else 6
structure Acc (d:List af):Prop where
 nd:(cU d).Nodup
 name:∀t∈d,isName t.Name=true
 dec:∀t∈d,∀s∈t.aA,s∈cU d
 top:tV d=1
 rk:s4 d
theorem yH {d:List af} (h:AI d=0):Acc d:=by
 unfold AI at h;split at h
 ·cases h
 split at h
 ·rename_i h1;exact absurd h h1
 split at h
 ·rename_i h1;exact absurd h h1
 split at h
 ·cases h
 split at h
 ·rename_i h0 h1 h2 h3 h4
  have HV:mT [] d=0:=Classical.byContradiction h1;have FA:mY (cU d) d=0:=Classical.byContradiction h2;obtain ⟨a1,a2,_⟩:=(zK d []).1 HV;exact ⟨a2,a1,fun t ht=>((p9 _ d).1 FA t ht).1,Classical.byContradiction h3,h4⟩
 ·cases h
end Go.Proofs.YtfoddgpndoeeaaaGreatDoor.cl
set_option linter.unusedVariables false
set_option linter.unusedSimpArgs false
set_option linter.unusedSectionVars false
namespace Go.Proofs.YtfoddgpndoeeaaaGreatDoor.cl
open Go Go.AM
def dn (d:List af) (x:aR):List aR:=(d.filter fun t=>decide (x∈t.aA)).map (·.Name)
def up (d:List af) (x:aR):List aR:=match d.find? (fun t=>t.Name==x) with
 |some t=>t.aA
 |none=>[]
theorem zG {d:List af} {x y:aR}:y∈dn d x↔∃t∈d,t.Name=y∧x∈t.aA:=by
 simp only [dn,List.mem_map,List.mem_filter,decide_eq_true_eq];exact ⟨fun ⟨t,⟨h1,h2⟩,h3⟩=>⟨t,h1,h3,h2⟩,fun ⟨t,h1,h3,h2⟩=>⟨t,⟨h1,h2⟩,h3⟩⟩
theorem s7 {d:List af} {x y:aR} (h:y∈dn d x):y∈cU d:=by
 obtain ⟨t,ht,e,_⟩:=zG.1 h;exact e▸List.mem_map_of_mem ht
theorem RZ {d:List af} (hn:(cU d).Nodup) {t u:af} (ht:t∈d) (hu:u∈d) (e:t.Name=u.Name):t=u:=by
 obtain ⟨i,hi1,rfl⟩:=List.mem_iff_getElem.1 ht;obtain ⟨j,hj1,rfl⟩:=List.mem_iff_getElem.1 hu;have:(cU d)[i]'(by simpa using hi1)=(cU d)[j]'(by simpa using hj1):=by simpa using e
 have:=(List.getElem_inj hn).1 this;subst this;rfl
theorem sY {d:List af} (hn:(cU d).Nodup) {t:af} (ht:t∈d):up d t.Name=t.aA:=by
 unfold up;cases e:d.find? (fun u=>u.Name==t.Name) with
 |none=>
  rw [List.find?_eq_none] at e;exact absurd (e t ht) (by simp)
 |some u=>
  have h1:=List.find?_some e;have h2:=List.mem_of_find?_eq_some e;rw [RZ hn h2 ht (by simpa using h1)]
theorem Di {d:List af} (hn:(cU d).Nodup) {x y:aR} (hx:x∈cU d):y∈up d x↔x∈dn d y:=by
 obtain ⟨t,ht,rfl⟩:=List.mem_map.1 hx;rw [sY hn ht,zG];constructor
 ·intro h;exact ⟨t,ht,rfl,h⟩
 ·rintro ⟨u,hu,e,h⟩
  rw [RZ hn hu ht e] at h;exact h
abbrev Le (d:List af) (x y:aR):Prop:=xX (dn d) x y
theorem Le.cU {d:List af} {x y:aR} (hx:x∈cU d) (h:Le d x y):y∈cU d:=by
 induction h with
 |refl=>exact hx
 |step _ hz _=>exact s7 hz
theorem Gg {d:List af} (A:Acc d) {x y:aR} (hx:x∈cU d) (h:xX (up d) x y):y∈cU d∧Le d y x:=by
 induction h with
 |refl=>exact ⟨hx, .refl⟩
 | @step y z h1 hz ih=>
  obtain ⟨hy,hl⟩:=ih;refine ⟨?_,?_⟩
  ·obtain ⟨t,ht,e⟩:=List.mem_map.1 hy
   subst e;rw [sY A.nd ht] at hz;exact A.dec t ht _ hz
  ·exact xX.trans (.step .refl ((Di A.nd hy).1 hz)) hl
theorem xX.head {next:aR→List aR} {x y z:aR} (h1:y∈next x) (h2:xX next y z):xX next x z:=xX.trans (.step .refl h1) h2
theorem Pc {d:List af} (A:Acc d) {x y:aR} (h:Le d y x):xX (up d) x y:=by
 induction h with
 |refl=>exact .refl
 | @step u v h1 hz ih=>exact xX.head ((Di A.nd (s7 hz)).2 hz) ih
theorem DY {d:List af} (A:Acc d) {x y:aR} (hx:x∈cU d):xX (up d) x y↔Le d y x:=⟨fun h=>(Gg A hx h).2,Pc A⟩
theorem Dc {d:List af} {r:aR→Nat} (hr:∀t∈d,∀s∈t.aA,r s<r t.Name) {x y:aR} (h:Le d x y):x=y∨r x<r y:=by
 induction h with
 |refl=>exact .inl rfl
 |step _ hz ih=>
  obtain ⟨t,ht,rfl,hs⟩:=zG.1 hz;have:=hr t ht _ hs;rcases ih with rfl|h
  ·exact .inr this
  ·exact .inr (by omega)
theorem le_antisymm {d:List af} (A:Acc d) {x y:aR} (h1:Le d x y) (h2:Le d y x):x=y:=by
 obtain ⟨r,hr⟩:=A.rk;rcases Dc hr h1 with h|h
 ·exact h
 ·rcases Dc hr h2 with h'|h'
  ·exact h'.symm
  ·omega
theorem root {d:List af} (A:Acc d):∃t∈cU d,∀y∈cU d,Le d t y:=by
 have VF:=A.top;unfold tV at VF;obtain ⟨t,ht⟩:=List.length_eq_one_iff.1 VF;have htm:t∈d.filter (fun t=>t.aA.length==0):=by rw [ht];simp
 refine ⟨t.Name,List.mem_map_of_mem (List.mem_filter.1 htm).1,?_⟩;obtain ⟨r,hr⟩:=A.rk;have key:∀(n:Nat) (u:af),u∈d→r u.Name=n→Le d t.Name u.Name:=by
  intro n
  induction n using Nat.strongRecOn with
  |_ n ih=>
   intro u hu e;cases hs:u.aA with
   |nil=>
    have:u∈d.filter (fun t=>t.aA.length==0):=List.mem_filter.2 ⟨hu,by simp [hs]⟩;rw [ht,List.mem_singleton] at this;subst this;exact .refl
   |cons s l=>
    have hsu:s∈u.aA:=by rw [hs];simp
    obtain ⟨v,hv,rfl⟩:=List.mem_map.1 (A.dec u hu s hsu);have:=hr u hu _ hsu;exact .step (ih (r v.Name) (by omega) v hv rfl) (zG.2 ⟨u,hu,rfl,hsu⟩)
 intro y hy;obtain ⟨u,hu,rfl⟩:=List.mem_map.1 hy;exact key _ u hu rfl
open Classical in
noncomputable def mz (d:List af) (all:List aR) (x:aR):Bool:=all.all fun y=>decide (y=x)|| !decide (Le d y x)
noncomputable def nB (d:List af) (l:List aR):List aR:=(gw (l.filter fun s=>decide (s∈cU d))).filter (mz d (gw (l.filter fun s=>decide (s∈cU d))))
end Go.Proofs.YtfoddgpndoeeaaaGreatDoor.cl
