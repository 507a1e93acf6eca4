/- Plain facts. -/
import Derived.Test.YtfoddgpndoeeaaaGreatDoorAmP
import Derived.Test.YtfoddgpndoeeaaaGreatDoorAmL
set_option linter.unusedVariables false
set_option linter.unusedSimpArgs false
namespace Go.AM
abbrev aR:Type:=List UInt8
def SS (l:List aR):Prop:=l.Pairwise fun a b=>Op.bytesLess a b=true
theorem Mx {a b:aR} (h:Op.bytesLess a b=true):a≠b:=fun e=>by
 subst e;rw [vA] at h;cases h
theorem SS.nodup {l:List aR} (h:SS l):l.Nodup:=h.imp fun h=>Mx h
def sr (s:aR):List aR→List aR
 |[]=>[s]
 |x::l=>if Op.bytesLess x s=true then x::sr s l else if x=s then x::l else s::x::l
theorem FV {s y:aR}:∀{l:List aR},y∈sr s l↔y=s∨y∈l:=by
 intro l
 induction l with
 |nil=>simp [sr]
 |cons x l ih=>
  unfold sr;split
  ·simp only [List.mem_cons,ih]
   exact ⟨fun h=>h.elim (fun h=> .inr (.inl h)) fun h=>h.elim .inl fun h=> .inr (.inr h),fun h=>h.elim (fun h=> .inr (.inl h)) fun h=>h.elim .inl fun h=> .inr (.inr h)⟩
  ·split
   ·rename_i h;subst h;simp
   ·simp
theorem Ge (s:aR):∀l:List aR,(sr s l).length≤l.length+1:=by
 intro l
 induction l with
 |nil=>simp [sr]
 |cons x l ih=>unfold sr;split<;>(try split)<;>simp<;>omega
theorem Gf {s:aR}:∀{l:List aR},SS l→SS (sr s l):=by
 intro l
 induction l with
 |nil=>intro _;simp [sr,SS]
 |cons x l ih=>
  intro h;have h':=List.pairwise_cons.1 h;unfold sr;split
  ·rename_i hx
   refine List.pairwise_cons.2 ⟨?_,ih h'.2⟩;intro y hy;rcases FV.1 hy with rfl|hy
   ·exact hx
   ·exact h'.1 y hy
  ·split
   ·exact h
   ·rename_i h1 h2
    have HV:Op.bytesLess x s=false:=by simpa using h1
    have h3:=kX x s HV h2;refine List.pairwise_cons.2 ⟨?_,h⟩;intro y hy;rcases List.mem_cons.1 hy with rfl|hy
    ·exact h3
    ·exact qF _ _ _ h3 (h'.1 y hy)
def gw (l:List aR):List aR:=l.foldl (fun o s=>sr s o) []
theorem tg:∀(l o:List aR),SS o→SS (l.foldl (fun o s=>sr s o) o)∧(∀y,y∈l.foldl (fun o s=>sr s o) o↔y∈o∨y∈l)∧(l.foldl (fun o s=>sr s o) o).length≤o.length+l.length:=by
 intro l
 induction l with
 |nil=>intro o h;exact ⟨h,fun y=>by simp,by simp⟩
 |cons x l ih=>
  intro o h;obtain ⟨h1,h2,h3⟩:=ih (sr x o) (Gf h);refine ⟨h1,fun y=> ?_,?_⟩
  ·show y∈List.foldl _ (sr x o) l↔_
   rw [h2,FV,List.mem_cons];exact ⟨fun h=>h.elim (fun h=>h.elim (fun h=> .inr (.inl h)) .inl) fun h=> .inr (.inr h),fun h=>h.elim (fun h=> .inl (.inr h)) fun h=>h.elim (fun h=> .inl (.inl h)) .inr⟩
  ·have:=Ge x o
   simp only [List.foldl_cons,List.length_cons] at h3⊢;omega
theorem eH (l:List aR):SS (gw l):=(tg l [] (by simp [SS])).1
theorem dr {l:List aR} {y:aR}:y∈gw l↔y∈l:=by
 have:=(tg l [] (by simp [SS])).2.1 y;simpa [gw] using this
theorem vf (l:List aR):(gw l).length≤l.length:=by
 have:=(tg l [] (by simp [SS])).2.2;simpa [gw] using this
theorem SS.ext:∀{l m:List aR},SS l→SS m→(∀y,y∈l↔y∈m)→l=m:=by
 intro l
 induction l with
 |nil=>
  intro m _ _ h;cases m with
  |nil=>rfl
  |cons y m=>exact absurd ((h y).2 (by simp)) (by simp)
 |cons x l ih=>
  intro m hl hm h;cases m with
  |nil=>exact absurd ((h x).1 (by simp)) (by simp)
  |cons y m=>
   have hl':=List.pairwise_cons.1 hl;have hm':=List.pairwise_cons.1 hm;have hxy:x=y:=by
    rcases List.mem_cons.1 ((h x).1 (by simp)) with e|hx
    ·exact e
    ·rcases List.mem_cons.1 ((h y).2 (by simp)) with e|hy
     ·exact e.symm
     ·have h1:=hm'.1 x hx
      have h2:=hl'.1 y hy;rw [iX h1] at h2;cases h2
   subst hxy
   congr 1
   refine ih hl'.2 hm'.2 fun z=> ?_
   have hz:=h z;simp only [List.mem_cons] at hz;constructor
   ·intro hzl
    rcases hz.1 (.inr hzl) with e|hzm
    ·subst e;exact absurd rfl (Mx (hl'.1 z hzl))
    ·exact hzm
   ·intro hzm
    rcases hz.2 (.inr hzm) with e|hzl
    ·subst e;exact absurd rfl (Mx (hm'.1 z hzm))
    ·exact hzl
theorem dN {α:Type}:∀{l m:List α},l.Nodup→(∀x∈l,x∈m)→l.length≤m.length:=by
 intro l
 induction l with
 |nil=>intro m _ _;simp
 |cons x l ih=>
  intro m hd hs;have hd':=List.nodup_cons.1 hd;obtain ⟨a,b,rfl⟩:=List.append_of_mem (hs x (by simp))
  have:=ih (m:=a++b) hd'.2 (fun y hy=>by
   have h1:=hs y (by simp [hy]);simp only [List.mem_append,List.mem_cons] at h1⊢;rcases h1 with h|h|h
   ·exact .inl h
   ·subst h;exact absurd hy hd'.1
   ·exact .inr h)
  simp only [List.length_cons,List.length_append] at this⊢;omega
theorem Jd {α:Type} {l m:List α} (hl:l.Nodup) (hs:∀x∈l,x∈m) (hlen:m.length≤l.length):∀x∈m,x∈l:=by
 intro x hx;apply Classical.byContradiction;intro hn;have hd:(x::l).Nodup:=List.nodup_cons.2 ⟨hn,hl⟩
 have:=dN (m:=m) hd (fun y hy=>by
  rcases List.mem_cons.1 hy with rfl|hy
  ·exact hx
  ·exact hs y hy)
 simp at this;omega
def eX (o:List aR) (l:List aR):List aR:=l.foldl (fun o y=>if y∈o then o else o++[y]) o
theorem EE:∀(l o:List aR),(∀y,y∈eX o l↔y∈o∨y∈l)∧(o.Nodup→(eX o l).Nodup)∧∃e,eX o l=o++e:=by
 intro l
 induction l with
 |nil=>intro o;exact ⟨fun y=>by simp [eX],fun h=>h,[],by simp [eX]⟩
 |cons x l ih=>
  intro o;by_cases hx:x∈o
  ·obtain ⟨h1,h2,h3⟩:=ih o
   have e:eX o (x::l)=eX o l:=by simp [eX,hx]
   rw [e];refine ⟨fun y=> ?_,h2,h3⟩;rw [h1,List.mem_cons];exact ⟨fun h=>h.elim .inl fun h=> .inr (.inr h),fun h=>h.elim .inl fun h=>h.elim (fun h=> .inl (h▸hx)) .inr⟩
  ·obtain ⟨h1,h2,e',h3⟩:=ih (o++[x])
   have e:eX o (x::l)=eX (o++[x]) l:=by simp [eX,hx]
   rw [e];refine ⟨fun y=> ?_,fun h=>h2 ?_,x::e',by rw [h3];simp⟩
   ·rw [h1,List.mem_cons,List.mem_append,List.mem_singleton]
    exact ⟨fun h=>h.elim (fun h=>h.elim .inl fun h=> .inr (.inl h)) fun h=> .inr (.inr h),fun h=>h.elim (fun h=> .inl (.inl h)) fun h=>h.elim (fun h=> .inl (.inr h)) .inr⟩
   ·rw [List.nodup_append]
    exact ⟨h,by simp,fun a ha b hb=>by simp only [List.mem_singleton] at hb;subst hb;exact fun e=>hx (e▸ha)⟩
inductive xX (next:aR→List aR) (x:aR):aR→Prop
 |refl:xX next x x
 |step {y z:aR}:xX next x y→z∈next y→xX next x z
theorem xX.trans {next:aR→List aR} {x y z:aR} (h1:xX next x y) (h2:xX next y z):xX next x z:=by
 induction h2 with
 |refl=>exact h1
 |step _ hz ih=>exact .step ih hz
theorem search {R:Type} {next:aR→List aR} {U:List aR} {x0:aR} (h0:x0∈U) (hU:∀x∈U,∀y∈next x,y∈U)
  {outer:Nat→List aR→Option R} {fin:List aR→Option R}
  (hend:∀i o,o.length≤U.length→o.length≤i→∀r,fin o=some r→outer i o=some r)
  (hstep:∀i o x,o.length≤U.length→(eX o (next x)).length≤U.length→o[i]? =some x→x∈U→∀r,outer (i+1) (eX o (next x))=some r→outer i o=some r):
  ∃o:List aR,o.Nodup∧(∀y,y∈o↔xX next x0 y)∧o.length≤U.length∧∀r,fin o=some r→outer 0 [x0]=some r:=by
 have key:∀(n i:Nat) (o:List aR),U.length-i=n→o.Nodup→x0∈o→(∀y∈o,y∈U∧xX next x0 y)→(∀j y,j<i→o[j]? =some y→∀z∈next y,z∈o)→
   ∃o':List aR,o'.Nodup∧(∀y,y∈o'↔xX next x0 y)∧o'.length≤U.length∧∀r,fin o'=some r→outer i o=some r:=by
  intro n
  induction n with
  |zero=>
   intro i o hn hd hx hm hc;have hlen:=dN hd fun y hy=>(hm y hy).1
   refine ⟨o,hd,fun y=>⟨fun hy=>(hm y hy).2,fun hr=> ?_⟩,hlen,fun r hr=>hend i o hlen (by omega) r hr⟩
   induction hr with
   |refl=>exact hx
   |step _ hz ih=>
    obtain ⟨j,hj,e⟩:=List.mem_iff_getElem.1 ih;exact hc j _ (by omega) (by rw [List.getElem?_eq_getElem hj,e]) _ hz
  |succ n ih=>
   intro i o hn hd hx hm hc;have hlen:=dN hd fun y hy=>(hm y hy).1
   by_cases hi:i<o.length
   ·have iE:o[i]? =some o[i]:=List.getElem?_eq_getElem hi
    have hxi:=hm o[i] (List.getElem_mem hi);obtain ⟨a1,a2,e,a3⟩:=EE (next o[i]) o;have hm':∀y∈eX o (next o[i]),y∈U∧xX next x0 y:=fun y hy=>by
     rcases (a1 y).1 hy with h|h
     ·exact hm y h
     ·exact ⟨hU _ hxi.1 y h, .step hxi.2 h⟩
    obtain ⟨o',r1,r2,r3,r4⟩:=ih (i+1) (eX o (next o[i])) (by omega) (a2 hd) ((a1 _).2 (.inl hx)) hm' (fun j y hj hy z hz=>by
     by_cases hji:j<o.length
     ·have VK:o[j]? =some y:=by
       rw [a3,List.getElem?_append_left hji] at hy;exact hy
      by_cases e2:j=i
      ·subst e2
       rw [iE] at VK;injection VK with VK
       subst VK;exact (a1 z).2 (.inr hz)
      ·exact (a1 z).2 (.inl (hc j y (by omega) VK z hz))
     ·omega)
    exact ⟨o',r1,r2,r3,fun r hr=>hstep i o _ hlen (dN (a2 hd) fun y hy=>(hm' y hy).1) iE hxi.1 r (r4 r hr)⟩
   ·refine ⟨o,hd,fun y=>⟨fun hy=>(hm y hy).2,fun hr=> ?_⟩,hlen,fun r hr=>hend i o hlen (by omega) r hr⟩
    induction hr with
    |refl=>exact hx
    |step _ hz ih=>
     obtain ⟨j,hj,e⟩:=List.mem_iff_getElem.1 ih;exact hc j _ (by omega) (by rw [List.getElem?_eq_getElem hj,e]) _ hz
 exact key _ 0 [x0] rfl (by simp) (by simp) (fun y hy=>by
  simp only [List.mem_singleton] at hy;subst hy;exact ⟨h0, .refl⟩) (fun j y hj=>by omega)
end Go.AM
