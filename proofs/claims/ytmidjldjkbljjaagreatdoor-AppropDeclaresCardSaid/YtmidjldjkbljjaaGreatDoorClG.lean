/- Plain facts. -/
import Derived.Test.YtmidjldjkbljjaaGreatDoorAmP
import Derived.Test.YtmidjldjkbljjaaGreatDoorAmL
set_option linter.unusedVariables false
set_option linter.unusedSimpArgs false
namespace Go.AM
abbrev aS:Type:=List UInt8
def SS (l:List aS):Prop:=l.Pairwise fun a b=>Op.bytesLess a b=true
theorem Ou {a b:aS} (h:Op.bytesLess a b=true):a≠b:=fun e=>by
 subst e;rw [wL] at h;cases h
theorem SS.nodup {l:List aS} (h:SS l):l.Nodup:=h.imp fun h=>Ou h
def jP (s:aS):List aS→List aS
 |[]=>[s]
 |x::l=>if Op.bytesLess x s=true then x::jP s l else if x=s then x::l else s::x::l
theorem Hh {s y:aS}:∀{l:List aS},y∈jP s l↔y=s∨y∈l:=by
 intro l
 induction l with
 |nil=>simp [jP]
 |cons x l ih=>
  unfold jP;split
  ·simp only [List.mem_cons,ih]
   exact ⟨fun h=>h.elim (fun h=> .inr (.inl h)) fun h=>h.elim .inl fun h=> .inr (.inr h),fun h=>h.elim (fun h=> .inr (.inl h)) fun h=>h.elim .inl fun h=> .inr (.inr h)⟩
  ·split
   ·rename_i h;subst h;simp
   ·simp
theorem gF (s:aS):∀l:List aS,(jP s l).length≤l.length+1:=by
 intro l
 induction l with
 |nil=>simp [jP]
 |cons x l ih=>unfold jP;split<;>(try split)<;>simp<;>omega
theorem HI {s:aS}:∀{l:List aS},SS l→SS (jP s l):=by
 intro l
 induction l with
 |nil=>intro _;simp [jP,SS]
 |cons x l ih=>
  intro h;have h':=List.pairwise_cons.1 h;unfold jP;split
  ·rename_i hx
   refine List.pairwise_cons.2 ⟨?_,ih h'.2⟩;intro y hy;rcases Hh.1 hy with rfl|hy
   ·exact hx
   ·exact h'.1 y hy
  ·split
   ·exact h
   ·rename_i h1 h2
    have Jz:Op.bytesLess x s=false:=by simpa using h1
    have h3:=lR x s Jz h2;refine List.pairwise_cons.2 ⟨?_,h⟩;intro y hy;rcases List.mem_cons.1 hy with rfl|hy
    ·exact h3
    ·exact rE _ _ _ h3 (h'.1 y hy)
def eU (l:List aS):List aS:=l.foldl (fun o s=>jP s o) []
theorem ug:∀(l o:List aS),SS o→SS (l.foldl (fun o s=>jP s o) o)∧(∀y,y∈l.foldl (fun o s=>jP s o) o↔y∈o∨y∈l)∧(l.foldl (fun o s=>jP s o) o).length≤o.length+l.length:=by
 intro l
 induction l with
 |nil=>intro o h;exact ⟨h,fun y=>by simp,by simp⟩
 |cons x l ih=>
  intro o h;obtain ⟨h1,h2,h3⟩:=ih (jP x o) (HI h);refine ⟨h1,fun y=> ?_,?_⟩
  ·show y∈List.foldl _ (jP x o) l↔_
   rw [h2,Hh,List.mem_cons];exact ⟨fun h=>h.elim (fun h=>h.elim (fun h=> .inr (.inl h)) .inl) fun h=> .inr (.inr h),fun h=>h.elim (fun h=> .inl (.inr h)) fun h=>h.elim (fun h=> .inl (.inl h)) .inr⟩
  ·have:=gF x o
   simp only [List.foldl_cons,List.length_cons] at h3⊢;omega
theorem cU (l:List aS):SS (eU l):=(ug l [] (by simp [SS])).1
theorem cO {l:List aS} {y:aS}:y∈eU l↔y∈l:=by
 have:=(ug l [] (by simp [SS])).2.1 y;simpa [eU] using this
theorem gK (l:List aS):(eU l).length≤l.length:=by
 have:=(ug l [] (by simp [SS])).2.2;simpa [eU] using this
theorem SS.ext:∀{l m:List aS},SS l→SS m→(∀y,y∈l↔y∈m)→l=m:=by
 intro l
 induction l with
 |nil=>
  intro m _ _ h;cases m with
  |nil=>rfl
  |cons y m=>exact absurd ((h y).2 (by simp)) (by simp)
 |cons x l ih=>
  intro m hl hm h;cases m with
  |nil=>exact absurd ((h x).1 (by simp)) (by simp)
  |cons y m=>
   have hl':=List.pairwise_cons.1 hl;have hm':=List.pairwise_cons.1 hm;have hxy:x=y:=by
    rcases List.mem_cons.1 ((h x).1 (by simp)) with e|hx
    ·exact e
    ·rcases List.mem_cons.1 ((h y).2 (by simp)) with e|hy
     ·exact e.symm
     ·have h1:=hm'.1 x hx
      have h2:=hl'.1 y hy;rw [jr h1] at h2;cases h2
   subst hxy
   congr 1
   refine ih hl'.2 hm'.2 fun z=> ?_
   have hz:=h z;simp only [List.mem_cons] at hz;constructor
   ·intro hzl
    rcases hz.1 (.inr hzl) with e|hzm
    ·subst e;exact absurd rfl (Ou (hl'.1 z hzl))
    ·exact hzm
   ·intro hzm
    rcases hz.2 (.inr hzm) with e|hzl
    ·subst e;exact absurd rfl (Ou (hm'.1 z hzm))
    ·exact hzl
theorem dw {α:Type}:∀{l m:List α},l.Nodup→(∀x∈l,x∈m)→l.length≤m.length:=by
 intro l
 induction l with
 |nil=>intro m _ _;simp
 |cons x l ih=>
  intro m hd hs;have hd':=List.nodup_cons.1 hd;obtain ⟨a,b,rfl⟩:=List.append_of_mem (hs x (by simp))
  have:=ih (m:=a++b) hd'.2 (fun y hy=>by
   have h1:=hs y (by simp [hy]);simp only [List.mem_append,List.mem_cons] at h1⊢;rcases h1 with h|h|h
   ·exact .inl h
   ·subst h;exact absurd hy hd'.1
   ·exact .inr h)
  simp only [List.length_cons,List.length_append] at this⊢;omega
theorem AU {α:Type} {l m:List α} (hl:l.Nodup) (hs:∀x∈l,x∈m) (hlen:m.length≤l.length):∀x∈m,x∈l:=by
 intro x hx;apply Classical.byContradiction;intro hn;have hd:(x::l).Nodup:=List.nodup_cons.2 ⟨hn,hl⟩
 have:=dw (m:=m) hd (fun y hy=>by
  rcases List.mem_cons.1 hy with rfl|hy
  ·exact hx
  ·exact hs y hy)
 simp at this;omega
def dD (o:List aS) (l:List aS):List aS:=l.foldl (fun o y=>if y∈o then o else o++[y]) o
theorem FV:∀(l o:List aS),(∀y,y∈dD o l↔y∈o∨y∈l)∧(o.Nodup→(dD o l).Nodup)∧∃e,dD o l=o++e:=by
 intro l
 induction l with
 |nil=>intro o;exact ⟨fun y=>by simp [dD],fun h=>h,[],by simp [dD]⟩
 |cons x l ih=>
  intro o;by_cases hx:x∈o
  ·obtain ⟨h1,h2,h3⟩:=ih o
   have e:dD o (x::l)=dD o l:=by simp [dD,hx]
   rw [e];refine ⟨fun y=> ?_,h2,h3⟩;rw [h1,List.mem_cons];exact ⟨fun h=>h.elim .inl fun h=> .inr (.inr h),fun h=>h.elim .inl fun h=>h.elim (fun h=> .inl (h▸hx)) .inr⟩
  ·obtain ⟨h1,h2,e',h3⟩:=ih (o++[x])
   have e:dD o (x::l)=dD (o++[x]) l:=by simp [dD,hx]
   rw [e];refine ⟨fun y=> ?_,fun h=>h2 ?_,x::e',by rw [h3];simp⟩
   ·rw [h1,List.mem_cons,List.mem_append,List.mem_singleton]
    exact ⟨fun h=>h.elim (fun h=>h.elim .inl fun h=> .inr (.inl h)) fun h=> .inr (.inr h),fun h=>h.elim (fun h=> .inl (.inl h)) fun h=>h.elim (fun h=> .inl (.inr h)) .inr⟩
   ·rw [List.nodup_append]
    exact ⟨h,by simp,fun a ha b hb=>by simp only [List.mem_singleton] at hb;subst hb;exact fun e=>hx (e▸ha)⟩
inductive zg (next:aS→List aS) (x:aS):aS→Prop
 |refl:zg next x x
 |step {y z:aS}:zg next x y→z∈next y→zg next x z
theorem zg.trans {next:aS→List aS} {x y z:aS} (h1:zg next x y) (h2:zg next y z):zg next x z:=by
 induction h2 with
 |refl=>exact h1
 |step _ hz ih=>exact .step ih hz
theorem search {R:Type} {next:aS→List aS} {U:List aS} {x0:aS} (h0:x0∈U) (hU:∀x∈U,∀y∈next x,y∈U)
  {outer:Nat→List aS→Option R} {fin:List aS→Option R}
  (hend:∀i o,o.length≤U.length→o.length≤i→∀r,fin o=some r→outer i o=some r)
  (hstep:∀i o x,o.length≤U.length→(dD o (next x)).length≤U.length→o[i]? =some x→x∈U→∀r,outer (i+1) (dD o (next x))=some r→outer i o=some r):
  ∃o:List aS,o.Nodup∧(∀y,y∈o↔zg next x0 y)∧o.length≤U.length∧∀r,fin o=some r→outer 0 [x0]=some r:=by
 have key:∀(n i:Nat) (o:List aS),U.length-i=n→o.Nodup→x0∈o→(∀y∈o,y∈U∧zg next x0 y)→(∀j y,j<i→o[j]? =some y→∀z∈next y,z∈o)→
   ∃o':List aS,o'.Nodup∧(∀y,y∈o'↔zg next x0 y)∧o'.length≤U.length∧∀r,fin o'=some r→outer i o=some r:=by
  intro n
  induction n with
  |zero=>
   intro i o hn hd hx hm hc;have hlen:=dw hd fun y hy=>(hm y hy).1
   refine ⟨o,hd,fun y=>⟨fun hy=>(hm y hy).2,fun hr=> ?_⟩,hlen,fun r hr=>hend i o hlen (by omega) r hr⟩
   induction hr with
   |refl=>exact hx
   |step _ hz ih=>
    obtain ⟨j,hj,e⟩:=List.mem_iff_getElem.1 ih;exact hc j _ (by omega) (by rw [List.getElem?_eq_getElem hj,e]) _ hz
  |succ n ih=>
   intro i o hn hd hx hm hc;have hlen:=dw hd fun y hy=>(hm y hy).1
   by_cases hi:i<o.length
   ·have iU:o[i]? =some o[i]:=List.getElem?_eq_getElem hi
    have hxi:=hm o[i] (List.getElem_mem hi);obtain ⟨a1,a2,e,a3⟩:=FV (next o[i]) o;have hm':∀y∈dD o (next o[i]),y∈U∧zg next x0 y:=fun y hy=>by
     rcases (a1 y).1 hy with h|h
     ·exact hm y h
     ·exact ⟨hU _ hxi.1 y h, .step hxi.2 h⟩
    obtain ⟨o',r1,r2,r3,r4⟩:=ih (i+1) (dD o (next o[i])) (by omega) (a2 hd) ((a1 _).2 (.inl hx)) hm' (fun j y hj hy z hz=>by
     by_cases hji:j<o.length
     ·have YH:o[j]? =some y:=by
       rw [a3,List.getElem?_append_left hji] at hy;exact hy
      by_cases e2:j=i
      ·subst e2
       rw [iU] at YH;injection YH with YH
       subst YH;exact (a1 z).2 (.inr hz)
      ·exact (a1 z).2 (.inl (hc j y (by omega) YH z hz))
     ·omega)
    exact ⟨o',r1,r2,r3,fun r hr=>hstep i o _ hlen (dw (a2 hd) fun y hy=>(hm' y hy).1) iU hxi.1 r (r4 r hr)⟩
   ·refine ⟨o,hd,fun y=>⟨fun hy=>(hm y hy).2,fun hr=> ?_⟩,hlen,fun r hr=>hend i o hlen (by omega) r hr⟩
    induction hr with
    |refl=>exact hx
    |step _ hz ih=>
     obtain ⟨j,hj,e⟩:=List.mem_iff_getElem.1 ih;exact hc j _ (by omega) (by rw [List.getElem?_eq_getElem hj,e]) _ hz
 exact key _ 0 [x0] rfl (by simp) (by simp) (fun y hy=>by
  simp only [List.mem_singleton] at hy;subst hy;exact ⟨h0, .refl⟩) (fun j y hj=>by omega)
end Go.AM
