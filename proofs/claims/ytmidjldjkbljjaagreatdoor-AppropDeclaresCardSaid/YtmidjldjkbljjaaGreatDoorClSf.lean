/- Layer 5. -/
import Derived.Test.YtmidjldjkbljjaaGreatDoorClSd
set_option linter.unusedVariables false
set_option linter.unusedSimpArgs false
set_option linter.unusedSectionVars false
namespace Go.AM
section
variable {K V:Type}
theorem Gf (k:K):wS ([]:List (K×V)) k=[]:=by simp [wS,vL]
theorem CQ (x:K×V) (l:List (K×V)) (k:K):wS (x::l) k=open Classical in if k=x.1 then l else x::wS l k:=by
 unfold wS;rw [mX];by_cases h:k=x.1
 ·simp [h]
 ·simp only [h,if_false]
  cases iF l k<;>simp
theorem Ra (k:K):∀l:List (K×V),((wS l k).map Prod.fst).Sublist (l.map Prod.fst):=by
 intro l
 induction l with
 |nil=>rw [Gf];exact List.Sublist.refl _
 |cons x l ih=>
  rw [CQ];split
  ·rw [List.map_cons];exact List.sublist_cons_self _ _
  ·rw [List.map_cons,List.map_cons];exact ih.cons_cons _
theorem Pe {k:K}:∀{l:List (K×V)},k∉l.map Prod.fst→getM l k=none:=by
 intro l
 induction l with
 |nil=>intro _;exact eS k
 |cons x l ih=>
  intro h;rw [List.map_cons,List.mem_cons,not_or] at h;rw [eL,if_neg h.1];exact ih h.2
theorem GG (k k':K):∀{l:List (K×V)},(l.map Prod.fst).Nodup→getM (wS l k) k'=open Classical in if k'=k then none else getM l k':=by
 intro l
 induction l with
 |nil=>intro _;rw [Gf,eS];simp
 |cons x l ih=>
  intro hn;rw [List.map_cons,List.nodup_cons] at hn;rw [CQ];by_cases h:k=x.1
  ·rw [if_pos h,eL]
   by_cases h2:k'=k
   ·rw [if_pos h2]
    exact Pe (by rw [h2,h];exact hn.1)
   ·rw [if_neg h2,if_neg (by rw [←h];exact h2)]
  ·rw [if_neg h,eL,ih hn.2,eL]
   by_cases h2:k'=x.1
   ·rw [if_pos h2,if_pos h2,if_neg (by rw [h2];exact fun e=>h e.symm)]
   ·rw [if_neg h2,if_neg h2]
theorem Jw {l:List (K×V)} (h:∀k,getM l k=none):l=[]:=by
 cases l with
 |nil=>rfl
 |cons x l=>
  have:=h x.1;rw [eL,if_pos rfl] at this;cases this
end
end Go.AM
namespace Go.Proofs.YtmidjldjkbljjaaGreatDoor.cl
open Go Go.AM
def jY (n:Nat) (S:Nat→Bool):Nat:=((List.range n).filter S).length
theorem pq (n:Nat) (S:Nat→Bool):jY (n+1) S=jY n S+(if S n=true then 1 else 0):=by
 unfold jY;rw [List.range_succ,List.filter_append,List.length_append]
 congr 1
 cases h:S n<;>simp [List.filter_cons,h]
theorem Ab {S T:Nat→Bool}:∀{n:Nat},(∀j,j<n→S j=T j)→jY n S=jY n T:=by
 intro n
 induction n with
 |zero=>intro _;rfl
 |succ n ih=>
  intro h;rw [pq,pq,ih fun j hj=>h j (by omega),h n (by omega)]
def BT (S:Nat→Bool) (i:Nat) (b:Bool):Nat→Bool:=fun j=>if j=i then b else S j
theorem Gd {S:Nat→Bool} {i:Nat}:∀{n:Nat},i<n→S i=false→jY n (BT S i true)=jY n S+1:=by
 intro n
 induction n with
 |zero=>intro h;omega
 |succ n ih=>
  intro h hS;rw [pq,pq];by_cases e:i=n
  ·subst e
   rw [Ab (S:=BT S i true) (T:=S) fun j hj=>by unfold BT;rw [if_neg (by omega)],hS];have:BT S i true i=true:=by unfold BT;rw [if_pos rfl]
   rw [this];simp
  ·rw [ih (by omega) hS]
   have:BT S i true n=S n:=by unfold BT;rw [if_neg (by omega)]
   rw [this];omega
theorem OI {S:Nat→Bool} {i n:Nat} (h:i<n) (hS:S i=true):jY n (BT S i false)+1=jY n S:=by
 rw [←Gd h (S:=BT S i false) (by unfold BT;rw [if_pos rfl])];refine Ab fun j _=> ?_
 unfold BT;by_cases e:j=i
 ·subst e;simp [hS]
 ·simp [e]
theorem sP (n:Nat) (S:Nat→Bool):jY n S≤n:=by
 have:=List.length_filter_le S (List.range n);simpa [jY] using this
theorem CP {S:Nat→Bool}:∀{n:Nat},jY n S=n↔∀j,j<n→S j=true:=by
 intro n
 induction n with
 |zero=>simp [jY]
 |succ n ih=>
  rw [pq];have:=sP n S;constructor
  ·intro h
   have hn:S n=true:=by
    cases e:S n with
    |true=>rfl
    |false=>rw [e] at h;simp at h;omega
   rw [hn] at h;simp only [if_true] at h;have h':=ih.1 (by omega);intro j hj;by_cases e:j=n
   ·rw [e];exact hn
   ·exact h' j (by omega)
  ·intro h
   rw [ih.2 fun j hj=>h j (by omega),h n (by omega)];simp
inductive Wf (v:List (List ai)):Nat→Prop
 |mk (i:Nat):(∀x∈v.getD i [],Wf v x.Value.toNat)→Wf v i
structure Vz (v:List (List ai)):Prop where
 len:v.length≤1000
 row:∀r∈v,r.length≤20
 val:∀r∈v,∀x∈r,0≤x.Value∧x.Value<(v.length:Int)
theorem stuck {v:List (List ai)} {S:Nat→Bool} (h:∀i,i<v.length→S i=true→∃x∈v.getD i [],x.Value.toNat<v.length∧S x.Value.toNat=true):∀i,Wf v i→i<v.length→S i=false:=by
 intro i hw
 induction hw with
 |mk i _ ih=>
  intro hi;cases e:S i with
  |false=>rfl
  |true=>
   obtain ⟨x,hx,h1,h2⟩:=h i hi e;rw [ih x hx h1] at h2;cases h2
structure Lf (n:Nat) (o:List (Int×Bool)) (S:Nat→Bool):Prop where
 nd:(o.map Prod.fst).Nodup
 at_:∀i:Nat,getM o (i:Int)=if i<n∧S i=true then some true else none
 neg:∀k:Int,k<0→getM o k=none
theorem Wi {n:Nat} {o:List (Int×Bool)} {S:Nat→Bool} (h:Lf n o S) {i:Nat} (hi:i<n):Lf n (dP o (i:Int) true) (BT S i true):=by
 refine ⟨?_,fun j=> ?_,fun k hk=> ?_⟩
 ·rw [G8]
  split
  ·exact h.nd
  ·rename_i hy
   rw [List.nodup_append];refine ⟨h.nd,by simp,fun a ha b hb=> ?_⟩;simp only [List.mem_singleton] at hb
   rintro rfl
   exact hy (hb▸ha)
 ·rw [gm]
  unfold BT;by_cases e:j=i
  ·subst e;simp [hi]
  ·rw [if_neg (by omega),h.at_ j,if_neg e]
 ·rw [gm,if_neg (by omega)];exact h.neg k hk
theorem Wh {n:Nat} {o:List (Int×Bool)} {S:Nat→Bool} (h:Lf n o S) (i:Nat):Lf n (wS o (i:Int)) (BT S i false):=by
 refine ⟨h.nd.sublist (Ra _ _),fun j=> ?_,fun k hk=> ?_⟩
 ·rw [GG _ _ h.nd]
  unfold BT;by_cases e:j=i
  ·subst e;simp
  ·rw [if_neg (by omega),h.at_ j,if_neg e]
 ·rw [GG _ _ h.nd]
  split
  ·rfl
  ·exact h.neg k hk
theorem EA {n:Nat} {o:List (Int×Bool)} {S:Nat→Bool} (h:Lf n o S) {R:Type} (i:Nat) (hi:i<n) (f:Bool→Option R) (z:Option R):gu o (i:Int) f z=if S i=true then f true else z:=by
 have:=h.at_ i;cases e:S i with
 |true=>rw [e,if_pos ⟨hi,rfl⟩] at this;rw [dK this];rfl
 |false=>rw [e,if_neg (by simp)] at this;rw [gI this];rfl
theorem Re {n:Nat} {o:List (Int×Bool)} {S:Nat→Bool} (h:Lf n o S):((o.length:Int)==0)=decide (∀i,i<n→S i=false):=by
 rw [Bool.eq_iff_iff,decide_eq_true_iff,beq_iff_eq];constructor
 ·intro hl i hi
  have:o=[]:=List.length_eq_zero_iff.1 (by omega);subst this;have:=h.at_ i;rw [eS] at this;cases e:S i with
  |false=>rfl
  |true=>rw [e,if_pos ⟨hi,rfl⟩] at this;cases this
 ·intro hS
  have:o=[]:=Jw fun k=>by
   by_cases hk:k<0
   ·exact h.neg k hk
   ·have:=h.at_ k.toNat
    rw [if_neg (by rintro ⟨a,b⟩;rw [hS _ a] at b;cases b)] at this
    rwa [Int.toNat_of_nonneg (by omega)] at this
  subst this;rfl
section
variable {v:List (List ai)} (Z:Vz v)
include Z
theorem h379 {o:List (Int×Bool)} {S:Nat→Bool} (L:Lf v.length o S) {r:List ai} (hr:r∈v):∀(xs:List ai) (i:Nat),r.drop i=xs→BL r r.length i o=some (bJ (fun x=>S x.Value.toNat) xs i):=by
 have hrl:=Z.row r hr;intro xs
 induction xs with
 |nil=>intro i h;refine QI _ _ _ _ ?_;rw [aQ h];rfl
 |cons x xs ih=>
  intro i h;refine QI _ _ _ _ ?_;have hx:=Z.val r hr x (List.mem_of_getElem? (aZ h));have h386:f386 x o=some (S x.Value.toNat):=by
   refine e386 _ _ ?_;have e:x.Value=(x.Value.toNat:Int):=by omega
   rw [e,EA L _ (by omega),←e];cases S x.Value.toNat<;>rfl
  rw [aT h,cond_true,aM h,h386,ah,aN h (by omega),ih (i+1) (az h),bJ];cases S x.Value.toNat<;>rfl
theorem YK {o:List (Int×Bool)} {S:Nat→Bool} (L:Lf v.length o S) {r:List ai} (hr:r∈v):f378 r o=some (r.any fun x=>S x.Value.toNat):=by
 refine e378 _ _ ?_;have:f379 r o=some (bJ (fun x=>S x.Value.toNat) r 0):=e379 _ _ (h379 Z L hr r 0 rfl);rw [this,ah,DZ]
theorem TB:∀(k i:Nat) (S:Nat→Bool) (o:List (Int×Bool)) (ch:Bool),v.length-i=k→i≤v.length→Lf v.length o S→(∀j,j<v.length→S j=false→Wf v j)→
  ∃(S':Nat→Bool) (o':List (Int×Bool)) (ch':Bool),Lf v.length o' S'∧(∀j,j<v.length→S' j=false→Wf v j)∧jY v.length S'≤jY v.length S∧
   (ch'=true→ch=true∨jY v.length S'<jY v.length S)∧(ch'=false→ch=false∧S'=S∧∀j,i≤j→j<v.length→S j=true→∃x∈v.getD j [],S x.Value.toNat=true)∧
   ∀r,x8 v ch' o'=some r→oz v ch v.length i o=some r:=by
 have hl:=Z.len;intro k
 induction k with
 |zero=>
  intro i S o ch hk hi L hS;refine ⟨S,o,ch,L,hS,Nat.le_refl _,fun h=> .inl h,fun h=>⟨h,rfl,fun j h1 h2=>by omega⟩,fun r hr=> ?_⟩;refine Ev _ _ _ _ _ ?_;rw [cond_neg (by rw [decide_eq_false_iff_not];omega)];exact hr
 |succ k ih=>
  intro i S o ch hk hi L hS;have hlt:i<v.length:=by omega
  have hg:v.getD i []=v[i]:=by rw [List.getD_eq_getElem?_getD,List.getElem?_eq_getElem hlt];rfl
  have hmem:v[i]∈v:=List.getElem_mem hlt;by_cases hc:S i=true∧(v[i].any fun x=>S x.Value.toNat)=false
  ·obtain ⟨hc1,vi⟩:=hc
   have hwf:Wf v i:=by
    refine .mk i fun x hx=> ?_
    rw [hg] at hx;have h0:=Z.val _ hmem x hx;refine hS _ (by omega) ?_;rw [List.any_eq_false] at vi;cases e:S x.Value.toNat with
    |false=>rfl
    |true=>exact absurd e (vi x hx)
   have hd:=OI hlt hc1
   obtain ⟨S',o',ch',a1,a2,a3,a4,a5,a6⟩:=ih (i+1) (BT S i false) (wS o (i:Int)) true (by omega) (by omega) (Wh L i) (fun j hj Eo=>by
    unfold BT at Eo;by_cases e:j=i
    ·rw [e];exact hwf
    ·rw [if_neg e] at Eo;exact hS j hj Eo)
   refine ⟨S',o',ch',a1,a2,by omega,fun _=> .inr (by omega),fun h=>(by have:=(a5 h).1;cases this),fun r hr=> ?_⟩;refine Ev _ _ _ _ _ ?_;rw [cond_pos (by rw [decide_eq_true_iff];omega),EA L i hlt,if_pos hc1,cond_true,cu hlt,YK Z L hmem,ah,vi,Bool.not_false,cond_true,iw,bl (by omega)];exact a6 r hr
  ·obtain ⟨S',o',ch',a1,a2,a3,a4,a5,a6⟩:=ih (i+1) S o ch (by omega) (by omega) L hS
   refine ⟨S',o',ch',a1,a2,a3,a4,fun h=>⟨(a5 h).1,(a5 h).2.1,fun j h1 h2 Eo=> ?_⟩,fun r hr=> ?_⟩
   ·by_cases e:j=i
    ·subst e
     have:(v[j].any fun x=>S x.Value.toNat)=true:=by
      cases hb:v[j].any fun x=>S x.Value.toNat with
      |true=>rfl
      |false=>exact absurd ⟨Eo,hb⟩ hc
     rw [List.any_eq_true] at this;rw [hg];exact this
    ·exact (a5 h).2.2 j (by omega) h2 Eo
   ·refine Ev _ _ _ _ _ ?_
    rw [cond_pos (by rw [decide_eq_true_iff];omega),EA L i hlt,cu hlt,YK Z L hmem,ah,bl (by omega),a6 r hr];cases hSi:S i with
    |false=>rw [if_neg (by simp)]
    |true=>
     have:(v[i].any fun x=>S x.Value.toNat)=true:=by
      cases hb:v[i].any fun x=>S x.Value.toNat with
      |true=>rfl
      |false=>exact absurd ⟨hSi,hb⟩ hc
     rw [if_pos rfl,this];rfl
open Classical in
theorem XX:∀(m:Nat) (S:Nat→Bool) (o:List (Int×Bool)),jY v.length S≤m→Lf v.length o S→(∀j,j<v.length→S j=false→Wf v j)→
  x8 v true o=some (decide (∀i,i<v.length→Wf v i)):=by
 intro m
 induction m with
 |zero=>
  intro S o hm L hS;obtain ⟨S',o',ch',a1,a2,a3,a4,a5,a6⟩:=TB Z v.length 0 S o false (by omega) (by omega) L hS;refine Ew _ _ _ ?_;rw [cond_true,show (0:Int)=((0:Nat):Int) from rfl];refine a6 _ ?_;have:ch'=false:=by
   cases e:ch' with
   |false=>rfl
   |true=>
        rcases a4 e with h|h
        ·cases h
        ·omega
  subst this;obtain ⟨_,rfl,a7⟩:=a5 rfl;refine Ew _ _ _ ?_;rw [cond_false,Re a1]
  congr 1
  rw [decide_eq_decide];constructor
  ·intro h i hi;exact a2 i hi (h i hi)
  ·intro h i hi
   exact stuck (fun j hj Eo=>by
    obtain ⟨x,hx,VM⟩:=a7 j (by omega) hj Eo;have hg:v.getD j []=v[j]:=by rw [List.getD_eq_getElem?_getD,List.getElem?_eq_getElem hj];rfl
    have:=Z.val _ (List.getElem_mem hj) x (by rw [←hg];exact hx)
    exact ⟨x,hx,by omega,VM⟩) i (h i hi) hi
 |succ m ih=>
  intro S o hm L hS;obtain ⟨S',o',ch',a1,a2,a3,a4,a5,a6⟩:=TB Z v.length 0 S o false (by omega) (by omega) L hS;refine Ew _ _ _ ?_;rw [cond_true,show (0:Int)=((0:Nat):Int) from rfl];refine a6 _ ?_;cases hch:ch' with
  |true=>
   refine ih S' o' ?_ a1 a2;rcases a4 hch with h|h
   ·cases h
   ·omega
  |false=>
   obtain ⟨_,rfl,a7⟩:=a5 hch;refine Ew _ _ _ ?_;rw [cond_false,Re a1]
   congr 1
   rw [decide_eq_decide];constructor
   ·intro h i hi;exact a2 i hi (h i hi)
   ·intro h i hi
    exact stuck (fun j hj Eo=>by
     obtain ⟨x,hx,VM⟩:=a7 j (by omega) hj Eo;have hg:v.getD j []=v[j]:=by rw [List.getD_eq_getElem?_getD,List.getElem?_eq_getElem hj];rfl
     have:=Z.val _ (List.getElem_mem hj) x (by rw [←hg];exact hx)
     exact ⟨x,hx,by omega,VM⟩) i (h i hi) hi
theorem XW {r:Bool}:∀(k i:Nat) (o:List (Int×Bool)) (S:Nat→Bool),v.length-i=k→i≤v.length→Lf v.length o S→(∀j,j<v.length→(S j=true↔j<i))→
  (∀o,Lf v.length o (fun _=>true)→x8 v true o=some r)→BE v v.length i o=some r:=by
 have hl:=Z.len;intro k
 induction k with
 |zero=>
  intro i o S hk hi L hS hr;refine Qu _ _ _ _ ?_;rw [cond_neg (by rw [decide_eq_false_iff_not];omega)];refine hr o ⟨L.nd,fun j=> ?_,L.neg⟩;rw [L.at_ j];by_cases hj:j<v.length
  ·rw [if_pos ⟨hj,(hS j hj).2 (by omega)⟩,if_pos ⟨hj,rfl⟩]
  ·rw [if_neg (by rintro ⟨a,_⟩;exact hj a),if_neg (by rintro ⟨a,_⟩;exact hj a)]
 |succ k ih=>
  intro i o S hk hi L hS hr;refine Qu _ _ _ _ ?_;rw [cond_pos (by rw [decide_eq_true_iff];omega),iw,bl (by omega)];refine ih (i+1) _ (BT S i true) (by omega) (by omega) (Wi L (by omega)) (fun j hj=> ?_) hr;unfold BT;by_cases e:j=i
  ·simp [e]
  ·rw [if_neg e,hS j hj];omega
open Classical in
theorem SM:f347 v=some (decide (∀i,i<v.length→Wf v i)):=by
 refine e347 _ ?_;exact XW Z _ 0 [] (fun _=>false) rfl (by omega) ⟨by simp,fun i=>by rw [eS];simp,fun k _=>eS k⟩ (fun j hj=>by simp)
  fun o L=>XX Z _ (fun _=>true) o (Nat.le_refl _) L (fun j _ h=>by cases h)
theorem Kx {S:Nat→Bool} {n i:Nat} (hi:i<n):∃h:i<((List.range n).map S).length,((List.range n).map S)[i]=S i:=by
 refine ⟨by simpa using hi,by simp⟩
theorem Wk {S:Nat→Bool} {n i:Nat}:((List.range n).map S).set i true=(List.range n).map (BT S i true):=by
 apply List.ext_getElem
 ·simp
 ·intro j h1 h2
  rw [List.getElem_set];simp only [List.getElem_map,List.getElem_range,BT];by_cases e:i=j
  ·simp [e]
  ·rw [if_neg e,if_neg (fun h=>e h.symm)]
theorem TD {i:Nat} (hi:i<v.length) {S:Nat→Bool} {c:Nat} (hc:c≤1000) {more:Bool} {r:Bool}:∀(xs:List ai) (k:Nat) (all:Bool),v[i].drop k=xs→
  (if (all&&xs.all fun x=>S x.Value.toNat)=true then sD v (c+1:Nat) true (i+1:Nat) (((List.range v.length).map S).set i true) else sD v c more (i+1:Nat) ((List.range v.length).map S))=some r→
  wu v c more i all k ((List.range v.length).map S)=some r:=by
 have hl:=Z.len;have hmem:=List.getElem_mem hi;have hrl:=Z.row _ hmem;intro xs
 induction xs with
 |nil=>
  intro k all h hr;refine LV _ _ _ _ _ _ _ ?_;obtain ⟨h1,h2⟩:=Kx Z (S:=S) hi;rw [cu hi,aQ h,cond_false];rw [List.all_nil,Bool.and_true] at hr;cases all with
  |true=>rw [cond_true,jL h1,Int.toNat_natCast,fU h1,bl (by omega),bl (by omega)];simpa using hr
  |false=>rw [cond_false,bl (by omega)];simpa using hr
 |cons x xs ih=>
  intro k all h hr;refine LV _ _ _ _ _ _ _ ?_;have hx:=Z.val _ hmem x (List.mem_of_getElem? (aZ h));obtain ⟨h1,h2⟩:=Kx Z (S:=S) (n:=v.length) (i:=x.Value.toNat) (by omega);rw [cu hi,aT h,cond_true,cu hi,aM h,aN h (by omega)];cases all with
  |true=>
   rw [cond_true,aU ⟨by omega,h1⟩,fU h1,h2];refine ih (k+1) _ (az h) ?_;rw [List.all_cons,Bool.true_and] at hr;exact hr
  |false=>
   rw [cond_false];refine ih (k+1) false (az h) ?_;rw [Bool.false_and] at hr⊢;exact hr
theorem TC:∀(k i:Nat) (S:Nat→Bool) (more:Bool),v.length-i=k→i≤v.length→(∀j,j<v.length→S j=true→Wf v j)→
  ∃(S':Nat→Bool) (iN:Bool),(∀j,j<v.length→S' j=true→Wf v j)∧jY v.length S≤jY v.length S'∧
   (iN=true→more=true∨jY v.length S<jY v.length S')∧(iN=false→more=false∧S'=S∧∀j,i≤j→j<v.length→S j=false→∃x∈v.getD j [],S x.Value.toNat=false)∧
   ∀r,uI v (jY v.length S') iN ((List.range v.length).map S')=some r→sD v (jY v.length S) more i ((List.range v.length).map S)=some r:=by
 have hl:=Z.len;intro k
 induction k with
 |zero=>
  intro i S more hk hi hS;refine ⟨S,more,hS,Nat.le_refl _,fun h=> .inl h,fun h=>⟨h,rfl,fun j h1 h2=>by omega⟩,fun r hr=> ?_⟩;refine JP _ _ _ _ _ ?_;rw [cond_neg (by rw [decide_eq_false_iff_not];omega)];exact hr
 |succ k ih=>
  intro i S more hk hi hS;have hlt:i<v.length:=by omega
  have hg:v.getD i []=v[i]:=by rw [List.getD_eq_getElem?_getD,List.getElem?_eq_getElem hlt];rfl
  have hmem:v[i]∈v:=List.getElem_mem hlt;have rS:=sP v.length S;obtain ⟨g1,g2⟩:=Kx Z (S:=S) hlt;by_cases hc:S i=false∧(v[i].all fun x=>S x.Value.toNat)=true
  ·obtain ⟨hc1,vi⟩:=hc
   have hwf:Wf v i:=by
    refine .mk i fun x hx=> ?_
    rw [hg] at hx;have h0:=Z.val _ hmem x hx;rw [List.all_eq_true] at vi;exact hS _ (by omega) (vi x hx)
   have hd:=Gd hlt hc1
   obtain ⟨S',iN,a2,a3,a4,a5,a6⟩:=ih (i+1) (BT S i true) true (by omega) (by omega) (fun j hj Eo=>by
    unfold BT at Eo;by_cases e:j=i
    ·rw [e];exact hwf
    ·rw [if_neg e] at Eo;exact hS j hj Eo)
   refine ⟨S',iN,a2,by omega,fun _=> .inr (by omega),fun h=>(by have:=(a5 h).1;cases this),fun r hr=> ?_⟩;refine JP _ _ _ _ _ ?_;rw [cond_pos (by rw [decide_eq_true_iff];omega),jL g1,Int.toNat_natCast,fU g1,g2,hc1,show (0:Int)=((0:Nat):Int) from rfl];refine TD Z hlt (by omega) v[i] 0 _ rfl ?_;rw [if_pos (by rw [vi];rfl),Wk Z,←hd];exact a6 r hr
  ·obtain ⟨S',iN,a2,a3,a4,a5,a6⟩:=ih (i+1) S more (by omega) (by omega) hS
   refine ⟨S',iN,a2,a3,a4,fun h=>⟨(a5 h).1,(a5 h).2.1,fun j h1 h2 Eo=> ?_⟩,fun r hr=> ?_⟩
   ·by_cases e:j=i
    ·subst e
     have:(v[j].all fun x=>S x.Value.toNat)=false:=by
      cases hb:v[j].all fun x=>S x.Value.toNat with
      |false=>rfl
      |true=>exact absurd ⟨Eo,hb⟩ hc
     rw [List.all_eq_false] at this;obtain ⟨x,hx,VM⟩:=this;rw [hg];exact ⟨x,hx,by simpa using VM⟩
    ·exact (a5 h).2.2 j (by omega) h2 Eo
   ·refine JP _ _ _ _ _ ?_
    rw [cond_pos (by rw [decide_eq_true_iff];omega),jL g1,Int.toNat_natCast,fU g1,g2,show (0:Int)=((0:Nat):Int) from rfl];refine TD Z hlt (by omega) v[i] 0 _ rfl ?_
    rw [if_neg (by
     intro hh;rw [Bool.and_eq_true,Bool.not_eq_true'] at hh
     exact hc hh)]
    exact a6 r hr
open Classical in
theorem XY:∀(m:Nat) (S:Nat→Bool),v.length-jY v.length S≤m→(∀j,j<v.length→S j=true→Wf v j)→
  uI v (jY v.length S) true ((List.range v.length).map S)=some (decide (∀i,i<v.length→Wf v i)):=by
 have fin:∀(S:Nat→Bool),(∀j,j<v.length→S j=true→Wf v j)→(∀j,j<v.length→S j=false→∃x∈v.getD j [],S x.Value.toNat=false)→uI v (jY v.length S) false ((List.range v.length).map S)=some (decide (∀i,i<v.length→Wf v i)):=by
  intro S a2 a7;refine JO _ _ _ _ ?_;rw [cond_false]
  congr 1
  rw [Bool.eq_iff_iff,beq_iff_eq,decide_eq_true_iff];constructor
  ·intro h i hi
   exact a2 i hi (CP.1 (by omega) i hi)
  ·intro h
   have:jY v.length S=v.length:=CP.2 fun i hi=>by
    have:=stuck (S:=fun j=> !S j) (fun j hj Eo=>by
     obtain ⟨x,hx,VM⟩:=a7 j hj (by simpa using Eo);have hg:v.getD j []=v[j]:=by rw [List.getD_eq_getElem?_getD,List.getElem?_eq_getElem hj];rfl
     have:=Z.val _ (List.getElem_mem hj) x (by rw [←hg];exact hx)
     exact ⟨x,hx,by omega,by simp [VM]⟩) i (h i hi) hi
    simpa using this
   rw [this]
 intro m
 induction m with
 |zero=>
  intro S hm hS;have rS:=sP v.length S;obtain ⟨S',iN,a2,a3,a4,a5,a6⟩:=TC Z v.length 0 S false (by omega) (by omega) hS;have hcl':=sP v.length S';refine JO _ _ _ _ ?_;rw [cond_true,show (0:Int)=((0:Nat):Int) from rfl];refine a6 _ ?_;cases e:iN with
  |false=>
   obtain ⟨_,rfl,a7⟩:=a5 e;exact fin _ a2 fun j hj=>a7 j (by omega) hj
  |true=>
   rcases a4 e with h|h
   ·cases h
   ·omega
 |succ m ih=>
  intro S hm hS;have rS:=sP v.length S;obtain ⟨S',iN,a2,a3,a4,a5,a6⟩:=TC Z v.length 0 S false (by omega) (by omega) hS;have hcl':=sP v.length S';refine JO _ _ _ _ ?_;rw [cond_true,show (0:Int)=((0:Nat):Int) from rfl];refine a6 _ ?_;cases e:iN with
  |false=>
   obtain ⟨_,rfl,a7⟩:=a5 e;exact fin _ a2 fun j hj=>a7 j (by omega) hj
  |true=>
   refine ih S' ?_ a2;rcases a4 e with h|h
   ·cases h
   ·omega
open Classical in
theorem c348:f348 v=some (decide (∀i,i<v.length→Wf v i)):=by
 have hl:=Z.len;refine e348 _ ?_;rw [aU (by omega)];have h0:jY v.length (fun _=>false)=0:=by simp [jY]
 have:=XY Z v.length (fun _=>false) (by omega) (fun j _ h=>by cases h);rw [h0] at this;have e:(List.range v.length).map (fun _=>false)=List.replicate (Int.toNat (v.length:Int)) false:=by
  rw [Int.toNat_natCast,List.map_const',List.length_range]
 rw [e] at this;exact this
end
variable [tA]
theorem XL {v:List (List ai)} {i:Nat} (hv:v.length≤40) {r:List ai} (hr:r.length≤20) (hi:i<1000):∀(xs:List ai) (k:Nat),r.drop k=xs→((∀x∈xs,0≤x.Value∧x.Value<(v.length:Int))→uF v v.length (i+1:Nat)=some true)→
  By v v.length i r r.length k=some true:=by
 intro xs
 induction xs with
 |nil=>
  intro k h hn;refine Qe _ _ _ _ _ _ ?_;rw [aQ h,cond_false,bl (by omega)];exact hn fun x hx=>by cases hx
 |cons x xs ih=>
  intro k h hn;refine Qe _ _ _ _ _ _ ?_;rw [aT h,cond_true,aM h,wP,ah];by_cases h1:x.Value<0
  ·rw [cond_pos (by simpa using h1)]
  ·rw [cond_neg (by simpa using h1)]
   by_cases h2:x.Value≥(v.length:Int)
   ·rw [cond_pos (by simpa using h2)]
   ·rw [cond_neg (by simpa using h2),aN h (by omega)]
    refine ih (k+1) (az h) fun hx=>hn fun y hy=> ?_
    rcases List.mem_cons.1 hy with rfl|hy
    ·omega
    ·exact hx y hy
theorem h303 {v:List (List ai)} (hv:v.length≤40):∀(xs:List (List ai)) (i:Nat),v.drop i=xs→((∀r∈xs,r.length≤20∧∀x∈r,0≤x.Value∧x.Value<(v.length:Int))→uF v v.length v.length=some true)→i≤v.length→uF v v.length i=some true:=by
 intro xs
 induction xs with
 |nil=>
  intro i h hn hi;have:i=v.length:=by have:=dJ h;omega
  subst this;exact hn fun r hr=>by cases hr
 |cons r xs ih=>
  intro i h hn hi;refine Qd _ _ _ ?_;have hlt:=bN h;rw [aT h,cond_true,aM h,wP,ah,aM h];by_cases h1:r.length>20
  ·rw [cond_pos (by rw [decide_eq_true_iff];omega)]
  ·rw [cond_neg (by rw [decide_eq_false_iff_not];omega),show (0:Int)=((0:Nat):Int) from rfl]
   refine XL hv (by omega) (by omega) r 0 rfl fun hx=>ih (i+1) (az h) (fun hh=>hn fun s hs=> ?_) (bN h)
   rcases List.mem_cons.1 hs with rfl|hs
   ·exact ⟨by omega,hx⟩
   ·exact hh s hs
theorem Wc {v:List (List ai)}:f303 v=some true:=by
 refine e303 _ ?_;rw [wP,ah];by_cases hv:v.length≤40
 ·rw [cond_neg (by rw [decide_eq_false_iff_not];omega),show (0:Int)=((0:Nat):Int) from rfl]
  refine h303 hv v 0 rfl (fun hh=> ?_) (by omega);have Z:Vz v:=⟨by omega,fun r hr=>(hh r hr).1,fun r hr=>(hh r hr).2⟩
  refine Qd _ _ _ ?_;rw [cond_neg (by simp),SM Z,c348 Z,ah,ah,wP,cond_pos (by simp)];rfl
 ·rw [cond_pos (by rw [decide_eq_true_iff];omega)]
end Go.Proofs.YtmidjldjkbljjaaGreatDoor.cl
set_option linter.unusedVariables false
set_option linter.unusedSimpArgs false
set_option linter.unusedSectionVars false
namespace Go.Proofs.YtmidjldjkbljjaaGreatDoor.cl
open Go Go.AM
theorem CV {d:List af} {w:Nat} {F:aS}:∀(xs:List af) (o:Option Nat),
  ((xs.foldl (sC d w F) o).isSome=true↔o.isSome=true∨∃t∈xs,(val t F).isSome=true∧sub w (cwd d t.Name)=true)∧
  ∀c,xs.foldl (sC d w F) o=some c→∀i,c.testBit i=true↔(∀a,o=some a→a.testBit i=true)∧∀t∈xs,∀v,val t F=some v→sub w (cwd d t.Name)=true→(cwd d v).testBit i=true:=by
 intro xs
 induction xs with
 |nil=>
  intro o;refine ⟨by simp,fun c hc i=> ?_⟩;rw [List.foldl_nil] at hc;subst hc;simp
 |cons t xs ih=>
  intro o;obtain ⟨h1,h2⟩:=ih (sC d w F o t);rw [List.foldl_cons];cases hv:val t F with
  |none=>
   have e:sC d w F o t=o:=by unfold sC;rw [hv]
   rw [e] at h1 h2⊢;constructor
   ·rw [h1]
    constructor
    ·rintro (h|⟨u,hu,h⟩)
     ·exact .inl h
     ·exact .inr ⟨u,by simp [hu],h⟩
    ·rintro (h|⟨u,hu,h⟩)
     ·exact .inl h
     ·rcases List.mem_cons.1 hu with rfl|hu
      ·rw [hv] at h;simp at h
      ·exact .inr ⟨u,hu,h⟩
   ·intro c hc i
    rw [h2 c hc i];constructor
    ·rintro ⟨a,b⟩
     refine ⟨a,fun u hu v GU hs=> ?_⟩;rcases List.mem_cons.1 hu with rfl|hu
     ·rw [hv] at GU;cases GU
     ·exact b u hu v GU hs
    ·rintro ⟨a,b⟩
     exact ⟨a,fun u hu v GU hs=>b u (by simp [hu]) v GU hs⟩
  |some v=>
   cases hs:sub w (cwd d t.Name) with
   |false=>
    have e:sC d w F o t=o:=by unfold sC;rw [hv,hs];simp
    rw [e] at h1 h2⊢;constructor
    ·rw [h1]
     constructor
     ·rintro (h|⟨u,hu,h⟩)
      ·exact .inl h
      ·exact .inr ⟨u,by simp [hu],h⟩
     ·rintro (h|⟨u,hu,h⟩)
      ·exact .inl h
      ·rcases List.mem_cons.1 hu with rfl|hu
       ·rw [hs] at h;simp at h
       ·exact .inr ⟨u,hu,h⟩
    ·intro c hc i
     rw [h2 c hc i];constructor
     ·rintro ⟨a,b⟩
      refine ⟨a,fun u hu v GU hsu=> ?_⟩;rcases List.mem_cons.1 hu with rfl|hu
      ·rw [hs] at hsu;cases hsu
      ·exact b u hu v GU hsu
     ·rintro ⟨a,b⟩
      exact ⟨a,fun u hu v GU hsu=>b u (by simp [hu]) v GU hsu⟩
   |true=>
    have e:sC d w F o t=some (comb o (cwd d v)):=by unfold sC;rw [hv,hs];cases o<;>rfl
    rw [e] at h1 h2⊢;have Yd:∀i,(comb o (cwd d v)).testBit i=true↔(∀a,o=some a→a.testBit i=true)∧(cwd d v).testBit i=true:=by
     intro i;cases o with
     |none=>simp [comb]
     |some a=>simp [comb,Nat.testBit_and]
    constructor
    ·rw [h1]
     constructor
     ·intro _;exact .inr ⟨t,by simp,by rw [hv];rfl,hs⟩
     ·intro _;exact .inl rfl
    ·intro c hc i
     rw [h2 c hc i];constructor
     ·rintro ⟨a,b⟩
      have ha:=(Yd i).1 (a _ rfl);refine ⟨ha.1,fun u hu v' GU hsu=> ?_⟩;rcases List.mem_cons.1 hu with rfl|hu
      ·rw [hv] at GU
       injection GU with GU
       rw [←GU];exact ha.2
      ·exact b u hu v' GU hsu
     ·rintro ⟨a,b⟩
      refine ⟨fun x hx=> ?_,fun u hu v' GU hsu=>b u (by simp [hu]) v' GU hsu⟩;injection hx with hx
      rw [←hx];exact (Yd i).2 ⟨a,b t (by simp) v hv hs⟩
theorem vn {d:List af} {w:Nat} {F:aS}:(inh d w F).isSome=true↔∃t∈d,(val t F).isSome=true∧sub w (cwd d t.Name)=true:=by
 have:=(CV (d:=d) (w:=w) (F:=F) d none).1;unfold inh;rw [this];simp
theorem zC {d:List af} {w:Nat} {F:aS} {c:Nat} (h:inh d w F=some c) (i:Nat):c.testBit i=true↔∀t∈d,∀v,val t F=some v→sub w (cwd d t.Name)=true→(cwd d v).testBit i=true:=by
 rw [(CV (d:=d) (w:=w) (F:=F) d none).2 c h i];exact ⟨fun h=>h.2,fun h=>⟨fun a ha=>(by cases ha),h⟩⟩
theorem PL {d:List af} {w v:Nat} {F:aS} {a b:Nat} (hs:sub v w=true) (ha:inh d w F=some a) (hb:inh d v F=some b):sub b a=true:=by
 rw [ga];intro i hi;rw [zC ha];intro t ht x hx hw;exact (zC hb i).1 hi t ht x hx (s7 hs hw)
theorem VT {d:List af} {w v:Nat} {F:aS} (hs:sub v w=true) (h:(inh d w F).isSome=true):(inh d v F).isSome=true:=by
 rw [vn] at h⊢;obtain ⟨t,ht,h1,h2⟩:=h;exact ⟨t,ht,h1,s7 hs h2⟩
theorem Np {d:List af} (A:Acc d) {w:Nat} {F u:aS} (h:nA d F=some u):(inh d w F).isSome=sub w (cwd d u):=by
 obtain ⟨h1,h2⟩:=(pM A).1 h;rw [Bool.eq_iff_iff,vn];constructor
 ·rintro ⟨t,ht,hv,hs⟩
  have hu:t.Name∈dB d F:=pW.2 ⟨t,ht,hv,rfl⟩;exact s7 hs ((uc (lp hu)).2 (h2 _ hu))
 ·intro hs
  obtain ⟨t,ht,hv,rfl⟩:=pW.1 h1;exact ⟨t,ht,hv,hs⟩
theorem ME.num {d:List af} (O:ME d) {w:Nat} (hw:w∈tys d) {F:aS} (hF:F∈dM d) {c:Nat} (h:inh d w F=some c):∃q:Nat,FM (tys d) c=(q:Int)∧q<(tys d).length∧(tys d).getD q 0=c:=by
 rcases JJ O.ok (wH O.fd) h with h0|h0
 ·rw [h0] at h;exact absurd h (O.vals w hw F hF)
 ·obtain ⟨q,h1,h2,h3⟩:=zA h0
  exact ⟨q,h3,h1,h2⟩
theorem h360 {l:List ai} (hl:l.length≤1000000) (f:Int):∀(xs:List ai) (i:Nat),l.drop i=xs→BH f l l.length i=some (match xs.find? fun x=>x.ct==f with|some x=>(x.Value,true)|none=>(0,false)):=by
 intro xs
 induction xs with
 |nil=>intro i h;refine Qz _ _ _ _ ?_;rw [aQ h];rfl
 |cons x xs ih=>
  intro i h;refine Qz _ _ _ _ ?_;rw [aT h,cond_true,aM h,aN h (by omega),ih (i+1) (az h),List.find?_cons];cases x.ct==f<;>rfl
theorem c360 {l:List ai} (hl:l.length≤1000000) (f:Int):f360 l f=some (match l.find? fun x=>x.ct==f with|some x=>(x.Value,true)|none=>(0,false)):=
 e360 _ _ (h360 hl f l 0 rfl)
theorem Tg {d:List af} {w:Nat}:∀(l:List aS) (k:Nat),∀x∈me d w l k,(k:Int)≤x.ct:=by
 intro l
 induction l with
 |nil=>intro k x hx;cases hx
 |cons F l ih=>
  intro k x hx;unfold me at hx;cases h:inh d w F with
  |none=>
   rw [h] at hx;have:=ih (k+1) x hx;omega
  |some c=>
   rw [h] at hx;rcases List.mem_cons.1 hx with rfl|hx
   ·simp
   ·have:=ih (k+1) x hx
    omega
theorem NN {d:List af} {w:Nat}:∀(l:List aS) (k j:Nat) (F:aS),l[j]? =some F→(me d w l k).find? (fun x=>x.ct==((k+j:Nat):Int))=(inh d w F).map fun c=>(⟨((k+j:Nat):Int),FM (tys d) c⟩:ai):=by
 intro l
 induction l with
 |nil=>intro k j F h;simp at h
 |cons G l ih=>
  intro k j F h;unfold me;cases j with
  |zero=>
   have:G=F:=by simpa using h
   subst this;cases hG:inh d w G with
   |none=>
    simp only [Option.map_none];rw [List.find?_eq_none];intro x hx;have:=Tg l (k+1) x hx;simp only [beq_iff_eq];omega
   |some c=>
    simp only [List.find?_cons,Nat.add_zero,beq_self_eq_true,Option.map_some]
  |succ j=>
   have h':l[j]? =some F:=by simpa using h
   have hr:=ih (k+1) j F h';have e:k+1+j=k+(j+1):=by omega
   rw [e] at hr;cases hG:inh d w G with
   |none=>exact hr
   |some c=>
    simp only [List.find?_cons];rw [show ((k:Int)==((k+(j+1):Nat):Int))=false by rw [beq_eq_false_iff_ne];omega];exact hr
theorem BY {d:List af} {T:Nat} (hT:T<(tys d).length):∃h:T<(gU d).length,(gU d)[T]=me d ((tys d).getD T 0) (dM d) 0:=by
 refine ⟨by rw [tn];exact hT,?_⟩;unfold gU;rw [List.getElem_map]
 congr 1
 rw [List.getD_eq_getElem?_getD,List.getElem?_eq_getElem hT];rfl
theorem Wo {d:List af} (O:ME d) {w:Nat} {j:Nat} {F:aS} (h:(dM d)[j]? =some F):f360 (me d w (dM d) 0) j=some (match inh d w F with|some c=>(FM (tys d) c,true)|none=>(0,false)):=by
 have hl:=y7 (d:=d) (w:=w) (dM d) 0;have h64:=O.f64;rw [c360 (by omega)];have:=NN (d:=d) (w:=w) (dM d) 0 j F h;rw [Nat.zero_add] at this;rw [this];cases inh d w F<;>rfl
theorem sV {d:List af} {j:Nat} {F:aS} (h:(dM d)[j]? =some F):∃hj:j<(eX d).length,(eX d)[j]=Aj d F:=by
 obtain ⟨hj,e⟩:=List.getElem?_eq_some_iff.1 h;refine ⟨by rw [kW];exact hj,?_⟩;unfold eX;rw [List.getElem_map,e]
section
variable [tA]
variable {d:List af} (O:ME d)
include O
theorem TA {T j:Nat} (hT:T<(tys d).length) {F:aS} (hj:(dM d)[j]? =some F) {x:Int} {is:Bool} (hx:is=true→∃c q,inh d ((tys d).getD T 0) F=some c∧x=(q:Nat)∧q<(tys d).length∧(tys d).getD q 0=c) {v33 v38:Nat} (hj38:j<1000000)
  (hr:td (ff d) (eX d) (gU d) T v33 T v38 (j+1:Nat)=some true):∀(n s:Nat),(tys d).length-s=n→s≤(tys d).length→
  mQ (ff d) (eX d) (gU d) T j x is v33 T v38 j (ff d).length s=some true:=by
 have hl:=O.ok.bQ;have rS:=cS (d:=d);intro n
 induction n with
 |zero=>
  intro s hs hle;refine LL _ _ _ _ _ _ _ _ _ _ _ _ _ ?_;rw [cond_neg (by rw [decide_eq_false_iff_not];omega),bl (by omega)];exact hr
 |succ n ih=>
  intro s hs hle;refine LL _ _ _ _ _ _ _ _ _ _ _ _ _ ?_;have hlt:s<(tys d).length:=by omega
  rw [cond_pos (by rw [decide_eq_true_iff];omega),bl (by omega),ih (s+1) (by omega) (by omega)];cases his:is with
  |false=>rfl
  |true=>
   obtain ⟨c,q,h1,h2,h3,h4⟩:=hx his;rw [Bool.not_true,cond_false,pZ O.ok.cd hT hlt,ah];cases hsub:sub ((tys d).getD s 0) ((tys d).getD T 0) with
   |false=>rfl
   |true=>
    obtain ⟨g1,g2⟩:=BY hlt;have hsome:(inh d ((tys d).getD s 0) F).isSome=true:=VT hsub (by rw [h1];rfl);cases hin:inh d ((tys d).getD s 0) F with
    |none=>rw [hin] at hsome;cases hsome
    |some c'=>
     have hF:F∈dM d:=List.mem_of_getElem? hj;obtain ⟨q',e1,e2,e3⟩:=O.num (gW hlt) hF hin;have h36:f360 (me d ((tys d).getD s 0) (dM d) 0) j=some ((q':Int),true):=by
      rw [Wo O hj,hin];show some (FM (tys d) c',true)=_;rw [e1]
     rw [Bool.not_true,cond_false,cu g1,g2,h36,ah];simp only [Bool.not_true,cond_false];rw [cond_neg (by rw [decide_eq_false_iff_not];omega),cond_neg (by rw [decide_eq_false_iff_not];omega),h2,pZ O.ok.cd h3 e2,ah,e3,h4,PL hsub h1 hin];rfl
theorem XM {T:Nat} (hT:T<(tys d).length) {v33:Nat} (hr:x4 (ff d) (eX d) (gU d) v33 (T+1:Nat)=some true):∀(xs:List aS) (j:Nat),(dM d).drop j=xs→
  td (ff d) (eX d) (gU d) T v33 T (eX d).length j=some true:=by
 have hl:=O.ok.bQ;have hf:=O.f64;have rS:=cS (d:=d);intro xs
 induction xs with
 |nil=>
  intro j h;refine LK _ _ _ _ _ _ _ _ ?_;rw [kW,aQ h,cond_false,bl (by omega)];exact hr
 |cons F xs ih=>
  intro j h;refine LK _ _ _ _ _ _ _ _ ?_;have hj:=aZ h;have hjl:=bN h;obtain ⟨g1,g2⟩:=BY hT;obtain ⟨g3,g4⟩:=sV hj;have hF:F∈dM d:=List.mem_of_getElem? hj;obtain ⟨u,hu⟩:=O.intro F hF;have hun:=As O.ok.acc hu;have hs:=O.ok.iz hun;have Ng:Aj d F=⟨F,(nu d u:Int)⟩:=by unfold Aj;rw [hu];rfl
  have hii:=Np O.ok.acc (w:=(tys d).getD T 0) hu;have hnext:=ih (j+1) (az h);have h36:=Wo O (w:=(tys d).getD T 0) hj
  rw [cond_pos (by rw [kW,decide_eq_true_iff];omega),cu g1,g2,h36,ah,cu g3,g4,Ng,cond_neg (by rw [decide_eq_false_iff_not];show¬((nu d u:Int)<0);omega),cu g3,g4,Ng,
   cond_neg (by rw [decide_eq_false_iff_not];show¬((nu d u:Int)≥_);omega),cu g3,g4,Ng]
  have h24:f24 (ff d) (nu d u:Int) T=some (sub ((tys d).getD T 0) (cwd d u)):=by rw [pZ O.ok.cd hs.2.1 hT,hs.2.2.1]
  show Option.bind (f24 (ff d) (nu d u:Int) T) _=_;rw [h24,ah,←hii];cases hin:inh d ((tys d).getD T 0) F with
  |none=>
   simp only [Option.isSome_none];rw [cond_neg (by rfl),cond_false];exact TA O hT hj (fun h=>by cases h) (by omega) hnext _ 0 rfl (by omega)
  |some c=>
   obtain ⟨q,e1,e2,e3⟩:=O.num (gW hT) hF hin;simp only [Option.isSome_some,e1];rw [cond_neg (by rfl),cond_true,cond_neg (by rw [decide_eq_false_iff_not];omega),cond_neg (by rw [decide_eq_false_iff_not];omega)];exact TA O hT hj (fun _=>⟨c,q,hin,rfl,e2,e3⟩) (by omega) hnext _ 0 rfl (by omega)
theorem h304:∀(n T:Nat),(tys d).length-T=n→T≤(tys d).length→x4 (ff d) (eX d) (gU d) (ff d).length T=some true:=by
 have hl:=O.ok.bQ;have rS:=cS (d:=d);intro n
 induction n with
 |zero=>
  intro T hT hle;refine Qf _ _ _ _ _ ?_;rw [cond_neg (by rw [decide_eq_false_iff_not];omega),wP];rfl
 |succ n ih=>
  intro T hT hle;refine Qf _ _ _ _ _ ?_;rw [cond_pos (by rw [decide_eq_true_iff];omega),show (0:Int)=((0:Nat):Int) from rfl];exact XM O (by omega) (ih (T+1) (by omega) (by omega)) (dM d) 0 rfl
end
theorem Xm {d:List af} (z:Sz d) (h64:d.length≤64) (hf:Fz d) (h:gZ d=0):f325 d=some (ff d,eX d,gU d,true):=by
 obtain ⟨O,h0,h1⟩:=r5 z h64 hf h;refine e325 _ ?_;rw [UR z h64,if_neg (by simpa using h0),if_neg h1,ah,SK z h64 hf,if_pos h,ah,SL z h64 hf,if_pos h,ah,cond_pos (by simp),cond_pos (by simp),cond_pos (by simp)];have:((gU d).length:Int)==((List.map qg (bL d)).length:Int):=by
  rw [beq_iff_eq,tn];have:=cS (d:=d);unfold ff at this;omega
 rw [this];rfl
theorem Wd [tA] {d:List af}:f304 d=some true:=by
 refine e304 _ ?_;rw [MO,ah,wP];cases hL:(kn d&&decide (d.length≤12)) with
 |false=>rfl
 |true=>
  obtain ⟨z,hlen,hf⟩:=sZ hL;rw [Bool.not_true,cond_false,OE z (by omega) hf,ah];by_cases h0:gZ d=0
  ·obtain ⟨O,_,_⟩:=r5 z (by omega) hf h0
   rw [cond_neg (by simpa using h0),Xm z (by omega) hf h0,ah,Bool.not_true,cond_false];exact h304 O _ 0 rfl (by omega)
  ·rw [cond_pos (by simpa using h0)];rfl
theorem h349 {l:List ak} (hl:l.length≤1048576) (x:aS):∀(xs:List ak) (i:Nat),l.drop i=xs→BF l x l.length i=some (bJ (fun c=>c.Name==x) xs i):=by
 intro xs
 induction xs with
 |nil=>intro i h;refine Qv _ _ _ _ ?_;rw [aQ h];rfl
 |cons y xs ih=>
  intro i h;refine Qv _ _ _ _ ?_;rw [aT h,cond_true,aM h,aN h (by omega),ih (i+1) (az h),bJ];cases y.Name==x<;>rfl
theorem YW {d:List af} (O:Ok d) {x:aS} (hx:x∈cK d):f349 (ff d) x=some (nu d x:Int):=by
 have hl:=O.bQ;rw [←cS] at hl;refine e349 _ _ ((h349 (l:=ff d) (by omega) x (ff d) 0 rfl).trans ?_);rw [(O.iz hx).1]
theorem h361 {l:List aF} (hl:l.length≤1048576) (x:aS):∀(xs:List aF) (i:Nat),l.drop i=xs→BI l x l.length i=some (bJ (fun c=>c.Name==x) xs i):=by
 intro xs
 induction xs with
 |nil=>intro i h;refine QA _ _ _ _ ?_;rw [aQ h];rfl
 |cons y xs ih=>
  intro i h;refine QA _ _ _ _ ?_;rw [aT h,cond_true,aM h,aN h (by omega),ih (i+1) (az h),bJ];cases y.Name==x<;>rfl
theorem c361 {l:List aF} (hl:l.length≤1048576) (x:aS):f361 l x=some (bJ (fun c=>c.Name==x) l 0):=e361 _ _ (h361 hl x l 0 rfl)
theorem VV {α β:Type} (g:α→β) (p:β→Bool):∀(l:List α) (i:Nat),bJ p (l.map g) i=bJ (fun x=>p (g x)) l i:=by
 intro l
 induction l with
 |nil=>intro i;rfl
 |cons x l ih=>intro i;rw [List.map_cons,bJ,bJ,ih]
theorem YN {l:List aS} (hn:l.Nodup) {j:Nat} (hj:j<l.length):bJ (fun y=>y==l[j]) l 0=(j:Int):=by
 obtain ⟨q,hq,e1,e2,_⟩:=vr (fun y=>y==l[j]) l 0 ⟨l[j],List.getElem_mem hj,by simp⟩;rw [e1,Nat.zero_add];have:=vz hn hq hj (by simpa using e2);rw [this]
theorem o361 {d:List af} (O:ME d) {j:Nat} {F:aS} (h:(dM d)[j]? =some F):f361 (eX d) F=some (j:Int):=by
 have h64:=O.f64;obtain ⟨hj,e⟩:=List.getElem?_eq_some_iff.1 h;rw [c361 (by rw [kW];omega),eX,VV];have hnd:(dM d).Nodup:=(cU (Ah d)).nodup;have:=YN hnd hj;rw [e] at this;exact congrArg some this
theorem Wm {d:List af} (O:Ok d) {x y:aS} (hx:x∈cK d) (hy:y∈cK d) (h:nu d x=nu d y):x=y:=by
 obtain ⟨_,_,_,h1,e1⟩:=O.iz hx;obtain ⟨_,_,_,h2,e2⟩:=O.iz hy;have:(ff d)[nu d x].Name=(ff d)[nu d y].Name:=by congr 2
 rw [←e1,this,e2]
section
variable [tA]
variable {d:List af} (O:ME d)
include O
theorem SO {t:af} (ht:t∈d) {x:aq} (hx:x∈t.bz) (hi:nA d x.ct=some t.Name):inh d (cwd d t.Name) x.ct=some (cwd d x.Value):=by
 have hnd:=((nw _ d).1 O.fd t ht).2;have hv:=BW hnd hx;have hsome:(inh d (cwd d t.Name) x.ct).isSome=true:=vn.2 ⟨t,ht,by rw [hv];rfl,mh _⟩;cases hin:inh d (cwd d t.Name) x.ct with
 |none=>rw [hin] at hsome;cases hsome
 |some c=>
  congr 1
  apply Nat.eq_of_testBit_eq;intro i;rw [Bool.eq_iff_iff,zC hin];constructor
  ·intro h;exact h t ht _ hv (mh _)
  ·intro h u hu v huv hs
   have hU:u.Name∈dB d x.ct:=pW.2 ⟨u,hu,by rw [huv];rfl,rfl⟩;have h1:=((pM O.ok.acc).1 hi).2 _ hU;have h2:=(uc (jt ht)).1 hs;have e:=le_antisymm O.ok.acc h1 h2;have:t=u:=Rs O.ok.acc.nd ht hu e;subst this;rw [hv] at huv;injection huv with huv
   rw [←huv];exact h
theorem XO {o:List Bool} (ho:o.length=(dM d).length):(∀(j:Nat) (hj:j<o.length),o[j]=true)→∀(n j:Nat),(dM d).length-j=n→j≤(dM d).length→tf (eX d) o.length j o=some true:=by
 have h64:=O.f64;intro hall n
 induction n with
 |zero=>
  intro j hn hle;refine LN _ _ _ _ ?_;rw [cond_neg (by rw [decide_eq_false_iff_not];omega),wP];rfl
 |succ n ih=>
  intro j hn hle;refine LN _ _ _ _ ?_;have hj:j<o.length:=by omega
  have WM:j<(dM d).length:=by omega
  rw [cond_pos (by rw [decide_eq_true_iff];omega),jL hj,Int.toNat_natCast,fU hj,hall j hj,Bool.not_true,cond_false,bl (by omega),ih (j+1) (by omega) (by omega)];by_cases h0:j=0
  ·subst h0;rw [cond_neg (by simp)]
  ·obtain ⟨k,rfl⟩:∃k,j=k+1:=⟨j-1,by omega⟩
   obtain ⟨g1,g2⟩:=sV (List.getElem?_eq_getElem WM);obtain ⟨g3,g4⟩:=sV (List.getElem?_eq_getElem (show k<(dM d).length by omega));have hS:=Tt (cU (Ah d)) (i:=k+1) (j:=k) WM (show k<(dM d).length by omega);have hne:(dM d)[k+1]≠(dM d)[k]:=fun e=>by
    have:=vz (cU (Ah d)).nodup WM (show k<(dM d).length by omega) e;omega
   rw [cond_pos (by rw [decide_eq_true_iff];omega),cu g1,qe (by omega),cu g3,g2,g4,cond_neg (by
    rw [Bool.or_eq_false_iff];constructor
    ·show Op.bytesLess (dM d)[k+1] (dM d)[k]=false
     rw [show (dM d)[k+1]=(eU (Ah d))[k+1] from rfl,show (dM d)[k]=(eU (Ah d))[k] from rfl,hS,decide_eq_false_iff_not];omega
    ·show ((dM d)[k+1]==(dM d)[k])=false
     simpa using hne)]
theorem XN {i:Nat} (hi:i<1000000) {t:af} (ht:t∈d) {v39:Nat} {Q:Nat→Prop}
  (hr:∀o:List Bool,o.length=(dM d).length→(∀j (hj:j<o.length),o[j]=true∨Q j)→x5 d (ff d) (eX d) (gU d) v39 (i+1:Nat) o=some true):∀(xs:List aq) (k:Nat) (o:List Bool),t.bz.drop k=xs→o.length=(dM d).length→
  (∀j (hj:j<o.length),o[j]=true∨(∃x∈xs,(dM d)[j]? =some x.ct∧nA d x.ct=some t.Name)∨Q j)→jb d (ff d) (eX d) (gU d) (nu d t.Name) v39 i t.bz t.bz.length k o=some true:=by
 have htl:=O.fz t ht;have h64:=O.f64;have hl:=O.ok.bQ;have rS:=cS (d:=d);have WU:=jt ht;intro xs
 induction xs with
 |nil=>
  intro k o h ho hQ;refine LM _ _ _ _ _ _ _ _ _ _ _ ?_;rw [aQ h,cond_false,bl (by omega)];refine hr o ho fun j hj=> ?_
  rcases hQ j hj with h|⟨x,hx,_⟩|h
  ·exact .inl h
  ·cases hx
  ·exact .inr h
 |cons x xs ih=>
  intro k o h ho hQ;refine LM _ _ _ _ _ _ _ _ _ _ _ ?_;have hx:x∈t.bz:=List.mem_of_getElem? (aZ h);have hFm:x.ct∈dM d:=S0.2 ⟨t,ht,x,hx,rfl⟩;obtain ⟨n,hn,hne⟩:=List.mem_iff_getElem.1 hFm;have hn':(dM d)[n]? =some x.ct:=by rw [List.getElem?_eq_getElem hn,hne]
  have oV:x.Value∈cK d:=wH O.fd t ht x hx;have hnd:=((nw _ d).1 O.fd t ht).2;have hv:=BW hnd hx;have hs:=O.ok.iz WU;have PE:=O.ok.iz oV;obtain ⟨g1,g2⟩:=BY hs.2.1;obtain ⟨g3,g4⟩:=sV hn';obtain ⟨u,hu⟩:=O.intro _ hFm;have hun:=As O.ok.acc hu;have Ng:Aj d x.ct=⟨x.ct,(nu d u:Int)⟩:=by unfold Aj;rw [hu];rfl
  have hsome:(inh d (cwd d t.Name) x.ct).isSome=true:=vn.2 ⟨t,ht,by rw [hv];rfl,mh _⟩;cases hin:inh d (cwd d t.Name) x.ct with
  |none=>rw [hin] at hsome;cases hsome
  |some c=>
   obtain ⟨q,e1,e2,e3⟩:=O.num (O.ok.ON WU) hFm hin;have hsub:sub c (cwd d x.Value)=true:=ga.2 fun i hi=>(zC hin i).1 hi t ht _ hv (mh _)
   have hno:n<o.length:=by omega
   have vk:∀b:Bool,b=(o[n]||((nu d u:Int)==(nu d t.Name:Int)))→jb d (ff d) (eX d) (gU d) (nu d t.Name) v39 i t.bz t.bz.length (k+1:Nat) (o.set n b)=some true:=by
    intro b hb;refine ih (k+1) _ (az h) (by rw [List.length_set];exact ho) fun j hj=> ?_
    rw [List.length_set] at hj;rw [List.getElem_set];by_cases e:n=j
    ·subst e
     rw [if_pos rfl,hb];rcases hQ n hno with h1|⟨y,hy,h1,h2⟩|h1
     ·left;rw [h1];rfl
     ·rcases List.mem_cons.1 hy with rfl|hy
      ·left
       rw [hu] at h2;injection h2 with h2
       rw [h2];simp
      ·exact .inr (.inl ⟨y,hy,h1,h2⟩)
     ·exact .inr (.inr h1)
    ·rw [if_neg e]
     rcases hQ j hj with h1|⟨y,hy,h1,h2⟩|h1
     ·exact .inl h1
     ·rcases List.mem_cons.1 hy with rfl|hy
      ·exfalso
       rw [List.getElem?_eq_getElem (by omega)] at h1;injection h1 with h1
       exact e (vz (cU (Ah d)).nodup hn (by rw [ho] at hj;exact hj) (by
        show (dM d)[n]=(dM d)[j]
        rw [hne,h1]))
      ·exact .inr (.inl ⟨y,hy,h1,h2⟩)
     ·exact .inr (.inr h1)
   have h36:f360 (me d (cwd d t.Name) (dM d) 0) n=some ((q:Int),true):=by
    rw [Wo O hn',hin];show some (FM (tys d) c,true)=_;rw [e1]
   rw [aT h,cond_true,aM h,o361 O hn',ah,YW O.ok oV,ah,cond_neg (by rw [decide_eq_false_iff_not];omega),cu g1,g2,hs.2.2.1,h36,ah];simp only [Bool.not_true,cond_false]
   rw [cond_neg (by rw [decide_eq_false_iff_not];omega),cond_neg (by rw [decide_eq_false_iff_not];omega),pZ O.ok.cd PE.2.1 e2,ah,PE.2.2.1,e3,hsub,Bool.not_true,cond_false,cu g3,g4,Ng,
    jL hno,Int.toNat_natCast,fU hno,aU ⟨by omega,hno⟩,fU hno,cu g3,g4,Ng,aU ⟨by omega,hno⟩,fU hno,aN h (by omega)]
   simp only;by_cases hut:nu d u=nu d t.Name
   ·have hut':u=t.Name:=Wm O.ok hun WU hut
    subst hut';have hown:=SO O ht hx hu;rw [hin] at hown;injection hown with hown
    have hq:q=nu d x.Value:=by
     have h1:=Vg O.ok.GM.nd PE.2.1;rw [PE.2.2.1,←hown,e1] at h1;omega
    rw [cond_pos (by simp),cond_neg (by simp [hq])];cases Vy:o[n] with
    |true=>rw [cond_true];exact vk true (by rw [Vy];rfl)
    |false=>rw [cond_false];exact vk _ (by rw [Vy];rfl)
   ·rw [cond_neg (by rw [beq_eq_false_iff_ne];omega)]
    cases Vy:o[n] with
    |true=>rw [cond_true];exact vk true (by rw [Vy];rfl)
    |false=>rw [cond_false];exact vk _ (by rw [Vy];rfl)
theorem h305:∀(xs:List af) (i:Nat) (o:List Bool),d.drop i=xs→o.length=(dM d).length→(∀j (hj:j<o.length),o[j]=true∨∃t∈xs,∃x∈t.bz,(dM d)[j]? =some x.ct∧nA d x.ct=some t.Name)→
  x5 d (ff d) (eX d) (gU d) d.length i o=some true:=by
 have hl:=O.ok.len;intro xs
 induction xs with
 |nil=>
  intro i o h ho hQ;refine Qg _ _ _ _ _ _ _ ?_;rw [aQ h,cond_false]
  exact XO O ho (fun j hj=>by
   rcases hQ j hj with h|⟨t,ht,_⟩
   ·exact h
   ·cases ht) _ 0 rfl (by omega)
 |cons t xs ih=>
  intro i o h ho hQ;refine Qg _ _ _ _ _ _ _ ?_;have ht:t∈d:=List.mem_of_getElem? (aZ h);have hi:=bN h;rw [aT h,cond_true,aM h,YW O.ok (jt ht),ah,aM h,show (0:Int)=((0:Nat):Int) from rfl];refine XN O (by omega) ht (Q:=fun j=>∃t∈xs,∃x∈t.bz,(dM d)[j]? =some x.ct∧nA d x.ct=some t.Name) (fun o ho hQ=>ih (i+1) o (az h) ho hQ) t.bz 0 o rfl ho fun j hj=> ?_
  rcases hQ j hj with h1|⟨u,hu,x,hx,h1,h2⟩
  ·exact .inl h1
  ·rcases List.mem_cons.1 hu with rfl|hu
   ·exact .inr (.inl ⟨x,hx,h1,h2⟩)
   ·exact .inr (.inr ⟨u,hu,x,hx,h1,h2⟩)
end
theorem We [tA] {d:List af}:f305 d=some true:=by
 refine e305 _ ?_;rw [MO,ah,wP];cases hL:(kn d&&decide (d.length≤12)) with
 |false=>rfl
 |true=>
  obtain ⟨z,hlen,hf⟩:=sZ hL;rw [Bool.not_true,cond_false,OE z (by omega) hf,ah];by_cases h0:gZ d=0
  ·obtain ⟨O,_,_⟩:=r5 z (by omega) hf h0
   have h64:=O.f64;have hfl:=kW (d:=d)
   rw [cond_neg (by simpa using h0),Xm z (by omega) hf h0,ah,Bool.not_true,cond_false,aU (by
    simp only [Int.toNat_natCast]
    omega)]
   refine h305 O d 0 _ rfl (by simp [hfl]) fun j hj=> .inr ?_
   have hj':j<(dM d).length:=by simpa [hfl] using hj
   obtain ⟨u,hu⟩:=O.intro _ (List.getElem_mem hj');obtain ⟨t,ht,hv,rfl⟩:=pW.1 ((pM O.ok.acc).1 hu).1;obtain ⟨x,hx,e⟩:=BV.1 hv;exact ⟨t,ht,x,hx,by rw [List.getElem?_eq_getElem hj',e],by rw [e];exact hu⟩
  ·rw [cond_pos (by simpa using h0)];rfl
def strip (d:List af):List af:=d.map fun t=>⟨t.Name,t.aB,[]⟩
theorem NR (d:List af):dM (strip d)=[]:=by
 have:Ah (strip d)=[]:=by
  unfold Ah strip;rw [List.flatMap_eq_nil_iff];intro t ht;obtain ⟨u,_,rfl⟩:=List.mem_map.1 ht;rfl
 unfold dM;rw [this];rfl
theorem h306 {d:List af} (hd:d.length≤12) {r:Bool} (hr:uG d d.length d.length (strip d)=some r):∀(xs:List af) (i:Nat),d.drop i=xs→i≤d.length→uG d d.length i (strip (d.take i))=some r:=by
 intro xs
 induction xs with
 |nil=>
  intro i h hi;have:i=d.length:=by have:=dJ h;omega
  subst this;rw [List.take_length];exact hr
 |cons t xs ih=>
  intro i h hi;refine Qh _ _ _ _ ?_;have hlen:(strip (d.take i)).length≤12:=by unfold strip;rw [List.length_map,List.length_take];omega
  have e:strip (d.take i)++[⟨t.Name,t.aB,[]⟩]=strip (d.take (i+1)):=by
   rw [List.take_add_one,aZ h];simp [strip]
  rw [aT h,cond_true,aM h,aM h,cF _ (by omega) (by simp) (by omega),e,aN h (by omega)];exact ih (i+1) (az h) (bN h)
theorem Ph [tA] {v:List (List ai)} (hl:v.length≤1000) (h0:∀r∈v,r=[]):∀(xs:List (List ai)) (i:Nat),v.drop i=xs→wk v v.length i=some true:=by
 intro xs
 induction xs with
 |nil=>intro i h;refine LO _ _ _ ?_;rw [aQ h,cond_false,wP];rfl
 |cons r xs ih=>
  intro i h;refine LO _ _ _ ?_;rw [aT h,cond_true,aM h,h0 r (List.mem_of_getElem? (aZ h)),cond_neg (by simp),aN h (by omega)];exact ih (i+1) (az h)
theorem Gt (ns:List aS) (d:List af):fG ns (strip d)=0:=by
 rw [nw];intro t ht;obtain ⟨u,_,rfl⟩:=List.mem_map.1 ht
 exact ⟨fun x hx=>(by cases hx),by
  show ([]:List aS).Nodup
  exact List.nodup_nil⟩
theorem RR {d:List af} (h:dM d=[]):∀r∈gU d,r=[]:=by
 intro r hr;obtain ⟨w,_,rfl⟩:=List.mem_map.1 hr;rw [h];rfl
open Classical in
theorem zW {v:List (List ai)} (hl:v.length≤1000) (h0:∀r∈v,r=[]):f347 v=some true:=by
 have Z:Vz v:=⟨hl,fun r hr=>by rw [h0 r hr];simp,fun r hr x hx=>by rw [h0 r hr] at hx;cases hx⟩
 rw [SM Z]
 congr 1
 rw [decide_eq_true_iff];intro i hi;refine .mk i fun x hx=> ?_
 have hg:v.getD i []=v[i]:=by rw [List.getD_eq_getElem?_getD,List.getElem?_eq_getElem hi];rfl
 rw [hg,h0 _ (List.getElem_mem hi)] at hx;cases hx
theorem Wg [tA] {d:List af}:f306 d=some true:=by
 refine e306 _ ?_;rw [MO,ah,wP];cases hL:(kn d&&decide (d.length≤12)) with
 |false=>rfl
 |true=>
  obtain ⟨z,hlen,hf⟩:=sZ hL;rw [Bool.not_true,cond_false];refine h306 hlen ?_ d 0 rfl (by omega);have YB:(strip d).length=d.length:=by simp [strip]
  have z':Sz (strip d):=⟨by have:=z.len;omega,fun t ht=>by
   obtain ⟨u,hu,rfl⟩:=List.mem_map.1 ht
   exact z.sup u hu⟩
  have hf':Fz (strip d):=fun t ht=>by
   obtain ⟨u,hu,rfl⟩:=List.mem_map.1 ht;simp
  have h64:(strip d).length≤64:=by omega
  have hft:=NR d;have h5:gZ (strip d)=if ql (strip d)≠0 then ql (strip d) else if (nY (fq (strip d))).length>256 then 7 else 0:=by
   unfold gZ;rw [hft,Gt];by_cases h0:ql (strip d)=0
   ·have hn0:¬(ql (strip d)≠0):=fun h=>h h0
    rw [if_neg hn0,if_neg hn0];by_cases h1:(nY (fq (strip d))).length>256
    ·rw [if_pos h1,if_pos h1]
    ·rw [if_neg h1,if_neg h1,if_neg (by simp),if_neg (by simp),if_neg (by simp [fZ]),if_neg (by
      unfold iG;rw [hft]
      simp)]
   ·rw [if_pos h0,if_pos h0]
  refine Qh _ _ _ _ ?_;rw [cond_neg (by simp),i14 z' h64,SK z' h64 hf',SL z' h64 hf',PJ z' h64 hf',UR z' h64];simp only [ah];by_cases h0:ql (strip d)=0
  ·by_cases h1:(nY (fq (strip d))).length>256
   ·have e:gZ (strip d)=7:=by rw [h5,if_neg (show¬(ql (strip d)≠0) from fun h=>h h0),if_pos h1]
    rw [if_neg (show¬(ql (strip d)≠0) from fun h=>h h0),if_pos h1,e,if_neg (by omega),if_neg (by omega)];have ha:=zW (v:=[]) (by simp) (fun r hr=>by cases hr);have hb:=Ph (v:=[]) (by simp) (fun r hr=>by cases hr) [] 0 rfl;rw [cond_neg (by simp),cond_neg (by simp),cond_neg (by simp),cond_neg (by simp),cond_neg (by simp),ha,ah,Bool.not_true,cond_false];exact hb
   ·have e:gZ (strip d)=0:=by rw [h5,if_neg (show¬(ql (strip d)≠0) from fun h=>h h0),if_neg h1]
    have hO:=Mg z' h64 h0 h1;have hlt:=hO.bQ;have hv0:=RR hft;have hvl:=tn (d:=strip d);have rS:=cS (d:=strip d);rw [if_neg (show¬(ql (strip d)≠0) from fun h=>h h0),if_neg h1,e,if_pos rfl,if_pos rfl];have ha:=zW (by omega) hv0;have hb:=Ph (by omega) hv0 _ 0 rfl
    rw [cond_neg (by simp),cond_neg (by simp),cond_neg (by simp),cond_neg (by simp [eX,hft]),cond_neg (by
     rw [bne_eq_false_iff_eq];unfold ff at rS;show ((gU (strip d)).length:Int)=((List.map qg (bL (strip d))).length:Int)
     omega),ha,ah,Bool.not_true,cond_false]
    exact hb
  ·have e:gZ (strip d)=ql (strip d):=by rw [h5,if_pos h0]
   rw [if_pos h0,e,if_neg h0,if_neg h0];have ha:=zW (v:=[]) (by simp) (fun r hr=>by cases hr);have hb:=Ph (v:=[]) (by simp) (fun r hr=>by cases hr) [] 0 rfl;rw [cond_neg (by simp),cond_neg (by simp),cond_neg (by simp),cond_neg (by simp),cond_neg (by simp),ha,ah,Bool.not_true,cond_false];exact hb
end Go.Proofs.YtmidjldjkbljjaaGreatDoor.cl
