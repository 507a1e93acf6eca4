/- Layer 5. -/
import Derived.Test.YtfoddgpndoeeaaaGreatDoorClSd
set_option linter.unusedVariables false
set_option linter.unusedSimpArgs false
set_option linter.unusedSectionVars false
namespace Go.AM
section
variable {K V:Type}
theorem E4 (k:K):vE ([]:List (K×V)) k=[]:=by simp [vE,uW]
theorem Bx (x:K×V) (l:List (K×V)) (k:K):vE (x::l) k=open Classical in if k=x.1 then l else x::vE l k:=by
 unfold vE;rw [l7];by_cases h:k=x.1
 ·simp [h]
 ·simp only [h,if_false]
  cases gY l k<;>simp
theorem Ou (k:K):∀l:List (K×V),((vE l k).map Prod.fst).Sublist (l.map Prod.fst):=by
 intro l
 induction l with
 |nil=>rw [E4];exact List.Sublist.refl _
 |cons x l ih=>
  rw [Bx];split
  ·rw [List.map_cons];exact List.sublist_cons_self _ _
  ·rw [List.map_cons,List.map_cons];exact ih.cons_cons _
theorem Nr {k:K}:∀{l:List (K×V)},k∉l.map Prod.fst→getM l k=none:=by
 intro l
 induction l with
 |nil=>intro _;exact eO k
 |cons x l ih=>
  intro h;rw [List.map_cons,List.mem_cons,not_or] at h;rw [eE,if_neg h.1];exact ih h.2
theorem Ft (k k':K):∀{l:List (K×V)},(l.map Prod.fst).Nodup→getM (vE l k) k'=open Classical in if k'=k then none else getM l k':=by
 intro l
 induction l with
 |nil=>intro _;rw [E4,eO];simp
 |cons x l ih=>
  intro hn;rw [List.map_cons,List.nodup_cons] at hn;rw [Bx];by_cases h:k=x.1
  ·rw [if_pos h,eE]
   by_cases h2:k'=k
   ·rw [if_pos h2]
    exact Nr (by rw [h2,h];exact hn.1)
   ·rw [if_neg h2,if_neg (by rw [←h];exact h2)]
  ·rw [if_neg h,eE,ih hn.2,eE]
   by_cases h2:k'=x.1
   ·rw [if_pos h2,if_pos h2,if_neg (by rw [h2];exact fun e=>h e.symm)]
   ·rw [if_neg h2,if_neg h2]
theorem HS {l:List (K×V)} (h:∀k,getM l k=none):l=[]:=by
 cases l with
 |nil=>rfl
 |cons x l=>
  have:=h x.1;rw [eE,if_pos rfl] at this;cases this
end
end Go.AM
namespace Go.Proofs.YtfoddgpndoeeaaaGreatDoor.cl
open Go Go.AM
def uj (n:Nat) (S:Nat→Bool):Nat:=((List.range n).filter S).length
theorem rR (n:Nat) (S:Nat→Bool):uj (n+1) S=uj n S+(if S n=true then 1 else 0):=by
 unfold uj;rw [List.range_succ,List.filter_append,List.length_append]
 congr 1
 cases h:S n<;>simp [List.filter_cons,h]
theorem yS {S T:Nat→Bool}:∀{n:Nat},(∀j,j<n→S j=T j)→uj n S=uj n T:=by
 intro n
 induction n with
 |zero=>intro _;rfl
 |succ n ih=>
  intro h;rw [rR,rR,ih fun j hj=>h j (by omega),h n (by omega)]
def Em (S:Nat→Bool) (i:Nat) (b:Bool):Nat→Bool:=fun j=>if j=i then b else S j
theorem MJ {S:Nat→Bool} {i:Nat}:∀{n:Nat},i<n→S i=false→uj n (Em S i true)=uj n S+1:=by
 intro n
 induction n with
 |zero=>intro h;omega
 |succ n ih=>
  intro h hS;rw [rR,rR];by_cases e:i=n
  ·subst e
   rw [yS (S:=Em S i true) (T:=S) fun j hj=>by unfold Em;rw [if_neg (by omega)],hS];have:Em S i true i=true:=by unfold Em;rw [if_pos rfl]
   rw [this];simp
  ·rw [ih (by omega) hS]
   have:Em S i true n=S n:=by unfold Em;rw [if_neg (by omega)]
   rw [this];omega
theorem MI {S:Nat→Bool} {i n:Nat} (h:i<n) (hS:S i=true):uj n (Em S i false)+1=uj n S:=by
 rw [←MJ h (S:=Em S i false) (by unfold Em;rw [if_pos rfl])];refine yS fun j _=> ?_
 unfold Em;by_cases e:j=i
 ·subst e;simp [hS]
 ·simp [e]
inductive Wf (v:List (List ai)):Nat→Prop
 |mk (i:Nat):(∀x∈v.getD i [],Wf v x.Value.toNat)→Wf v i
structure Vz (v:List (List ai)):Prop where
 len:v.length≤1000
 row:∀r∈v,r.length≤20
 val:∀r∈v,∀x∈r,0≤x.Value∧x.Value<(v.length:Int)
theorem stuck {v:List (List ai)} {S:Nat→Bool} (h:∀i,i<v.length→S i=true→∃x∈v.getD i [],x.Value.toNat<v.length∧S x.Value.toNat=true):∀i,Wf v i→i<v.length→S i=false:=by
 intro i hw
 induction hw with
 |mk i _ ih=>
  intro hi;cases e:S i with
  |false=>rfl
  |true=>
   obtain ⟨x,hx,h1,h2⟩:=h i hi e;rw [ih x hx h1] at h2;cases h2
structure Lf (n:Nat) (o:List (Int×Bool)) (S:Nat→Bool):Prop where
 nd:(o.map Prod.fst).Nodup
 at_:∀i:Nat,getM o (i:Int)=if i<n∧S i=true then some true else none
 neg:∀k:Int,k<0→getM o k=none
theorem TA {n:Nat} {o:List (Int×Bool)} {S:Nat→Bool} (h:Lf n o S) {i:Nat} (hi:i<n):Lf n (dB o (i:Int) true) (Em S i true):=by
 refine ⟨?_,fun j=> ?_,fun k hk=> ?_⟩
 ·rw [FN]
  split
  ·exact h.nd
  ·rename_i hy
   rw [List.nodup_append];refine ⟨h.nd,by simp,fun a ha b hb=> ?_⟩;simp only [List.mem_singleton] at hb
   rintro rfl
   exact hy (hb▸ha)
 ·rw [ga]
  unfold Em;by_cases e:j=i
  ·subst e;simp [hi]
  ·rw [if_neg (by omega),h.at_ j,if_neg e]
 ·rw [ga,if_neg (by omega)];exact h.neg k hk
theorem Tz {n:Nat} {o:List (Int×Bool)} {S:Nat→Bool} (h:Lf n o S) (i:Nat):Lf n (vE o (i:Int)) (Em S i false):=by
 refine ⟨h.nd.sublist (Ou _ _),fun j=> ?_,fun k hk=> ?_⟩
 ·rw [Ft _ _ h.nd]
  unfold Em;by_cases e:j=i
  ·subst e;simp
  ·rw [if_neg (by omega),h.at_ j,if_neg e]
 ·rw [Ft _ _ h.nd]
  split
  ·rfl
  ·exact h.neg k hk
theorem Dd {n:Nat} {o:List (Int×Bool)} {S:Nat→Bool} (h:Lf n o S) {R:Type} (i:Nat) (hi:i<n) (f:Bool→Option R) (z:Option R):gj o (i:Int) f z=if S i=true then f true else z:=by
 have:=h.at_ i;cases e:S i with
 |true=>rw [e,if_pos ⟨hi,rfl⟩] at this;rw [dz this];rfl
 |false=>rw [e,if_neg (by simp)] at this;rw [gz this];rfl
theorem Oz {n:Nat} {o:List (Int×Bool)} {S:Nat→Bool} (h:Lf n o S):((o.length:Int)==0)=decide (∀i,i<n→S i=false):=by
 rw [Bool.eq_iff_iff,decide_eq_true_iff,beq_iff_eq];constructor
 ·intro hl i hi
  have:o=[]:=List.length_eq_zero_iff.1 (by omega);subst this;have:=h.at_ i;rw [eO] at this;cases e:S i with
  |false=>rfl
  |true=>rw [e,if_pos ⟨hi,rfl⟩] at this;cases this
 ·intro hS
  have:o=[]:=HS fun k=>by
   by_cases hk:k<0
   ·exact h.neg k hk
   ·have:=h.at_ k.toNat
    rw [if_neg (by rintro ⟨a,b⟩;rw [hS _ a] at b;cases b)] at this
    rwa [Int.toNat_of_nonneg (by omega)] at this
  subst this;rfl
section
variable {v:List (List ai)} (Z:Vz v)
include Z
theorem h379 {o:List (Int×Bool)} {S:Nat→Bool} (L:Lf v.length o S) {r:List ai} (hr:r∈v):∀(xs:List ai) (i:Nat),r.drop i=xs→Av r r.length i o=some (bX (fun x=>S x.Value.toNat) xs i):=by
 have hrl:=Z.row r hr;intro xs
 induction xs with
 |nil=>intro i h;refine Oa _ _ _ _ ?_;rw [bS h];rfl
 |cons x xs ih=>
  intro i h;refine Oa _ _ _ _ ?_;have hx:=Z.val r hr x (List.mem_of_getElem? (bU h));have h386:f386 x o=some (S x.Value.toNat):=by
   refine e386 _ _ ?_;have e:x.Value=(x.Value.toNat:Int):=by omega
   rw [e,Dd L _ (by omega),←e];cases S x.Value.toNat<;>rfl
  rw [bR h,cond_true,bW h,h386,aj,bB h (by omega),ih (i+1) (bf h),bX];cases S x.Value.toNat<;>rfl
theorem VR {o:List (Int×Bool)} {S:Nat→Bool} (L:Lf v.length o S) {r:List ai} (hr:r∈v):f378 r o=some (r.any fun x=>S x.Value.toNat):=by
 refine e378 _ _ ?_;have:f379 r o=some (bX (fun x=>S x.Value.toNat) r 0):=e379 _ _ (h379 Z L hr r 0 rfl);rw [this,aj,CE]
theorem Rm:∀(k i:Nat) (S:Nat→Bool) (o:List (Int×Bool)) (ch:Bool),v.length-i=k→i≤v.length→Lf v.length o S→(∀j,j<v.length→S j=false→Wf v j)→
  ∃(S':Nat→Bool) (o':List (Int×Bool)) (ch':Bool),Lf v.length o' S'∧(∀j,j<v.length→S' j=false→Wf v j)∧uj v.length S'≤uj v.length S∧
   (ch'=true→ch=true∨uj v.length S'<uj v.length S)∧(ch'=false→ch=false∧S'=S∧∀j,i≤j→j<v.length→S j=true→∃x∈v.getD j [],S x.Value.toNat=true)∧
   ∀r,wH v ch' o'=some r→mZ v ch v.length i o=some r:=by
 have hl:=Z.len;intro k
 induction k with
 |zero=>
  intro i S o ch hk hi L hS;refine ⟨S,o,ch,L,hS,Nat.le_refl _,fun h=> .inl h,fun h=>⟨h,rfl,fun j h1 h2=>by omega⟩,fun r hr=> ?_⟩;refine C8 _ _ _ _ _ ?_;rw [cond_neg (by rw [decide_eq_false_iff_not];omega)];exact hr
 |succ k ih=>
  intro i S o ch hk hi L hS;have hlt:i<v.length:=by omega
  have hg:v.getD i []=v[i]:=by rw [List.getD_eq_getElem?_getD,List.getElem?_eq_getElem hlt];rfl
  have hmem:v[i]∈v:=List.getElem_mem hlt;by_cases hc:S i=true∧(v[i].any fun x=>S x.Value.toNat)=false
  ·obtain ⟨hc1,AJ⟩:=hc
   have hwf:Wf v i:=by
    refine .mk i fun x hx=> ?_
    rw [hg] at hx;have h0:=Z.val _ hmem x hx;refine hS _ (by omega) ?_;rw [List.any_eq_false] at AJ;cases e:S x.Value.toNat with
    |false=>rfl
    |true=>exact absurd e (AJ x hx)
   have hd:=MI hlt hc1
   obtain ⟨S',o',ch',a1,a2,a3,a4,a5,a6⟩:=ih (i+1) (Em S i false) (vE o (i:Int)) true (by omega) (by omega) (Tz L i) (fun j hj Pn=>by
    unfold Em at Pn;by_cases e:j=i
    ·rw [e];exact hwf
    ·rw [if_neg e] at Pn;exact hS j hj Pn)
   refine ⟨S',o',ch',a1,a2,by omega,fun _=> .inr (by omega),fun h=>(by have:=(a5 h).1;cases this),fun r hr=> ?_⟩;refine C8 _ _ _ _ _ ?_;rw [cond_pos (by rw [decide_eq_true_iff];omega),Dd L i hlt,if_pos hc1,cond_true,fR hlt,VR Z L hmem,aj,AJ,Bool.not_false,cond_true,gT,cg (by omega)];exact a6 r hr
  ·obtain ⟨S',o',ch',a1,a2,a3,a4,a5,a6⟩:=ih (i+1) S o ch (by omega) (by omega) L hS
   refine ⟨S',o',ch',a1,a2,a3,a4,fun h=>⟨(a5 h).1,(a5 h).2.1,fun j h1 h2 Pn=> ?_⟩,fun r hr=> ?_⟩
   ·by_cases e:j=i
    ·subst e
     have:(v[j].any fun x=>S x.Value.toNat)=true:=by
      cases hb:v[j].any fun x=>S x.Value.toNat with
      |true=>rfl
      |false=>exact absurd ⟨Pn,hb⟩ hc
     rw [List.any_eq_true] at this;rw [hg];exact this
    ·exact (a5 h).2.2 j (by omega) h2 Pn
   ·refine C8 _ _ _ _ _ ?_
    rw [cond_pos (by rw [decide_eq_true_iff];omega),Dd L i hlt,fR hlt,VR Z L hmem,aj,cg (by omega),a6 r hr];cases hSi:S i with
    |false=>rw [if_neg (by simp)]
    |true=>
     have:(v[i].any fun x=>S x.Value.toNat)=true:=by
      cases hb:v[i].any fun x=>S x.Value.toNat with
      |true=>rfl
      |false=>exact absurd ⟨hSi,hb⟩ hc
     rw [if_pos rfl,this];rfl
open Classical in
theorem UY:∀(m:Nat) (S:Nat→Bool) (o:List (Int×Bool)),uj v.length S≤m→Lf v.length o S→(∀j,j<v.length→S j=false→Wf v j)→
  wH v true o=some (decide (∀i,i<v.length→Wf v i)):=by
 intro m
 induction m with
 |zero=>
  intro S o hm L hS;obtain ⟨S',o',ch',a1,a2,a3,a4,a5,a6⟩:=Rm Z v.length 0 S o false (by omega) (by omega) L hS;refine Da _ _ _ ?_;rw [cond_true,show (0:Int)=((0:Nat):Int) from rfl];refine a6 _ ?_;have:ch'=false:=by
   cases e:ch' with
   |false=>rfl
   |true=>
        rcases a4 e with h|h
        ·cases h
        ·omega
  subst this;obtain ⟨_,rfl,a7⟩:=a5 rfl;refine Da _ _ _ ?_;rw [cond_false,Oz a1]
  congr 1
  rw [decide_eq_decide];constructor
  ·intro h i hi;exact a2 i hi (h i hi)
  ·intro h i hi
   exact stuck (fun j hj Pn=>by
    obtain ⟨x,hx,hxS⟩:=a7 j (by omega) hj Pn;have hg:v.getD j []=v[j]:=by rw [List.getD_eq_getElem?_getD,List.getElem?_eq_getElem hj];rfl
    have:=Z.val _ (List.getElem_mem hj) x (by rw [←hg];exact hx)
    exact ⟨x,hx,by omega,hxS⟩) i (h i hi) hi
 |succ m ih=>
  intro S o hm L hS;obtain ⟨S',o',ch',a1,a2,a3,a4,a5,a6⟩:=Rm Z v.length 0 S o false (by omega) (by omega) L hS;refine Da _ _ _ ?_;rw [cond_true,show (0:Int)=((0:Nat):Int) from rfl];refine a6 _ ?_;cases hch:ch' with
  |true=>
   refine ih S' o' ?_ a1 a2;rcases a4 hch with h|h
   ·cases h
   ·omega
  |false=>
   obtain ⟨_,rfl,a7⟩:=a5 hch;refine Da _ _ _ ?_;rw [cond_false,Oz a1]
   congr 1
   rw [decide_eq_decide];constructor
   ·intro h i hi;exact a2 i hi (h i hi)
   ·intro h i hi
    exact stuck (fun j hj Pn=>by
     obtain ⟨x,hx,hxS⟩:=a7 j (by omega) hj Pn;have hg:v.getD j []=v[j]:=by rw [List.getD_eq_getElem?_getD,List.getElem?_eq_getElem hj];rfl
     have:=Z.val _ (List.getElem_mem hj) x (by rw [←hg];exact hx)
     exact ⟨x,hx,by omega,hxS⟩) i (h i hi) hi
theorem UX {r:Bool}:∀(k i:Nat) (o:List (Int×Bool)) (S:Nat→Bool),v.length-i=k→i≤v.length→Lf v.length o S→(∀j,j<v.length→(S j=true↔j<i))→
  (∀o,Lf v.length o (fun _=>true)→wH v true o=some r)→Ar v v.length i o=some r:=by
 have hl:=Z.len;intro k
 induction k with
 |zero=>
  intro i o S hk hi L hS hr;refine N3 _ _ _ _ ?_;rw [cond_neg (by rw [decide_eq_false_iff_not];omega)];refine hr o ⟨L.nd,fun j=> ?_,L.neg⟩;rw [L.at_ j];by_cases hj:j<v.length
  ·rw [if_pos ⟨hj,(hS j hj).2 (by omega)⟩,if_pos ⟨hj,rfl⟩]
  ·rw [if_neg (by rintro ⟨a,_⟩;exact hj a),if_neg (by rintro ⟨a,_⟩;exact hj a)]
 |succ k ih=>
  intro i o S hk hi L hS hr;refine N3 _ _ _ _ ?_;rw [cond_pos (by rw [decide_eq_true_iff];omega),gT,cg (by omega)];refine ih (i+1) _ (Em S i true) (by omega) (by omega) (TA L (by omega)) (fun j hj=> ?_) hr;unfold Em;by_cases e:j=i
  ·simp [e]
  ·rw [if_neg e,hS j hj];omega
open Classical in
theorem VP:f347 v=some (decide (∀i,i<v.length→Wf v i)):=by
 refine e347 _ ?_;exact UX Z _ 0 [] (fun _=>false) rfl (by omega) ⟨by simp,fun i=>by rw [eO];simp,fun k _=>eO k⟩ (fun j hj=>by simp)
  fun o L=>UY Z _ (fun _=>true) o (Nat.le_refl _) L (fun j _ h=>by cases h)
open Classical in
open Classical in
end
end Go.Proofs.YtfoddgpndoeeaaaGreatDoor.cl
