/- Sorting. -/
import Derived.Test.YtmidjldjkbljjaaGreatDoorClT
import Derived.Test.YtmidjldjkbljjaaGreatDoorAmB
import Derived.Test.YtmidjldjkbljjaaGreatDoorClG
set_option linter.unusedVariables false
set_option linter.unusedSimpArgs false
namespace Go.Proofs.YtmidjldjkbljjaaGreatDoor.cl
open Go Go.AM Go.RowKit
theorem sA {α:Type} {lt:α→α→Bool}:∀{l l':List α},l.Perm l'→e9 lt l→e9 lt l'→(∀x∈l,∀y∈l,lt x y=false→lt y x=false→x=y)→l=l':=by
 intro l
 induction l with
 |nil=>intro l' h _ _ _;exact (List.nil_perm.1 h).symm
 |cons x l ih=>
  intro l' h h1 h2 h3;cases l' with
  |nil=>exact absurd h.symm (by simp)
  |cons y l'=>
   have Jz:=List.pairwise_cons.1 h1;have Cf:=List.pairwise_cons.1 h2;have hxy:x=y:=by
    have hy:y∈x::l:=h.mem_iff.2 (by simp);have hx:x∈y::l':=h.mem_iff.1 (by simp);rcases List.mem_cons.1 hy with e|hy'
    ·exact e.symm
    ·rcases List.mem_cons.1 hx with e|hx'
     ·exact e
     ·exact h3 x (by simp) y hy (Cf.1 x hx') (Jz.1 y hy')
   subst hxy;rw [ih (List.Perm.cons_inv h) Jz.2 Cf.2 fun a ha b hb=>h3 a (by simp [ha]) b (by simp [hb])]
theorem lT {α:Type} (lt:α→α→Bool) (asymm:∀a b,lt a b=true→lt b a=false) (up:∀x y z,lt x y=true→lt z y=false→lt x z=true) (l:List α):e9 lt (ec lt l)∧(ec lt l).Perm l:=by
 have ins:∀(x:α) (l:List α),(kj lt x l).Perm (x::l):=by
  intro x l
  induction l with
  |nil=>exact .refl _
  |cons y l ih=>
   unfold kj;split
   ·exact .refl _
   ·exact (ih.cons y).trans (.swap x y l)
 have key:∀(l E:List α),e9 lt E→e9 lt (l.foldl (fun out x=>kj lt x out) E)∧(l.foldl (fun out x=>kj lt x out) E).Perm (E++l):=by
  intro l
  induction l with
  |nil=>intro E hE;exact ⟨hE,by simp⟩
  |cons p l ih=>
   intro E hE;obtain ⟨h1,h2⟩:=ih _ (n9 lt asymm up hE (x:=p));refine ⟨h1,h2.trans ?_⟩;exact ((ins p E).append_right l).trans (List.perm_middle (a:=p) (l₁:=E) (l₂:=l)).symm
 have:=key l [] (by simp [e9]);simpa [ec] using this
theorem wM (x y z:List UInt8) (h:Op.bytesLess x y=true) (h':Op.bytesLess z y=false):Op.bytesLess x z=true:=by
 by_cases e:z=y
 ·rw [e];exact h
 ·exact rE _ _ _ h (lR _ _ h' e)
end Go.Proofs.YtmidjldjkbljjaaGreatDoor.cl
set_option linter.unusedVariables false
set_option linter.unusedSimpArgs false
set_option maxRecDepth 100000
namespace Go.Proofs.YtmidjldjkbljjaaGreatDoor.cl
open Go Go.AM Go.RowKit
def z6 (h:Hint):Code→List Code
 | .seq a b=>match find h.blk (cn a) with
  |some _=>[.seq a b]
  |none=>z6 h a++z6 h b
 | .cond _ a b=>z6 h a++z6 h b
 | .block _ c=>z6 h c
 | .loop c=>z6 h c
 | .scope c=>z6 h c
 |_=>[]
theorem Ox {q:Prop} {B:Mu} {P:Program} {h:Hint} {N:Nat}:∀c:Code,(∀a b x,Code.seq a b∈z6 h c→find h.blk (cn a)=some x→zP q B P N (.seq a b) x.1 x.2)→ij q B P h N c:=by
 intro c
 induction c with
 |seq a b SN TS=>
  intro hs;simp only [ij];simp only [z6] at hs;cases hf:find h.blk (cn a) with
  |some x=>
   rw [hf] at hs;exact hs a b x (by simp) hf
  |none=>
   rw [hf] at hs;exact ⟨SN fun a b x hx=>hs a b x (List.mem_append_left _ hx),TS fun a b x hx=>hs a b x (List.mem_append_right _ hx)⟩
 |cond c a b SN TS=>intro hs;exact ⟨SN fun a b x hx=>hs a b x (List.mem_append_left _ hx),TS fun a b x hx=>hs a b x (List.mem_append_right _ hx)⟩
 |block id c ih=>intro hs;exact ih hs
 |loop c ih=>intro hs;exact ih hs
 |scope c ih=>intro hs;exact ih hs
 |_=>intro _;trivial
def yV (id:Nat):Code→Option (Array Oper)
 | .region i ops _=>bif Nat.beq i id then some ops else none
 | .seq a b=>match yV id a with
  |some x=>some x
  |none=>yV id b
 | .cond _ a b=>match yV id a with
  |some x=>some x
  |none=>yV id b
 | .block _ c=>yV id c
 | .loop c=>yV id c
 | .scope c=>yV id c
 |_=>none
noncomputable def uW:Code:=match P.funcs[119]? with
 |some fn=>fn.body.getD .skip
 |none=> .skip
noncomputable def bk:Code:=(z6 (H 119) uW).headD .skip
noncomputable def oo (id:Nat):Array Oper:=(yV id bk).getD #[]
noncomputable def ck:Code:= .seq (.region 32 (oo 32) false) (.seq (.region 33 (oo 33) false) .ret)
noncomputable def rkC:Code:= .seq (.region 29 (oo 29) false) (.seq (.cond (.tmp 84) .skip (.exit 8)) (.block 9 (.seq (.region 30 (oo 30) false) (.region 31 (oo 31) false))))
theorem Tu:bk= .seq (.seq (.region 28 (oo 28) false) (.block 8 (.loop rkC))) ck:=by kernel_rfl
theorem Sd:z6 (H 119) uW=[bk]:=by kernel_rfl
structure Op (o:Oper) (d:Nat):Prop where
 dst:o.dst=some d
 guard:o.guard=none
theorem q28:∃x y,(oo 28).toList=[x,y]∧Op x 81∧x.op= .move (.tmp 3)∧Op y 82∧y.op= .range 151 (.tmp 81):=by
 refine ⟨(oo 28)[0]'(by rw [show (oo 28).size=2 by kernel_rfl];decide),(oo 28)[1]'(by rw [show (oo 28).size=2 by kernel_rfl];decide),by kernel_rfl,⟨by kernel_rfl,by kernel_rfl⟩,by kernel_rfl,⟨by kernel_rfl,by kernel_rfl⟩,by kernel_rfl⟩
theorem q29:∃x y,(oo 29).toList=[x,y]∧Op x 83∧x.op= .next (.tmp 82) false∧Op y 84∧y.op= .extract (.tmp 83) 0:=by
 refine ⟨(oo 29)[0]'(by rw [show (oo 29).size=2 by kernel_rfl];decide),(oo 29)[1]'(by rw [show (oo 29).size=2 by kernel_rfl];decide),by kernel_rfl,⟨by kernel_rfl,by kernel_rfl⟩,by kernel_rfl,⟨by kernel_rfl,by kernel_rfl⟩,by kernel_rfl⟩
theorem q30:∃x y z,(oo 30).toList=[x,y,z]∧Op x 85∧x.op= .entry (.tmp 82)∧Op y 86∧y.op= .extract (.tmp 85) 0∧Op z 14∧z.op= .assign (.tmp 86):=by
 refine ⟨(oo 30)[0]'(by rw [show (oo 30).size=3 by kernel_rfl];decide),(oo 30)[1]'(by rw [show (oo 30).size=3 by kernel_rfl];decide),(oo 30)[2]'(by rw [show (oo 30).size=3 by kernel_rfl];decide),by kernel_rfl,⟨by kernel_rfl,by kernel_rfl⟩,by kernel_rfl,⟨by kernel_rfl,by kernel_rfl⟩,by kernel_rfl,⟨by kernel_rfl,by kernel_rfl⟩,by kernel_rfl⟩
theorem q31:∀o∈(oo 31).toList,o.dst≠some 82:=by
 have h:((oo 31).toList.all fun o=>match o.dst with|some d=> !Nat.beq d 82|none=>true)=true:=by kernel_rfl
 intro o ho e;have:=List.all_eq_true.1 h o ho;rw [e] at this;cases this
theorem Y8:P.underlying 151=some (.map 9 4):=by kernel_rfl
def EI (bx o1 o3 o4:Ob) (l:List (List UInt8)):List (Nat×Ob):=[(10000,bx),(10001,o1),(20002, .row 9 1 (l.map au)),(20003,o3),(20004,o4)]
def Ux (bx o1 o3 o4:Ob) (l:List (List UInt8)):St:={ env:=find [(0, .ptr 10000 0)],ob:=find (EI bx o1 o3 o4 l) }
def NQ (bx o1 o3 o4:Ob) (l:List (List UInt8)) (s:List UInt8):St:={ env:=find [(0, .ptr 10000 0),(14, .pv (.str s))],ob:=find (EI bx o1 o3 o4 l) }
def pick (e:Ex) (st:St):Option (Ex×Option SV×Option SV×List (Option Ob)):=some (e,st.env 0,st.env 2,[st.ob 10000,st.ob 10001,st.ob 20002,st.ob 20003,st.ob 20004])
abbrev zi (v0 v1:AV):Ob:= .box 101 [.pv v0, .pv v1, .row 10001, .row 20002, .row 20003, .row 20004]
theorem ex31 (v0 v1:AV) (a1 a2:List AV) (y3 y4:List (List AV)) (l:List (List UInt8)) (s:List UInt8):
  iJ P pz (H 119) c9 (.region 31 (oo 31) false) (NQ (zi v0 v1) (.mp 9 3 a1 a2) (.row 3 1 y3) (.row 35 1 y4) l s) pick=
   check ((List.length (l.map au)+List.length [[AV.str s]]) *16≤140737488355328∧List.length (l.map au)+List.length [[AV.str s]]≤4611686018427387904)
    (some (.normal,some (.ptr 10000 0),none,[some (zi v0 v1),some (.mp 9 3 a1 a2),some (.row 9 1 (l.map au++[[AV.str s]])),some (.row 3 1 y3),some (.row 35 1 y4)])):=by kernel_rfl
theorem ex32 (v0 v1:AV) (a1 a2:List AV) (y3 y4:List (List AV)) (l:List (List UInt8)):
  iJ P pz (H 119) c9 ck (Ux (zi v0 v1) (.mp 9 3 a1 a2) (.row 3 1 y3) (.row 35 1 y4) l) pick=
   yA (c9 135 [.row 10000] [(10000, .row 9 1 (l.map au))]) 10000 9 1 (fun r c=>eZ Q20 r fun _=>eZ (List.map au) c fun xs=>
    (some (.ret,some (.ptr 10000 0),some (.pv (.int .i64 0)),[some (zi v0 v1),some (.mp 9 3 a1 a2),some (.row 9 1 (xs.map au)),some (.row 3 1 y3),some (.row 35 1 y4)]))):=by kernel_rfl
end Go.Proofs.YtmidjldjkbljjaaGreatDoor.cl
set_option linter.unusedVariables false
set_option linter.unusedSimpArgs false
set_option linter.unusedSectionVars false
set_option maxRecDepth 100000
namespace Go.Proofs.YtmidjldjkbljjaaGreatDoor.cl
open Go Go.AM Go.RowKit
theorem bO {a:Act} {i:Nat} {v:Value} (h:i<a.tmps.size):(a.put (some i) v).tmps[i]? =some v:=by simp [Act.put,h]
theorem aV {a:Act} {i j:Nat} {v:Value} (h:i≠j):(a.put (some i) v).tmps[j]? =a.tmps[j]? :=by simp [Act.put,Array.getElem?_setIfInBounds,h]
theorem fh {a:Act} {i:Nat} {v:Value}:(a.put (some i) v).tmps.size=a.tmps.size:=by simp [Act.put]
theorem Ae {a:Act} {i:Nat} {v:Value} (h:a.tmps[i]? =some v):a.eval (.tmp i)=v:=by
 obtain ⟨hi,e⟩:=Array.getElem?_eq_some_iff.1 h;simp [Act.eval,Array.getD,hi,e]
theorem Pg {st:St} (hg:Gv st=true):∃(ks vs:List AV) (xs:List (List AV)) (v0 v1:AV) (a1 a2:List AV) (y3 y4:List (List AV)),
  st.env 0=some (.ptr 10000 0)∧st.env 3=some (.row 15)∧st.ob 10000=some (zi v0 v1)∧st.ob 15=some (.mp 9 4 ks vs)∧st.ob 20002=some (.row 9 1 xs)∧st.ob 10001=some (.mp 9 3 a1 a2)∧st.ob 20003=some (.row 3 1 y3)∧st.ob 20004=some (.row 35 1 y4)∧I7 xs ks=true:=by
 unfold Gv at hg;split at hg
 ·rename_i e0 e3 eb
  split at hg
  ·rename_i e15 e2 e1 e4 e5
   exact ⟨_,_,_,_,_,_,_,_,_,e0,e3,eb,e15,e2,e1,e4,e5,hg⟩
  ·cases hg
 ·cases hg
theorem I8 {xs:List (List AV)} {ks:List AV} (h:I7 xs ks=true):xs=(xs.map sk).map au∧ks=(ks.map strOf).map AV.str∧xs.length+ks.length≤1073741824:=by
 unfold I7 at h;simp only [Bool.and_eq_true,List.all_eq_true] at h;obtain ⟨⟨h1,h2⟩,h3⟩:=h;refine ⟨?_,?_,Nat.le_of_ble_eq_true h3⟩
 ·rw [List.map_map]
  refine (List.map_id xs).symm.trans (List.map_congr_left fun x hx=> ?_);have:=h1 x hx;unfold yL at this;split at this
  ·rename_i y
   unfold isStr at this;split at this
   ·rfl
   ·cases this
  ·cases this
 ·rw [List.map_map]
  refine (List.map_id ks).symm.trans (List.map_congr_left fun x hx=> ?_);have:=h2 x hx;unfold isStr at this;split at this
  ·rfl
  ·cases this
def pQ (e:MapEntry):List UInt8:=match e.key with
 | .string s=>s.data.toList
 |_=>[]
theorem SR {μ:Mu}:∀{Y:List (List UInt8)} {es:List MapEntry},bB μ (Y.map AV.str) (es.map (·.key))→es.map pQ=Y∧∀e∈es,e.key= .string ⟨(pQ e).toArray⟩:=by
 intro Y
 induction Y with
 |nil=>
  intro es h;have h':es.map (·.key)=[]:=by rw [List.map_nil,bB] at h;exact h
  have:es=[]:=List.map_eq_nil_iff.1 h';subst this;exact ⟨rfl,fun e he=>by cases he⟩
 |cons y Y ih=>
  intro es h;rw [List.map_cons,bB] at h;obtain ⟨u,us,e,hu,wW⟩:=h;cases es with
  |nil=>cases e
  |cons x es=>
   rw [List.map_cons] at e;injection e with e1 e2
   rw [rep] at hu;subst hu;rw [←e2] at wW;obtain ⟨a,b⟩:=ih wW;have hk:pQ x=y:=by unfold pQ;rw [e1]
   refine ⟨by rw [List.map_cons,a,hk],fun z hz=> ?_⟩;rcases List.mem_cons.1 hz with rfl|hz
   ·rw [hk,e1]
   ·exact b z hz
theorem JL {l m:List (List UInt8)} (h:l.Perm m):ec Op.bytesLess l=ec Op.bytesLess m:=by
 obtain ⟨s1,p1⟩:=lT Op.bytesLess (fun a b h=>jr h) wM l;obtain ⟨s2,p2⟩:=lT Op.bytesLess (fun a b h=>jr h) wM m;refine sA ((p1.trans h).trans p2.symm) s1 s2 fun x _ y _ h1 h2=> ?_
 apply Classical.byContradiction;intro hne;have:=lR _ _ h1 hne;rw [h2] at this;cases this
theorem vA {α β:Type} {f:α→β}:∀{l:List α},(l.map f).Nodup→l.Nodup:=by
 intro l
 induction l with
 |nil=>intro _;simp
 |cons x l ih=>
  intro h;rw [List.map_cons,List.nodup_cons] at h;rw [List.nodup_cons];exact ⟨fun hx=>h.1 (List.mem_map.2 ⟨x,hx,rfl⟩),ih h.2⟩
theorem OC {l:List MapEntry} (h:(l.map (·.born)).Nodup):∀x∈l,∀y∈l,x.born=y.born→x=y:=by
 induction l with
 |nil=>intro x hx;cases hx
 |cons a l ih=>
  rw [List.map_cons,List.nodup_cons] at h;intro x hx y hy e;rcases List.mem_cons.1 hx with rfl|hx'
  ·rcases List.mem_cons.1 hy with rfl|hy'
   ·rfl
   ·exact absurd (List.mem_map.2 ⟨y,hy',e.symm⟩) h.1
  ·rcases List.mem_cons.1 hy with rfl|hy'
   ·exact absurd (List.mem_map.2 ⟨x,hx',e⟩) h.1
   ·exact ih h.2 x hx' y hy' e
theorem hb32:find (H 119).blk (cn (.region 32 (oo 32) false))=none:=by kernel_rfl
theorem hb33:find (H 119).blk (cn (.region 33 (oo 33) false))=none:=by kernel_rfl
theorem UW {q:Prop} {B:Mu}:ij q B P (H 119) 102 ck:=by
 unfold ck;simp only [ij];rw [hb32];refine ⟨trivial,?_⟩;rw [hb33];exact ⟨trivial,trivial⟩
theorem UX:ia 102 ck=true:=by kernel_rfl
theorem Tf:ia 102 (.region 31 (oo 31) false)=true:=by kernel_rfl
theorem U7:∀o∈(oo 31).toList,∀i,o.dst=some i→i<102:=by
 intro o ho i hi;have h:=Tf;simp only [ia,List.all_eq_true] at h;have:=h o ho;simpa [hi,Nat.blt_eq] using this
theorem NS:∀(l:List (List UInt8)),strs (l.map au)=some l:=by
 intro l
 induction l with
 |nil=>rfl
 |cons s l ih=>simp [au,strs] at *;rw [ih]
theorem Tb {l:List (List UInt8)} (hl:l.length≤1073741824):c9 135 [.row 10000] [(10000, .row 9 1 (l.map au))]=some (.fk [],[(10000, .row 9 1 ((ec Op.bytesLess l).map au))]):=by
 have hb:Nat.ble l.length 1073741824=true:=Nat.ble_eq_true_of_le hl;simp only [c9,Ds,NS,hb,cond_true]
section
variable {B:Mu} (iu:ez False B P c9) (rU:P.follows .mixedOrders=true) {w0:World} {μ0:Mu} {L:kP} (hq:L.q=False) (hB:B.le μ0)
include iu rU hq hB
theorem Ve {v0 v1:AV} {a1 a2:List AV} {y3 y4:List (List AV)} {l:List (List UInt8)} (hl:l.length≤1073741824) {μ:Mu} {loc:Nat→Value} {a:Act} {w:World}
  (hR:Rel 102 w0 μ0 L μ loc (Ux (zi v0 v1) (.mp 9 3 a1 a2) (.row 3 1 y3) (.row 35 1 y4) l) a w):
  ck.wp P (K8 102 w0 μ0 L .ret { env:=find [(2, .pv (.int .i64 0))],ob:=find (EI (zi v0 v1) (.mp 9 3 a1 a2) (.row 3 1 y3) (.row 35 1 y4) (ec Op.bytesLess l)) }) a w:=by
 have hex:=ex32 v0 v1 a1 a2 y3 y4 l;rw [Tb hl,yB] at hex;rw [show (AV.fk []:AV)=Q20 () from rfl,eV,eV] at hex;obtain ⟨n,e,st',h1,h2⟩:=nX ck hex;unfold pick at h2;simp only [Option.some.injEq,Prod.mk.injEq,List.cons.injEq,and_true] at h2;obtain ⟨rfl,_,e2,o0,o1,o2,o3,o4⟩:=h2;refine wp_mono (Ag hB (by rw [hq];exact iu.mono hB) rU n ck _ _ _ UX UW h1 μ loc a w hR) ?_
 rintro e' a' w' ⟨rfl,μ',loc',h'⟩
 refine ⟨rfl,μ',loc',h'.sub (fun i sv hi=> ?_) (fun id o hi=> ?_)⟩
 ·simp only [find] at hi
  cases hb:Nat.beq 2 i with
  |true=>
   rw [hb,cond_true] at hi;rw [←Nat.eq_of_beq_eq_true hb,e2];exact hi
  |false=>rw [hb,cond_false] at hi;cases hi
 ·have key:∀(l:List (Nat×Ob)),(∀p∈l,st'.ob p.1=some p.2)→∀id o,find l id=some o→st'.ob id=some o:=by
   intro l
   induction l with
   |nil=>intro _ id o h;cases h
   |cons p l ih=>
    intro hp id o h;simp only [find] at h;cases hb:Nat.beq p.1 id with
    |true=>
     rw [hb,cond_true] at h;rw [←Nat.eq_of_beq_eq_true hb,hp p (by simp)];exact h
    |false=>rw [hb,cond_false] at h;exact ih (fun p hp'=>hp p (by simp [hp'])) id o h
  refine key _ ?_ id o hi;intro p hp;simp only [EI,List.mem_cons,List.not_mem_nil,or_false] at hp;rcases hp with rfl|rfl|rfl|rfl|rfl
  ·exact o0
  ·exact o1
  ·exact o2
  ·exact o3
  ·exact o4
theorem vu {bx o1 o3 o4:Ob} {l:List (List UInt8)} {id:Nat} {o:Ob} (h:find (EI bx o1 o3 o4 l) id=some o):(id,o)∈EI bx o1 o3 o4 l:=by
 have key:∀(l:List (Nat×Ob)),find l id=some o→(id,o)∈l:=by
  intro l
  induction l with
  |nil=>intro h;cases h
  |cons p l ih=>
   intro h;obtain ⟨k,x⟩:=p;simp only [find] at h;cases hb:Nat.beq k id with
   |true=>
    rw [hb,cond_true] at h;injection h with h
    rw [←Nat.eq_of_beq_eq_true hb,h];simp
   |false=>rw [hb,cond_false] at h;exact List.mem_cons_of_mem _ (ih h)
 exact key _ h
theorem O7 {bx o1 o3 o4:Ob} {l:List (List UInt8)} {f:Nat→Option Ob} (h0:f 10000=some bx) (h1:f 10001=some o1) (h2:f 20002=some (.row 9 1 (l.map au))) (h3:f 20003=some o3) (h4:f 20004=some o4):
  ∀id o,find (EI bx o1 o3 o4 l) id=some o→f id=some o:=by
 intro id o h;have:=vu iu rU hq hB h;simp only [EI,List.mem_cons,List.not_mem_nil,or_false,Prod.mk.injEq] at this;rcases this with ⟨rfl,rfl⟩|⟨rfl,rfl⟩|⟨rfl,rfl⟩|⟨rfl,rfl⟩|⟨rfl,rfl⟩
 ·exact h0
 ·exact h1
 ·exact h2
 ·exact h3
 ·exact h4
omit iu rU hq hB in
theorem Su {s:SV} {i:Nat} {sv:SV} (h:find [(0,s)] i=some sv):i=0∧sv=s:=by
 simp only [find] at h;cases hb:Nat.beq 0 i with
 |true=>rw [hb,cond_true] at h;injection h with h;exact ⟨(Nat.eq_of_beq_eq_true hb).symm,h.symm⟩
 |false=>rw [hb,cond_false] at h;cases h
theorem UK {v0 v1:AV} {a1 a2:List AV} {y3 y4:List (List AV)} {l:List (List UInt8)} {s:List UInt8} (hl:l.length≤1073741824) {μ:Mu} {loc:Nat→Value} {a:Act} {w:World} {t82:Value} (h82:a.tmps[82]? =some t82)
  (hR:Rel 102 w0 μ0 L μ loc (NQ (zi v0 v1) (.mp 9 3 a1 a2) (.row 3 1 y3) (.row 35 1 y4) l s) a w):
  (Code.region 31 (oo 31) false).wp P (fun e a' w'=>e= .normal∧a'.tmps[82]? =some t82∧∃μ' loc',Rel 102 w0 μ0 L μ' loc' (Ux (zi v0 v1) (.mp 9 3 a1 a2) (.row 3 1 y3) (.row 35 1 y4) (l++[s])) a' w'∧
   (∀id o,find (EI (zi v0 v1) (.mp 9 3 a1 a2) (.row 3 1 y3) (.row 35 1 y4) (l++[s])) id=some o→∀g,fV (loc' id) g→w.heap.size≤g∨∃id' o',find (EI (zi v0 v1) (.mp 9 3 a1 a2) (.row 3 1 y3) (.row 35 1 y4) l) id'=some o'∧fV (loc id') g)∧
   (∀b,b<w.heap.size→(∀id o,find (EI (zi v0 v1) (.mp 9 3 a1 a2) (.row 3 1 y3) (.row 35 1 y4) l) id=some o→¬fV (loc id) b)→w'.heap[b]? =w.heap[b]?)∧
   (∀b j,b<w.heap.size→μ b j=none→μ' b j=none)) a w:=by
 have hex:=ex31 v0 v1 a1 a2 y3 y4 l s;rw [aU (by rw [List.length_map];simp only [List.length_cons,List.length_nil];omega)] at hex;obtain ⟨n,e,st',h1,h2⟩:=nX (.region 31 (oo 31) false) hex;unfold pick at h2;simp only [Option.some.injEq,Prod.mk.injEq,List.cons.injEq,and_true] at h2;obtain ⟨rfl,e0,_,o0,o1,o2,o3,o4⟩:=h2
 have hI:=hR.into (fun id o h=>by
  have:=vu iu rU hq hB h;simp only [EI,List.mem_cons,List.not_mem_nil,or_false,Prod.mk.injEq] at this
  rcases this with ⟨rfl,rfl⟩|⟨rfl,rfl⟩|⟨rfl,rfl⟩|⟨rfl,rfl⟩|⟨rfl,rfl⟩<;>exact ⟨by omega,fun k e s ks vs h=>by cases h⟩)
 have e7:ez (Fs (NQ (zi v0 v1) (.mp 9 3 a1 a2) (.row 3 1 y3) (.row 35 1 y4) l s).ob loc L.q).q μ P c9:=by
  show ez L.q μ P c9;rw [hq];exact iu.mono (hB.trans hR.base.1)
 refine wp_region_list ?_;have hw:=Fh (Q:=fun e a' w'=>e= .normal∧∃μ' loc',Rel 102 w μ (Fs (NQ (zi v0 v1) (.mp 9 3 a1 a2) (.row 3 1 y3) (.row 35 1 y4) l s).ob loc L.q) μ' loc' st' a' w') e7 U7 h1 hI (fun a' w' μ' loc' h=>⟨rfl,μ',loc',h⟩);have hw2:=ID _ a w q31 h82 hw;have mono:∀{Q Q':Exit→Act→World→Prop},(∀e a w,Q e a w→Q' e a w)→∀(l:List Oper) (a:Act) (w:World),wpList P (oo 31) Q l a w→wpList P (oo 31) Q' l a w:=by
  intro Q Q' hQ l
  induction l with
  |nil=>intro a w h;exact hQ _ _ _ h
  |cons o l ih=>
   intro a w h;unfold wpList at h⊢;have hLO:LetsOut Q→LetsOut Q':=fun ⟨a,w,h⟩=>⟨a,w,hQ _ _ _ h⟩
   split at h
   ·rename_i GV
    rw [if_pos GV];rcases h with h|⟨h1,h2⟩
    ·refine .inl ?_
     unfold Oper.wp at h⊢;generalize (execOp a.eval o).run P w=r at h⊢;unfold Oper.upon at h⊢;split at h
     ·exact ih _ _ h
     ·exact ih _ _ h
     ·exact ih _ _ h
     ·refine h.mono ?_
      intro e w2 h2;cases e with
      |returned v=>exact ih _ _ h2
      |panicked ch=>exact hQ _ _ _ h2
      |outgrown=>exact hLO h2
     ·exact h.mono fun v w2 h2=>ih _ _ h2
     ·exact hQ _ _ _ h
     ·exact h.elim
    ·exact .inr ⟨h1,hLO h2⟩
   ·rename_i GV
    rw [if_neg GV];exact ih _ _ h
 refine mono ?_ _ _ _ hw2
 rintro e a' w' ⟨⟨rfl,μ',loc',rQ⟩,ht⟩
 have N4:Rel 102 w μ (Fs (NQ (zi v0 v1) (.mp 9 3 a1 a2) (.row 3 1 y3) (.row 35 1 y4) l s).ob loc L.q) μ' loc' (Ux (zi v0 v1) (.mp 9 3 a1 a2) (.row 3 1 y3) (.row 35 1 y4) (l++[s])) a' w':=
  rQ.sub (fun i sv hi=>by
   obtain ⟨rfl,rfl⟩:=Su hi
   exact e0) (O7 iu rU hq hB o0 o1 (by rw [o2,List.map_append];rfl) o3 o4)
 obtain ⟨⟨ji,hb1,SC⟩,hb3⟩:=hR.back N4 (names:=[10000,10001,20002,20003,20004]) (fun id=>by
  constructor
  ·intro hs
   obtain ⟨o,ho⟩:=Option.isSome_iff_exists.1 hs;have:=vu iu rU hq hB ho;simp only [EI,List.mem_cons,List.not_mem_nil,or_false,Prod.mk.injEq] at this;rcases this with ⟨rfl,_⟩|⟨rfl,_⟩|⟨rfl,_⟩|⟨rfl,_⟩|⟨rfl,_⟩<;>simp
  ·intro hs
   simp only [List.mem_cons,List.not_mem_nil,or_false] at hs
   rcases hs with rfl|rfl|rfl|rfl|rfl<;>rfl) (fun id o ho=>by
  have:=vu iu rU hq hB ho;simp only [EI,List.mem_cons,List.not_mem_nil,or_false,Prod.mk.injEq] at this;rcases this with ⟨rfl,rfl⟩|⟨rfl,rfl⟩|⟨rfl,rfl⟩|⟨rfl,rfl⟩|⟨rfl,rfl⟩
  ·exact ⟨by simp,rfl,rfl⟩
  ·exact ⟨by simp,rfl,rfl⟩
  ·exact ⟨by simp,rfl,rfl⟩
  ·exact ⟨by simp,rfl,rfl⟩
  ·exact ⟨by simp,rfl,rfl⟩) (fun i sv hi=>by
  obtain ⟨rfl,rfl⟩:=Su hi
  exact ⟨rfl,rfl⟩)
 refine ⟨rfl,ht rfl,μ',ji,hb1,fun id o ho g hg=>SC id o ho g hg,fun b hlt hno=>hb3 b hlt hno,fun b j hlt hm=> ?_⟩;cases hv:μ' b j with
 |none=>rfl
 |some v=>
  rcases rQ.base.2 b j v hv with h|h
  ·rw [hm] at h;cases h
  ·omega
end
end Go.Proofs.YtmidjldjkbljjaaGreatDoor.cl
set_option linter.unusedVariables false
set_option linter.unusedSimpArgs false
set_option linter.unusedSectionVars false
set_option maxRecDepth 100000
namespace Go.Proofs.YtmidjldjkbljjaaGreatDoor.cl
open Go Go.AM Go.RowKit
def R5 (w0:World) (μ0:Mu) (L:kP) (v0 v1:AV) (a1 a2:List AV) (y3 y4:List (List AV)) (X:List (List UInt8)) (r b:Nat) (bL:Array MapEntry) (clock:Nat) (a:Act) (w:World):Prop:=
 ∃(μ:Mu) (loc:Nat→Value) (es:List MapEntry) (seen:Array Nat) (c:Nat),
  Rel 102 w0 μ0 L μ loc (Ux (zi v0 v1) (.mp 9 3 a1 a2) (.row 3 1 y3) (.row 35 1 y4) (X++es.map pQ)) a w∧
  a.tmps[82]? =some (.pointer (some ⟨r,0,none⟩))∧w.heap[b]? =some (.map bL clock)∧w.heap[r]? =some (.mapIter (some b) clock seen c)∧clock≤c∧(∀j,μ r j=none)∧
  (∀id o,find (EI (zi v0 v1) (.mp 9 3 a1 a2) (.row 3 1 y3) (.row 35 1 y4) (X++es.map pQ)) id=some o→¬fV (loc id) r∧¬fV (loc id) b)∧
  (∀e∈es,e∈bL.toList)∧(es.map (·.born)).Nodup∧(∀n,seen.contains n=true↔n∈es.map (·.born))
def C8 (r:Nat) (bL:Array MapEntry) (w:World):Nat:=match w.heap[r]? with
 |some (.mapIter _ _ seen _)=>(leftOf bL seen).size
 |_=>0
theorem wp_assign {P:Program} {o:Oper} {a:Act} {w:World} {K:Act→World→Prop} {Q:Exit→Act→World→Prop} {d i:Nat} {v:Value} (hd:o.dst=some d) (ho:o.op= .move (.tmp i)∨o.op= .assign (.tmp i)) (h:a.tmps[i]? =some v) (hK:K (a.put (some d) v) w):o.wp P a w K Q:=by
 refine dZ (v:=v) (w':=w) ?_ (by rw [hd];exact hK);unfold execOp;rcases ho with ho|ho<;>rw [ho]<;>simp [Ae h]
theorem uO {P:Program} {o:Oper} {a:Act} {w:World} {K:Act→World→Prop} {Q:Exit→Act→World→Prop} {d i j:Nat} {us:Array Value} {v:Value} (hd:o.dst=some d) (ho:o.op= .extract (.tmp i) j) (h:a.tmps[i]? =some (.tuple us)) (hv:us[j]? =some v) (hK:K (a.put (some d) v) w):o.wp P a w K Q:=by
 refine dZ (v:=v) (w':=w) ?_ (by rw [hd];exact hK);unfold execOp;rw [ho];simp [Ae h,Instr.extract,hv]
theorem zO {P:Program} {o:Oper} {a:Act} {w w':World} {K:Act→World→Prop} {Q:Exit→Act→World→Prop} {d:Nat} {v:Value} {s:Sem Value} (hd:o.dst=some d) (ho:execOp a.eval o=(do pure (.value (←s)))) (hs:s.run P w= .ok v w') (hK:K (a.put (some d) v) w'):o.wp P a w K Q:=by
 refine dZ (v:=v) (w':=w') ?_ (by rw [hd];exact hK);rw [ho];simp [hs]
section
variable {B:Mu} (iu:ez False B P c9) (rU:P.follows .mixedOrders=true) {w0:World} {μ0:Mu} {L:kP} (hq:L.q=False) (hB:B.le μ0)
include iu rU hq hB
variable {v0 v1:AV} {a1 a2:List AV} {y3 y4:List (List AV)} {X Y:List (List UInt8)} {r b:Nat} {bL:Array MapEntry} {clock:Nat}
theorem RH (IN:w0.heap.size≤r) (hrb:r≠b) (vh:MC bL clock) (hkey:∀e∈bL.toList,e.key= .string ⟨(pQ e).toArray⟩) (hY:bL.toList.map pQ=Y) (hlen:X.length+Y.length≤1073741824) {a:Act} {w:World}
  (hI:R5 w0 μ0 L v0 v1 a1 a2 y3 y4 X r b bL clock a w):
  rkC.wp P (Exit.then (fun a' w'=>R5 w0 μ0 L v0 v1 a1 a2 y3 y4 X r b bL clock a' w'∧C8 r bL w'<C8 r bL w) (fun e a' w'=>e= .exit 8∧∃μ loc l,(ec Op.bytesLess l=ec Op.bytesLess (X++Y)∧l.length≤1073741824)∧
   Rel 102 w0 μ0 L μ loc (Ux (zi v0 v1) (.mp 9 3 a1 a2) (.row 3 1 y3) (.row 35 1 y4) l) a' w')) a w:=by
 obtain ⟨μ,loc,es,seen,c,hR,h82,hb,hr,hc,pH,hno,hsub,hnd,PC⟩:=hI;have hsz:a.tmps.size=102:=hR.size;have Yv:es.Nodup:=vA hnd;have Vn:bL.toList.Nodup:=vA vh.2;have heslen:es.length≤bL.toList.length:=by
  have:=dw (l:=es.map (·.born)) (m:=bL.toList.map (·.born)) hnd (fun x hx=>by
   obtain ⟨e,he,rfl⟩:=List.mem_map.1 hx
   exact List.mem_map.2 ⟨e,hsub e he,rfl⟩)
  simpa using this
 have hYl:Y.length=bL.toList.length:=by rw [←hY,List.length_map]
 unfold rkC;refine wp_seq (wp_region_list ?_);obtain ⟨x,y,e29,dx,hx,dy,hy⟩:=q29;rw [e29];have hev:execOp a.eval x=(do pure (.value (←Instr.next (.pointer (some ⟨r,0,none⟩)) false x.type))):=by
  unfold execOp;rw [hx];simp only [Ae h82]
 rcases run_next_at (P:=P) w x.type r b clock c seen bL clock hr hb vh.1 hc with ⟨h0,hrun⟩|⟨e,he,w1,hal,hrun⟩
 ·
  refine wpList_plain dx.guard fun K hK=>zO dx.dst hev hrun (hK _ _ ?_)
  refine wpList_plain dy.guard fun K hK=>uO dy.dst hy (bO (by rw [hsz];omega)) (v:= .bool false) (by simp) (hK _ _ (wpList_nil ?_))
  show Code.wp P _ _ _ _;refine wp_seq (wp_cond_false (Ae (bO (by rw [fh,hsz];omega))) (wp_exit ?_));show Exit.exit 8= .exit 8∧_;have hp:(X++es.map pQ).Perm (X++Y):=by
   rw [←hY];refine List.Perm.append_left _ (List.Perm.map _ ?_);refine (List.perm_ext_iff_of_nodup Yv Vn).2 fun z=>⟨hsub z,fun hz=> ?_⟩
   have hs:=all_seen bL seen h0 z hz;obtain ⟨z',WZ,e'⟩:=List.mem_map.1 ((PC _).1 hs);have:=OC vh.2 z' (hsub z' WZ) z hz e';rw [←this];exact WZ
  refine ⟨rfl,μ,loc,X++es.map pQ,⟨JL hp,by rw [List.length_append,List.length_map];omega⟩,hR.re ?_ hR.defers (fun i sv hi=> ?_) fun id o h=>h⟩
  ·rw [fh,fh,hsz]
  ·obtain ⟨rfl,rfl⟩:=Su hi
   rw [aV (by omega),aV (by omega)];exact hR.env 0 _ rfl
 ·
  obtain ⟨hem,hes⟩:=mem_left he;have hnew:e.born∉es.map (·.born):=fun hm=>by rw [(PC _).2 hm] at hes;cases hes
  have vk:∀w1:World,(w1=w∨w1=w.drew)→w1.heap=w.heap:=by
   rintro w1 (rfl|rfl)<;>rfl
  have hh1:=vk w1 hal;have hr1:w1.heap[r]? =some (.mapIter (some b) clock seen c):=by rw [hh1];exact hr
  have hst:=MapKept.heap_set (o':= .mapIter (some b) clock (seen.push e.born) clock) hr1;have N4:Rel 102 w0 μ0 L μ loc (Ux (zi v0 v1) (.mp 9 3 a1 a2) (.row 3 1 y3) (.row 35 1 y4) (X++es.map pQ)) a (Go.ChangeMaps.setBlock w1 r (.mapIter (some b) clock (seen.push e.born) clock)):=by
   refine hR.aside IN pH (fun id o h=>(hno id o h).1) (fun b' hne=> ?_) ?_ ?_ ?_ ?_ ?_
   ·show (w1.heap.setIfInBounds r _)[b']? =_
    rw [hst.2 b' hne,hh1]
   ·rcases hal with rfl|rfl<;>rfl
   ·rcases hal with rfl|rfl<;>rfl
   ·rcases hal with rfl|rfl<;>rfl
   ·show (w1.heap.setIfInBounds r _).size=_
    rw [Array.size_setIfInBounds,hh1]
   ·rcases hal with rfl|rfl
    ·exact Nat.le_refl _
    ·exact Nat.le_succ _
  have WT:(Go.ChangeMaps.setBlock w1 r (.mapIter (some b) clock (seen.push e.born) clock)).heap[r]? =some (.mapIter (some b) clock (seen.push e.born) clock):=hst.1;have SC:(Go.ChangeMaps.setBlock w1 r (.mapIter (some b) clock (seen.push e.born) clock)).heap[b]? =some (.map bL clock):=by
   show (w1.heap.setIfInBounds r _)[b]? =_;rw [hst.2 b (fun e=>hrb e.symm),hh1];exact hb
  generalize Go.ChangeMaps.setBlock w1 r (.mapIter (some b) clock (seen.push e.born) clock)=w2 at hrun N4 WT SC;refine wpList_plain dx.guard fun K hK=>zO dx.dst hev hrun (hK _ _ ?_)
  refine wpList_plain dy.guard fun K hK=>uO dy.dst hy (bO (by rw [hsz];omega)) (v:= .bool true) (by simp) (hK _ _ (wpList_nil ?_))
  show Code.wp P _ _ _ _;refine wp_seq (wp_cond_true (Ae (bO (by rw [fh,hsz];omega))) (wp_skip ?_));show Code.wp P _ _ _ _;refine wp_block (wp_seq (wp_region_list ?_));obtain ⟨p,q,s,e30,dp,hp,dq,hqq,ds,hs⟩:=q30;rw [e30];have Vh:(((a.put (some 83) (.tuple #[.bool true,e.key,e.val])).put (some 84) (.bool true))).tmps[82]? =some (.pointer (some ⟨r,0,none⟩)):=by
   rw [aV (by omega),aV (by omega)];exact h82
  have PF:(((a.put (some 83) (.tuple #[.bool true,e.key,e.val])).put (some 84) (.bool true))).tmps.size=102:=by rw [fh,fh,hsz]
  have h0':(((a.put (some 83) (.tuple #[.bool true,e.key,e.val])).put (some 84) (.bool true))).tmps[0]? =a.tmps[0]? :=by
   rw [aV (by omega),aV (by omega)]
  have hd':(((a.put (some 83) (.tuple #[.bool true,e.key,e.val])).put (some 84) (.bool true))).defers=[]:=hR.defers;generalize ((a.put (some 83) (.tuple #[.bool true,e.key,e.val])).put (some 84) (.bool true))=c2 at Vh PF h0' hd';have hev2:execOp c2.eval p=(do pure (.value (←Instr.entry (.pointer (some ⟨r,0,none⟩))))):=by
   unfold execOp;rw [hp];simp only [Ae Vh]
  refine wpList_plain dp.guard fun K hK=>zO dp.dst hev2 (run_entry_at w2 r b clock seen bL clock e WT SC hem vh.2) (hK _ _ ?_)
  refine wpList_plain dq.guard fun K hK=>uO dq.dst hqq (bO (by rw [PF];omega)) (v:=e.key) (by simp) (hK _ _ ?_)
  refine wpList_plain ds.guard fun K hK=>wp_assign ds.dst (.inr hs) (v:=e.key) (bO (by rw [fh,PF];omega)) (hK _ _ (wpList_nil ?_))
  show Code.wp P _ _ _ _;have TE:(((c2.put (some 85) (.tuple #[e.key,e.val])).put (some 86) e.key).put (some 14) e.key).tmps[82]? =some (.pointer (some ⟨r,0,none⟩)):=by
   rw [aV (by omega),aV (by omega),aV (by omega)];exact Vh
  have TQ:(((c2.put (some 85) (.tuple #[e.key,e.val])).put (some 86) e.key).put (some 14) e.key).tmps.size=102:=by rw [fh,fh,fh,PF]
  have XC:(((c2.put (some 85) (.tuple #[e.key,e.val])).put (some 86) e.key).put (some 14) e.key).tmps[0]? =a.tmps[0]? :=by
   rw [aV (by omega),aV (by omega),aV (by omega)];exact h0'
  have Tz:(((c2.put (some 85) (.tuple #[e.key,e.val])).put (some 86) e.key).put (some 14) e.key).tmps[14]? =some e.key:=bO (by rw [fh,fh,PF];omega);have Yh:(((c2.put (some 85) (.tuple #[e.key,e.val])).put (some 86) e.key).put (some 14) e.key).defers=[]:=hd';generalize (((c2.put (some 85) (.tuple #[e.key,e.val])).put (some 86) e.key).put (some 14) e.key)=a3 at TE TQ XC Tz Yh;have hR3:Rel 102 w0 μ0 L μ loc (NQ (zi v0 v1) (.mp 9 3 a1 a2) (.row 3 1 y3) (.row 35 1 y4) (X++es.map pQ) (pQ e)) a3 w2:=by
   refine N4.re TQ Yh (fun i sv hi=> ?_) fun id o h=>h
   have hi':find [(0,SV.ptr 10000 0),(14,SV.pv (.str (pQ e)))] i=some sv:=hi;simp only [find] at hi';cases h0b:Nat.beq 0 i with
   |true=>
    rw [h0b,cond_true] at hi';injection hi' with hi'
    rw [←Nat.eq_of_beq_eq_true h0b,←hi',XC];exact hR.env 0 _ rfl
   |false=>
    rw [h0b,cond_false] at hi';cases h1b:Nat.beq 14 i with
    |true=>
     rw [h1b,cond_true] at hi';injection hi' with hi'
     rw [←Nat.eq_of_beq_eq_true h1b,←hi',Tz];exact ⟨_,rfl,by show rep μ (.str (pQ e)) e.key;rw [rep,hkey e hem]⟩
    |false=>rw [h1b,cond_false] at hi';cases hi'
  have iE:=UK iu rU hq hB (s:=pQ e) (by rw [List.length_append,List.length_map];omega) TE hR3;refine wp_mono iE ?_
  rintro ee a' w' ⟨rfl,k82,μ',loc',k1,k2,k3,k4⟩
  have Yy:r<w2.heap.size:=(Array.getElem?_eq_some_iff.1 WT).1;have SD:b<w2.heap.size:=(Array.getElem?_eq_some_iff.1 SC).1;have kr:w'.heap[r]? =some (.mapIter (some b) clock (seen.push e.born) clock):=(k3 r Yy fun id o h=>(hno id o h).1).trans WT;show R5 w0 μ0 L v0 v1 a1 a2 y3 y4 X r b bL clock a' w'∧C8 r bL w'<C8 r bL w;have iE:X++(es++[e]).map pQ=(X++es.map pQ)++[pQ e]:=by rw [List.map_append,←List.append_assoc];rfl
  refine ⟨⟨μ',loc',es++[e],seen.push e.born,clock,by rw [iE];exact k1,k82,(k3 b SD fun id o h=>(hno id o h).2).trans SC,kr,Nat.le_refl _,fun j=>k4 r j Yy (pH j),fun id o h=> ?_,fun z hz=> ?_,?_,fun n=> ?_⟩,?_⟩
  ·rw [iE] at h
   constructor
   ·intro hin
    rcases k2 id o h r hin with h1|⟨id',o',h1,h2⟩
    ·omega
    ·exact (hno id' o' h1).1 h2
   ·intro hin
    rcases k2 id o h b hin with h1|⟨id',o',h1,h2⟩
    ·omega
    ·exact (hno id' o' h1).2 h2
  ·rcases List.mem_append.1 hz with hz|hz
   ·exact hsub z hz
   ·rw [List.mem_singleton] at hz;rw [hz];exact hem
  ·rw [List.map_append,List.nodup_append]
   refine ⟨hnd,by simp,fun x hx y hy=> ?_⟩;simp only [List.map_cons,List.map_nil,List.mem_singleton] at hy
   rintro rfl
   exact hnew (hy▸hx)
  ·rw [contains_push,Bool.or_eq_true,PC,List.map_append,List.mem_append]
   simp only [List.map_cons,List.map_nil,List.mem_singleton,beq_iff_eq]
  ·unfold C8
   rw [kr,hr];exact left_shrinks bL seen e he
end
theorem ML {B:Mu} (iu:ez False B P c9) (rU:P.follows .mixedOrders=true):zP False B P 102 bk Gv Gu:=by
 intro w0 μ0 L μ loc st a w hq hB hg hR;obtain ⟨ks,vs,xs,v0,v1,a1,a2,y3,y4,g0,g3,gb,g15,g2,g1,g4,g5,hC⟩:=Pg hg;obtain ⟨hxs,hks,hlen⟩:=I8 hC;obtain ⟨b,bL,clock,hl,hown,hh,pH,h1,h2,vh⟩:=hR.obs 15 _ g15;rw [hks] at h1;obtain ⟨hY,hkey⟩:=SR h1;obtain ⟨v3,ht3,hr3⟩:=hR.env 3 _ g3;have hv3:v3= .map (some b):=by
  have:v3=dL (loc 15):=hr3;rw [this,hl];rfl
 subst hv3;have hsz:a.tmps.size=102:=hR.size;have hF:Gu st=(1,{ env:=find [(2, .pv (.int .i64 0))],ob:=find (EI (zi v0 v1) (.mp 9 3 a1 a2) (.row 3 1 y3) (.row 35 1 y4) (ec Op.bytesLess (xs.map sk++ks.map strOf))) }):=by
  unfold Gu;rw [g15,g2,gb,g1,g4,g5];rfl
 rw [hF,Tu];refine wp_seq (wp_seq (wp_region_list ?_));obtain ⟨x,y,e28,dx,hx,dy,hy⟩:=q28;rw [e28];refine wpList_plain dx.guard fun K hK=>wp_assign dx.dst (.inl hx) ht3 (hK _ _ ?_)
 have h81:(a.put (some 81) (.map (some b))).tmps[81]? =some (.map (some b)):=bO (by rw [hsz];omega);have hev:execOp (a.put (some 81) (.map (some b))).eval y=(do pure (.value (←Instr.range 151 (.map (some b))))):=by
  unfold execOp;rw [hy];simp only [Ae h81]
 refine wpList_plain dy.guard fun K hK=>zO dy.dst hev (run_range_map w 151 9 4 b bL clock Y8 hh) (hK _ _ (wpList_nil ?_))
 show Code.wp P _ _ _ _;have SD:b<w.heap.size:=(Array.getElem?_eq_some_iff.1 hh).1;have hno:∀id o,find (EI (zi v0 v1) (.mp 9 3 a1 a2) (.row 3 1 y3) (.row 35 1 y4) (xs.map sk)) id=some o→st.ob id=some o∧id≠15:=by
  intro id o h;have hmem:(id,o)∈EI (zi v0 v1) (.mp 9 3 a1 a2) (.row 3 1 y3) (.row 35 1 y4) (xs.map sk):=vu iu rU hq hB h;simp only [EI,List.mem_cons,List.not_mem_nil,or_false,Prod.mk.injEq] at hmem;rcases hmem with ⟨rfl,rfl⟩|⟨rfl,rfl⟩|⟨rfl,rfl⟩|⟨rfl,rfl⟩|⟨rfl,rfl⟩
  ·exact ⟨gb,by decide⟩
  ·exact ⟨g1,by decide⟩
  ·exact ⟨by rw [←hxs];exact g2,by decide⟩
  ·exact ⟨g4,by decide⟩
  ·exact ⟨g5,by decide⟩
 have En:Rel 102 w0 μ0 L μ loc st a (w.alloc (.mapIter (some b) clock #[] clock)):=hR.Ls (lQ w _);have N4:Rel 102 w0 μ0 L μ loc (Ux (zi v0 v1) (.mp 9 3 a1 a2) (.row 3 1 y3) (.row 35 1 y4) (xs.map sk++([]:List MapEntry).map pQ)) ((a.put (some 81) (.map (some b))).put (some 82) (.pointer (some ⟨w.heap.size,0,none⟩))) (w.alloc (.mapIter (some b) clock #[] clock)):=by
  rw [List.map_nil,List.append_nil];refine En.re (by rw [fh,fh,hsz]) hR.defers (fun i sv hi=> ?_) fun id o h=>(hno id o h).1
  obtain ⟨rfl,rfl⟩:=Su hi;rw [aV (by omega),aV (by omega)];exact hR.env 0 _ g0
 refine wp_block (wp_loop (R5 w0 μ0 L v0 v1 a1 a2 y3 y4 (xs.map sk) w.heap.size b bL clock) (fun _ w'=>C8 w.heap.size bL w') ?_ ?_)
 ·refine ⟨μ,loc,[], #[],clock,N4,bO (by rw [fh,hsz];omega),?_,?_,Nat.le_refl _,fun j=> ?_,fun id o h=> ?_,fun e he=>(by cases he),by simp,fun n=>by simp⟩
  ·show (w.heap.push _)[b]? =_
   rw [Array.getElem?_push_lt SD,←Array.getElem?_eq_getElem SD];exact hh
  ·show (w.heap.push _)[w.heap.size]? =_
   simp
  ·cases hv:μ w.heap.size j with
   |none=>rfl
   |some v=>have:=su (hR.q8 _ _ _ hv);omega
  ·rw [List.map_nil,List.append_nil] at h
   obtain ⟨h3,h4⟩:=hno id o h;refine ⟨fun hin=> ?_,fun hin=> ?_⟩
   ·have:=((hR.obs id o h3).block _ hin).2.1;omega
   ·exact hR.apart id 15 o _ h3 g15 h4 b hin (by rw [hl];exact mJ.2 rfl)
 ·intro a' w' hI
  refine wp_mono (RH iu rU hq hB hR.grown (by omega) vh hkey hY (by rw [List.length_map,List.length_map];exact hlen) hI) ?_;intro e a2 w2 h;cases e with
  |normal=>exact h
  |exit id=>
   obtain ⟨e8,μ',loc',l,⟨hs,IM⟩,rQ⟩:=h;injection e8 with e8
   subst e8;show Code.wp P _ _ _ _;have:=Ve iu rU hq hB IM rQ;rw [hs] at this;exact this
  |goto l=>exact absurd h.1 (by simp)
  |ret=>exact absurd h.1 (by simp)
  |panic ch=>exact absurd h.1 (by simp)
  |outgrown=>exact absurd h.1 (by simp)
theorem qj {B:Mu} (iu:ez False B P c9) (rU:P.follows .mixedOrders=true):∀f fn c,P.funcs[f]? =some fn→fn.body=some c→ij False B P (H f) fn.ntmps c:=by
 intro f fn c hf hb;by_cases h:f=119
 ·subst h
  have hn:fn.ntmps=102:=by
   have:(P.funcs[119]?).map (·.ntmps)=some 102:=by kernel_rfl
   rw [hf] at this;exact Option.some.inj this
  have hc:c=uW:=by
   have:uW=c:=by
    unfold uW;rw [hf];show fn.body.getD Code.skip=c;rw [hb];rfl
   exact this.symm
  rw [hn,hc];refine Ox _ fun a b x hm hx=> ?_
  rw [Sd,List.mem_singleton] at hm;rw [hm];have h28:cn a=28:=by
   have:Code.seq a b= .seq (.seq (.region 28 (oo 28) false) (.block 8 (.loop rkC))) ck:=hm.trans Tu;injection this with h1 h2
   rw [h1];rfl
  rw [h28] at hx;have:find (H 119).blk 28=some (Gv,Gu):=by kernel_rfl
  rw [this] at hx;injection hx with hx
  rw [←hx];exact ML iu rU
 ·refine ij.none ?_ c
  have key:∀(l:List (Nat×Hint)),(l.all fun p=>Nat.beq p.1 119||p.2.blk.isEmpty)=true→∀f,f≠119→((find l f).getD {}).blk=[]:=by
   intro l
   induction l with
   |nil=>intro _ f _;rfl
   |cons p l ih=>
    intro h f hf;rw [List.all_cons,Bool.and_eq_true,Bool.or_eq_true] at h;simp only [find];cases hb:Nat.beq p.1 f with
    |true=>
     rw [cond_true];rcases h.1 with h1|h1
     ·exact absurd ((Nat.eq_of_beq_eq_true hb).symm.trans (Nat.eq_of_beq_eq_true h1)) hf
     ·exact List.isEmpty_iff.1 h1
    |false=>rw [cond_false];exact ih h.2 f hf
  exact key hints (by kernel_rfl) f h
end Go.Proofs.YtmidjldjkbljjaaGreatDoor.cl
