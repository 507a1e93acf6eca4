/- Sorting. -/
import Derived.Test.YtfoddgpndoeeaaaGreatDoorClT
import Derived.Test.YtfoddgpndoeeaaaGreatDoorAmB
import Derived.Test.YtfoddgpndoeeaaaGreatDoorClG
set_option linter.unusedVariables false
set_option linter.unusedSimpArgs false
namespace Go.Proofs.YtfoddgpndoeeaaaGreatDoor.cl
open Go Go.AM Go.RowKit
theorem rF {α:Type} {lt:α→α→Bool}:∀{l l':List α},l.Perm l'→fI lt l→fI lt l'→(∀x∈l,∀y∈l,lt x y=false→lt y x=false→x=y)→l=l':=by
 intro l
 induction l with
 |nil=>intro l' h _ _ _;exact (List.nil_perm.1 h).symm
 |cons x l ih=>
  intro l' h h1 h2 h3;cases l' with
  |nil=>exact absurd h.symm (by simp)
  |cons y l'=>
   have HV:=List.pairwise_cons.1 h1;have FA:=List.pairwise_cons.1 h2;have hxy:x=y:=by
    have hy:y∈x::l:=h.mem_iff.2 (by simp);have hx:x∈y::l':=h.mem_iff.1 (by simp);rcases List.mem_cons.1 hy with e|hy'
    ·exact e.symm
    ·rcases List.mem_cons.1 hx with e|hx'
     ·exact e
     ·exact h3 x (by simp) y hy (FA.1 x hx') (HV.1 y hy')
   subst hxy;rw [ih (List.Perm.cons_inv h) HV.2 FA.2 fun a ha b hb=>h3 a (by simp [ha]) b (by simp [hb])]
theorem k9 {α:Type} (lt:α→α→Bool) (asymm:∀a b,lt a b=true→lt b a=false) (up:∀x y z,lt x y=true→lt z y=false→lt x z=true) (l:List α):fI lt (dP lt l)∧(dP lt l).Perm l:=by
 have ins:∀(x:α) (l:List α),(nV lt x l).Perm (x::l):=by
  intro x l
  induction l with
  |nil=>exact .refl _
  |cons y l ih=>
   unfold nV;split
   ·exact .refl _
   ·exact (ih.cons y).trans (.swap x y l)
 have key:∀(l E:List α),fI lt E→fI lt (l.foldl (fun out x=>nV lt x out) E)∧(l.foldl (fun out x=>nV lt x out) E).Perm (E++l):=by
  intro l
  induction l with
  |nil=>intro E hE;exact ⟨hE,by simp⟩
  |cons p l ih=>
   intro E hE;obtain ⟨h1,h2⟩:=ih _ (qS lt asymm up hE (x:=p));refine ⟨h1,h2.trans ?_⟩;exact ((ins p E).append_right l).trans (List.perm_middle (a:=p) (l₁:=E) (l₂:=l)).symm
 have:=key l [] (by simp [fI]);simpa [dP] using this
theorem vB (x y z:List UInt8) (h:Op.bytesLess x y=true) (h':Op.bytesLess z y=false):Op.bytesLess x z=true:=by
 by_cases e:z=y
 ·rw [e];exact h
 ·exact qF _ _ _ h (kX _ _ h' e)
end Go.Proofs.YtfoddgpndoeeaaaGreatDoor.cl
set_option linter.unusedVariables false
set_option linter.unusedSimpArgs false
set_option maxRecDepth 100000
namespace Go.Proofs.YtfoddgpndoeeaaaGreatDoor.cl
open Go Go.AM Go.RowKit
def yL (h:Hint):Code→List Code
 | .seq a b=>match find h.blk (bY a) with
  |some _=>[.seq a b]
  |none=>yL h a++yL h b
 | .cond _ a b=>yL h a++yL h b
 | .block _ c=>yL h c
 | .loop c=>yL h c
 | .scope c=>yL h c
 |_=>[]
theorem MA {q:Prop} {B:Mu} {P:Program} {h:Hint} {N:Nat}:∀c:Code,(∀a b x,Code.seq a b∈yL h c→find h.blk (bY a)=some x→yC q B P N (.seq a b) x.1 x.2)→gG q B P h N c:=by
 intro c
 induction c with
 |seq a b Qq RF=>
  intro hs;simp only [gG];simp only [yL] at hs;cases hf:find h.blk (bY a) with
  |some x=>
   rw [hf] at hs;exact hs a b x (by simp) hf
  |none=>
   rw [hf] at hs;exact ⟨Qq fun a b x hx=>hs a b x (List.mem_append_left _ hx),RF fun a b x hx=>hs a b x (List.mem_append_right _ hx)⟩
 |cond c a b Qq RF=>intro hs;exact ⟨Qq fun a b x hx=>hs a b x (List.mem_append_left _ hx),RF fun a b x hx=>hs a b x (List.mem_append_right _ hx)⟩
 |block id c ih=>intro hs;exact ih hs
 |loop c ih=>intro hs;exact ih hs
 |scope c ih=>intro hs;exact ih hs
 |_=>intro _;trivial
def xH (id:Nat):Code→Option (Array Oper)
 | .region i ops _=>bif Nat.beq i id then some ops else none
 | .seq a b=>match xH id a with
  |some x=>some x
  |none=>xH id b
 | .cond _ a b=>match xH id a with
  |some x=>some x
  |none=>xH id b
 | .block _ c=>xH id c
 | .loop c=>xH id c
 | .scope c=>xH id c
 |_=>none
noncomputable def yM:Code:=match P.funcs[74]? with
 |some fn=>fn.body.getD .skip
 |none=> .skip
noncomputable def bk:Code:=(yL (H 74) yM).headD .skip
noncomputable def oo (id:Nat):Array Oper:=(xH id bk).getD #[]
noncomputable def ck:Code:= .seq (.region 32 (oo 32) false) (.seq (.region 33 (oo 33) false) .ret)
noncomputable def rkC:Code:= .seq (.region 29 (oo 29) false) (.seq (.cond (.tmp 84) .skip (.exit 8)) (.block 9 (.seq (.region 30 (oo 30) false) (.region 31 (oo 31) false))))
theorem Rc:bk= .seq (.seq (.region 28 (oo 28) false) (.block 8 (.loop rkC))) ck:=by kernel_rfl
theorem PO:yL (H 74) yM=[bk]:=by kernel_rfl
structure Op (o:Oper) (d:Nat):Prop where
 dst:o.dst=some d
 guard:o.guard=none
theorem q28:∃x y,(oo 28).toList=[x,y]∧Op x 81∧x.op= .move (.tmp 3)∧Op y 82∧y.op= .range 97 (.tmp 81):=by
 refine ⟨(oo 28)[0]'(by rw [show (oo 28).size=2 by kernel_rfl];decide),(oo 28)[1]'(by rw [show (oo 28).size=2 by kernel_rfl];decide),by kernel_rfl,⟨by kernel_rfl,by kernel_rfl⟩,by kernel_rfl,⟨by kernel_rfl,by kernel_rfl⟩,by kernel_rfl⟩
theorem q29:∃x y,(oo 29).toList=[x,y]∧Op x 83∧x.op= .next (.tmp 82) false∧Op y 84∧y.op= .extract (.tmp 83) 0:=by
 refine ⟨(oo 29)[0]'(by rw [show (oo 29).size=2 by kernel_rfl];decide),(oo 29)[1]'(by rw [show (oo 29).size=2 by kernel_rfl];decide),by kernel_rfl,⟨by kernel_rfl,by kernel_rfl⟩,by kernel_rfl,⟨by kernel_rfl,by kernel_rfl⟩,by kernel_rfl⟩
theorem q30:∃x y z,(oo 30).toList=[x,y,z]∧Op x 85∧x.op= .entry (.tmp 82)∧Op y 86∧y.op= .extract (.tmp 85) 0∧Op z 14∧z.op= .assign (.tmp 86):=by
 refine ⟨(oo 30)[0]'(by rw [show (oo 30).size=3 by kernel_rfl];decide),(oo 30)[1]'(by rw [show (oo 30).size=3 by kernel_rfl];decide),(oo 30)[2]'(by rw [show (oo 30).size=3 by kernel_rfl];decide),by kernel_rfl,⟨by kernel_rfl,by kernel_rfl⟩,by kernel_rfl,⟨by kernel_rfl,by kernel_rfl⟩,by kernel_rfl,⟨by kernel_rfl,by kernel_rfl⟩,by kernel_rfl⟩
theorem q31:∀o∈(oo 31).toList,o.dst≠some 82:=by
 have h:((oo 31).toList.all fun o=>match o.dst with|some d=> !Nat.beq d 82|none=>true)=true:=by kernel_rfl
 intro o ho e;have:=List.all_eq_true.1 h o ho;rw [e] at this;cases this
theorem ul97:P.underlying 97=some (.map 9 4):=by kernel_rfl
def Dr (bx o1 o3 o4:Ob) (l:List (List UInt8)):List (Nat×Ob):=[(10000,bx),(10001,o1),(20002, .row 9 1 (l.map aI)),(20003,o3),(20004,o4)]
def R4 (bx o1 o3 o4:Ob) (l:List (List UInt8)):St:={ env:=find [(0, .ptr 10000 0)],ob:=find (Dr bx o1 o3 o4 l) }
def LW (bx o1 o3 o4:Ob) (l:List (List UInt8)) (s:List UInt8):St:={ env:=find [(0, .ptr 10000 0),(14, .pv (.str s))],ob:=find (Dr bx o1 o3 o4 l) }
def pick (e:Ex) (st:St):Option (Ex×Option SV×Option SV×List (Option Ob)):=some (e,st.env 0,st.env 2,[st.ob 10000,st.ob 10001,st.ob 20002,st.ob 20003,st.ob 20004])
abbrev xY (v0 v1:AV):Ob:= .box 78 [.pv v0, .pv v1, .row 10001, .row 20002, .row 20003, .row 20004]
theorem ex31 (v0 v1:AV) (a1 a2:List AV) (y3 y4:List (List AV)) (l:List (List UInt8)) (s:List UInt8):
  ia P nM (H 74) dg (.region 31 (oo 31) false) (LW (xY v0 v1) (.mp 9 3 a1 a2) (.row 3 1 y3) (.row 87 1 y4) l s) pick=
   check ((List.length (l.map aI)+List.length [[AV.str s]]) *16≤140737488355328∧List.length (l.map aI)+List.length [[AV.str s]]≤4611686018427387904)
    (some (.normal,some (.ptr 10000 0),none,[some (xY v0 v1),some (.mp 9 3 a1 a2),some (.row 9 1 (l.map aI++[[AV.str s]])),some (.row 3 1 y3),some (.row 87 1 y4)])):=by kernel_rfl
theorem ex32 (v0 v1:AV) (a1 a2:List AV) (y3 y4:List (List AV)) (l:List (List UInt8)):
  ia P nM (H 74) dg ck (R4 (xY v0 v1) (.mp 9 3 a1 a2) (.row 3 1 y3) (.row 87 1 y4) l) pick=
   wX (dg 43 [.row 10000] [(10000, .row 9 1 (l.map aI))]) 10000 9 1 (fun r c=>eS Q11 r fun _=>eS (List.map aI) c fun xs=>
    (some (.ret,some (.ptr 10000 0),some (.pv (.int .i64 0)),[some (xY v0 v1),some (.mp 9 3 a1 a2),some (.row 9 1 (xs.map aI)),some (.row 3 1 y3),some (.row 87 1 y4)]))):=by kernel_rfl
end Go.Proofs.YtfoddgpndoeeaaaGreatDoor.cl
set_option linter.unusedVariables false
set_option linter.unusedSimpArgs false
set_option linter.unusedSectionVars false
set_option maxRecDepth 100000
namespace Go.Proofs.YtfoddgpndoeeaaaGreatDoor.cl
open Go Go.AM Go.RowKit
theorem bD {a:Act} {i:Nat} {v:Value} (h:i<a.tmps.size):(a.put (some i) v).tmps[i]? =some v:=by simp [Act.put,h]
theorem aN {a:Act} {i j:Nat} {v:Value} (h:i≠j):(a.put (some i) v).tmps[j]? =a.tmps[j]? :=by simp [Act.put,Array.getElem?_setIfInBounds,h]
theorem e7 {a:Act} {i:Nat} {v:Value}:(a.put (some i) v).tmps.size=a.tmps.size:=by simp [Act.put]
theorem yW {a:Act} {i:Nat} {v:Value} (h:a.tmps[i]? =some v):a.eval (.tmp i)=v:=by
 obtain ⟨hi,e⟩:=Array.getElem?_eq_some_iff.1 h;simp [Act.eval,Array.getD,hi,e]
theorem Qd {st:St} (hg:Fh st=true):∃(ks vs:List AV) (xs:List (List AV)) (v0 v1:AV) (a1 a2:List AV) (y3 y4:List (List AV)),
  st.env 0=some (.ptr 10000 0)∧st.env 3=some (.row 15)∧st.ob 10000=some (xY v0 v1)∧st.ob 15=some (.mp 9 4 ks vs)∧st.ob 20002=some (.row 9 1 xs)∧st.ob 10001=some (.mp 9 3 a1 a2)∧st.ob 20003=some (.row 3 1 y3)∧st.ob 20004=some (.row 87 1 y4)∧Ho xs ks=true:=by
 unfold Fh at hg;split at hg
 ·rename_i e0 e3 eb
  split at hg
  ·rename_i e15 e2 e1 e4 e5
   exact ⟨_,_,_,_,_,_,_,_,_,e0,e3,eb,e15,e2,e1,e4,e5,hg⟩
  ·cases hg
 ·cases hg
theorem Hp {xs:List (List AV)} {ks:List AV} (h:Ho xs ks=true):xs=(xs.map rq).map aI∧ks=(ks.map strOf).map AV.str∧xs.length+ks.length≤1073741824:=by
 unfold Ho at h;simp only [Bool.and_eq_true,List.all_eq_true] at h;obtain ⟨⟨h1,h2⟩,h3⟩:=h;refine ⟨?_,?_,Nat.le_of_ble_eq_true h3⟩
 ·rw [List.map_map]
  refine (List.map_id xs).symm.trans (List.map_congr_left fun x hx=> ?_);have:=h1 x hx;unfold xx at this;split at this
  ·rename_i y
   unfold isStr at this;split at this
   ·rfl
   ·cases this
  ·cases this
 ·rw [List.map_map]
  refine (List.map_id ks).symm.trans (List.map_congr_left fun x hx=> ?_);have:=h2 x hx;unfold isStr at this;split at this
  ·rfl
  ·cases this
def nX (e:MapEntry):List UInt8:=match e.key with
 | .string s=>s.data.toList
 |_=>[]
theorem Qu {μ:Mu}:∀{Y:List (List UInt8)} {es:List MapEntry},aU μ (Y.map AV.str) (es.map (·.key))→es.map nX=Y∧∀e∈es,e.key= .string ⟨(nX e).toArray⟩:=by
 intro Y
 induction Y with
 |nil=>
  intro es h;have h':es.map (·.key)=[]:=by rw [List.map_nil,aU] at h;exact h
  have:es=[]:=List.map_eq_nil_iff.1 h';subst this;exact ⟨rfl,fun e he=>by cases he⟩
 |cons y Y ih=>
  intro es h;rw [List.map_cons,aU] at h;obtain ⟨u,us,e,hu,ua⟩:=h;cases es with
  |nil=>cases e
  |cons x es=>
   rw [List.map_cons] at e;injection e with e1 e2
   rw [rep] at hu;subst hu;rw [←e2] at ua;obtain ⟨a,b⟩:=ih ua;have hk:nX x=y:=by unfold nX;rw [e1]
   refine ⟨by rw [List.map_cons,a,hk],fun z hz=> ?_⟩;rcases List.mem_cons.1 hz with rfl|hz
   ·rw [hk,e1]
   ·exact b z hz
theorem Ie {l m:List (List UInt8)} (h:l.Perm m):dP Op.bytesLess l=dP Op.bytesLess m:=by
 obtain ⟨s1,p1⟩:=k9 Op.bytesLess (fun a b h=>iX h) vB l;obtain ⟨s2,p2⟩:=k9 Op.bytesLess (fun a b h=>iX h) vB m;refine rF ((p1.trans h).trans p2.symm) s1 s2 fun x _ y _ h1 h2=> ?_
 apply Classical.byContradiction;intro hne;have:=kX _ _ h1 hne;rw [h2] at this;cases this
theorem uJ {α β:Type} {f:α→β}:∀{l:List α},(l.map f).Nodup→l.Nodup:=by
 intro l
 induction l with
 |nil=>intro _;simp
 |cons x l ih=>
  intro h;rw [List.map_cons,List.nodup_cons] at h;rw [List.nodup_cons];exact ⟨fun hx=>h.1 (List.mem_map.2 ⟨x,hx,rfl⟩),ih h.2⟩
theorem MF {l:List MapEntry} (h:(l.map (·.born)).Nodup):∀x∈l,∀y∈l,x.born=y.born→x=y:=by
 induction l with
 |nil=>intro x hx;cases hx
 |cons a l ih=>
  rw [List.map_cons,List.nodup_cons] at h;intro x hx y hy e;rcases List.mem_cons.1 hx with rfl|hx'
  ·rcases List.mem_cons.1 hy with rfl|hy'
   ·rfl
   ·exact absurd (List.mem_map.2 ⟨y,hy',e.symm⟩) h.1
  ·rcases List.mem_cons.1 hy with rfl|hy'
   ·exact absurd (List.mem_map.2 ⟨x,hx',e⟩) h.1
   ·exact ih h.2 x hx' y hy' e
theorem hb32:find (H 74).blk (bY (.region 32 (oo 32) false))=none:=by kernel_rfl
theorem hb33:find (H 74).blk (bY (.region 33 (oo 33) false))=none:=by kernel_rfl
theorem Sq {q:Prop} {B:Mu}:gG q B P (H 74) 102 ck:=by
 unfold ck;simp only [gG];rw [hb32];refine ⟨trivial,?_⟩;rw [hb33];exact ⟨trivial,trivial⟩
theorem Sr:gP 102 ck=true:=by kernel_rfl
theorem QI:gP 102 (.region 31 (oo 31) false)=true:=by kernel_rfl
theorem Sv:∀o∈(oo 31).toList,∀i,o.dst=some i→i<102:=by
 intro o ho i hi;have h:=QI;simp only [gP,List.all_eq_true] at h;have:=h o ho;simpa [hi,Nat.blt_eq] using this
theorem LY:∀(l:List (List UInt8)),strs (l.map aI)=some l:=by
 intro l
 induction l with
 |nil=>rfl
 |cons s l ih=>simp [aI,strs] at *;rw [ih]
theorem TK {l:List (List UInt8)} (hl:l.length≤1073741824):dg 43 [.row 10000] [(10000, .row 9 1 (l.map aI))]=some (.e9 [],[(10000, .row 9 1 ((dP Op.bytesLess l).map aI))]):=by
 have hb:Nat.ble l.length 1073741824=true:=Nat.ble_eq_true_of_le hl;simp only [dg,B6,LY,hb,cond_true]
section
variable {B:Mu} (gR:dD False B P dg) (qO:P.follows .mixedOrders=true) {w0:World} {μ0:Mu} {L:ku} (hq:L.q=False) (hB:B.le μ0)
include gR qO hq hB
theorem UP {v0 v1:AV} {a1 a2:List AV} {y3 y4:List (List AV)} {l:List (List UInt8)} (hl:l.length≤1073741824) {μ:Mu} {loc:Nat→Value} {a:Act} {w:World}
  (hR:Rel 102 w0 μ0 L μ loc (R4 (xY v0 v1) (.mp 9 3 a1 a2) (.row 3 1 y3) (.row 87 1 y4) l) a w):
  ck.wp P (JK 102 w0 μ0 L .ret { env:=find [(2, .pv (.int .i64 0))],ob:=find (Dr (xY v0 v1) (.mp 9 3 a1 a2) (.row 3 1 y3) (.row 87 1 y4) (dP Op.bytesLess l)) }) a w:=by
 have hex:=ex32 v0 v1 a1 a2 y3 y4 l;rw [TK hl,wY] at hex;rw [show (AV.e9 []:AV)=Q11 () from rfl,dX,dX] at hex;obtain ⟨n,e,st',h1,h2⟩:=mO ck hex;unfold pick at h2;simp only [Option.some.injEq,Prod.mk.injEq,List.cons.injEq,and_true] at h2;obtain ⟨rfl,_,e2,o0,o1,o2,o3,o4⟩:=h2;refine wp_mono (wpIn_wide.1 (yY hB (by rw [hq];exact gR.mono hB) qO n ck _ _ _ Sr Sq h1 μ loc a w hR _ Wd.wide (.inl rfl))) ?_
 rintro e' a' w' ⟨rfl,μ',loc',h'⟩
 refine ⟨rfl,μ',loc',h'.sub (fun i sv hi=> ?_) (fun id o hi=> ?_)⟩
 ·simp only [find] at hi
  cases hb:Nat.beq 2 i with
  |true=>
   rw [hb,cond_true] at hi;rw [←Nat.eq_of_beq_eq_true hb,e2];exact hi
  |false=>rw [hb,cond_false] at hi;cases hi
 ·have key:∀(l:List (Nat×Ob)),(∀p∈l,st'.ob p.1=some p.2)→∀id o,find l id=some o→st'.ob id=some o:=by
   intro l
   induction l with
   |nil=>intro _ id o h;cases h
   |cons p l ih=>
    intro hp id o h;simp only [find] at h;cases hb:Nat.beq p.1 id with
    |true=>
     rw [hb,cond_true] at h;rw [←Nat.eq_of_beq_eq_true hb,hp p (by simp)];exact h
    |false=>rw [hb,cond_false] at h;exact ih (fun p hp'=>hp p (by simp [hp'])) id o h
  refine key _ ?_ id o hi;intro p hp;simp only [Dr,List.mem_cons,List.not_mem_nil,or_false] at hp;rcases hp with rfl|rfl|rfl|rfl|rfl
  ·exact o0
  ·exact o1
  ·exact o2
  ·exact o3
  ·exact o4
theorem uG {bx o1 o3 o4:Ob} {l:List (List UInt8)} {id:Nat} {o:Ob} (h:find (Dr bx o1 o3 o4 l) id=some o):(id,o)∈Dr bx o1 o3 o4 l:=by
 have key:∀(l:List (Nat×Ob)),find l id=some o→(id,o)∈l:=by
  intro l
  induction l with
  |nil=>intro h;cases h
  |cons p l ih=>
   intro h;obtain ⟨k,x⟩:=p;simp only [find] at h;cases hb:Nat.beq k id with
   |true=>
    rw [hb,cond_true] at h;injection h with h
    rw [←Nat.eq_of_beq_eq_true hb,h];simp
   |false=>rw [hb,cond_false] at h;exact List.mem_cons_of_mem _ (ih h)
 exact key _ h
theorem Ng {bx o1 o3 o4:Ob} {l:List (List UInt8)} {f:Nat→Option Ob} (h0:f 10000=some bx) (h1:f 10001=some o1) (h2:f 20002=some (.row 9 1 (l.map aI))) (h3:f 20003=some o3) (h4:f 20004=some o4):
  ∀id o,find (Dr bx o1 o3 o4 l) id=some o→f id=some o:=by
 intro id o h;have:=uG gR qO hq hB h;simp only [Dr,List.mem_cons,List.not_mem_nil,or_false,Prod.mk.injEq] at this;rcases this with ⟨rfl,rfl⟩|⟨rfl,rfl⟩|⟨rfl,rfl⟩|⟨rfl,rfl⟩|⟨rfl,rfl⟩
 ·exact h0
 ·exact h1
 ·exact h2
 ·exact h3
 ·exact h4
omit gR qO hq hB in
theorem P8 {s:SV} {i:Nat} {sv:SV} (h:find [(0,s)] i=some sv):i=0∧sv=s:=by
 simp only [find] at h;cases hb:Nat.beq 0 i with
 |true=>rw [hb,cond_true] at h;injection h with h;exact ⟨(Nat.eq_of_beq_eq_true hb).symm,h.symm⟩
 |false=>rw [hb,cond_false] at h;cases h
theorem Uv {v0 v1:AV} {a1 a2:List AV} {y3 y4:List (List AV)} {l:List (List UInt8)} {s:List UInt8} (hl:l.length≤1073741824) {μ:Mu} {loc:Nat→Value} {a:Act} {w:World} {t82:Value} (h82:a.tmps[82]? =some t82)
  (hR:Rel 102 w0 μ0 L μ loc (LW (xY v0 v1) (.mp 9 3 a1 a2) (.row 3 1 y3) (.row 87 1 y4) l s) a w):
  (Code.region 31 (oo 31) false).wp P (fun e a' w'=>e= .normal∧a'.tmps[82]? =some t82∧∃μ' loc',Rel 102 w0 μ0 L μ' loc' (R4 (xY v0 v1) (.mp 9 3 a1 a2) (.row 3 1 y3) (.row 87 1 y4) (l++[s])) a' w'∧
   (∀id o,find (Dr (xY v0 v1) (.mp 9 3 a1 a2) (.row 3 1 y3) (.row 87 1 y4) (l++[s])) id=some o→∀g,ff (loc' id) g→w.heap.size≤g∨∃id' o',find (Dr (xY v0 v1) (.mp 9 3 a1 a2) (.row 3 1 y3) (.row 87 1 y4) l) id'=some o'∧ff (loc id') g)∧
   (∀b,b<w.heap.size→(∀id o,find (Dr (xY v0 v1) (.mp 9 3 a1 a2) (.row 3 1 y3) (.row 87 1 y4) l) id=some o→¬ff (loc id) b)→w'.heap[b]? =w.heap[b]?)∧
   (∀b j,b<w.heap.size→μ b j=none→μ' b j=none)) a w:=by
 have hex:=ex31 v0 v1 a1 a2 y3 y4 l s;rw [bg (by rw [List.length_map];simp only [List.length_cons,List.length_nil];omega)] at hex;obtain ⟨n,e,st',h1,h2⟩:=mO (.region 31 (oo 31) false) hex;unfold pick at h2;simp only [Option.some.injEq,Prod.mk.injEq,List.cons.injEq,and_true] at h2;obtain ⟨rfl,e0,_,o0,o1,o2,o3,o4⟩:=h2
 have hI:=hR.into (fun id o h=>by
  have:=uG gR qO hq hB h;simp only [Dr,List.mem_cons,List.not_mem_nil,or_false,Prod.mk.injEq] at this
  rcases this with ⟨rfl,rfl⟩|⟨rfl,rfl⟩|⟨rfl,rfl⟩|⟨rfl,rfl⟩|⟨rfl,rfl⟩<;>exact ⟨by omega,fun k e s ks vs h=>by cases h⟩)
 have eB:dD (Eb (LW (xY v0 v1) (.mp 9 3 a1 a2) (.row 3 1 y3) (.row 87 1 y4) l s).ob loc L.q).q μ P dg:=by
  show dD L.q μ P dg;rw [hq];exact gR.mono (hB.trans hR.base.1)
 have hw:=DZ (Q:=fun e a' w'=>e= .normal∧∃μ' loc',Rel 102 w μ (Eb (LW (xY v0 v1) (.mp 9 3 a1 a2) (.row 3 1 y3) (.row 87 1 y4) l s).ob loc L.q) μ' loc' st' a' w') eB Sv h1 hI (fun a' w' μ' loc' h=>⟨rfl,μ',loc',h⟩);have hw2:=GY _ a w q31 h82 hw;refine wpIn_wide.1 (wpIn_mono (wpIn_region_list hw2) ?_)
 rintro e a' w' ⟨⟨rfl,μ',loc',qN⟩,ht⟩
 have J4:Rel 102 w μ (Eb (LW (xY v0 v1) (.mp 9 3 a1 a2) (.row 3 1 y3) (.row 87 1 y4) l s).ob loc L.q) μ' loc' (R4 (xY v0 v1) (.mp 9 3 a1 a2) (.row 3 1 y3) (.row 87 1 y4) (l++[s])) a' w':=
  qN.sub (fun i sv hi=>by
   obtain ⟨rfl,rfl⟩:=P8 hi
   exact e0) (Ng gR qO hq hB o0 o1 (by rw [o2,List.map_append];rfl) o3 o4)
 obtain ⟨⟨iF,hb1,Qg⟩,hb3⟩:=hR.back J4 (names:=[10000,10001,20002,20003,20004]) (fun id=>by
  constructor
  ·intro hs
   obtain ⟨o,ho⟩:=Option.isSome_iff_exists.1 hs;have:=uG gR qO hq hB ho;simp only [Dr,List.mem_cons,List.not_mem_nil,or_false,Prod.mk.injEq] at this;rcases this with ⟨rfl,_⟩|⟨rfl,_⟩|⟨rfl,_⟩|⟨rfl,_⟩|⟨rfl,_⟩<;>simp
  ·intro hs
   simp only [List.mem_cons,List.not_mem_nil,or_false] at hs
   rcases hs with rfl|rfl|rfl|rfl|rfl<;>rfl) (fun id o ho=>by
  have:=uG gR qO hq hB ho;simp only [Dr,List.mem_cons,List.not_mem_nil,or_false,Prod.mk.injEq] at this;rcases this with ⟨rfl,rfl⟩|⟨rfl,rfl⟩|⟨rfl,rfl⟩|⟨rfl,rfl⟩|⟨rfl,rfl⟩
  ·exact ⟨by simp,rfl,rfl⟩
  ·exact ⟨by simp,rfl,rfl⟩
  ·exact ⟨by simp,rfl,rfl⟩
  ·exact ⟨by simp,rfl,rfl⟩
  ·exact ⟨by simp,rfl,rfl⟩) (fun i sv hi=>by
  obtain ⟨rfl,rfl⟩:=P8 hi
  exact ⟨rfl,rfl⟩)
 refine ⟨rfl,ht rfl,μ',iF,hb1,fun id o ho g hg=>Qg id o ho g hg,fun b hlt hno=>hb3 b hlt hno,fun b j hlt hm=> ?_⟩;cases hv:μ' b j with
 |none=>rfl
 |some v=>
  rcases qN.base.2 b j v hv with h|h
  ·rw [hm] at h;cases h
  ·omega
end
end Go.Proofs.YtfoddgpndoeeaaaGreatDoor.cl
set_option linter.unusedVariables false
set_option linter.unusedSimpArgs false
set_option linter.unusedSectionVars false
set_option maxRecDepth 100000
namespace Go.Proofs.YtfoddgpndoeeaaaGreatDoor.cl
open Go Go.AM Go.RowKit
def Py (w0:World) (μ0:Mu) (L:ku) (v0 v1:AV) (a1 a2:List AV) (y3 y4:List (List AV)) (X:List (List UInt8)) (r b:Nat) (bz:Array MapEntry) (clock:Nat) (a:Act) (w:World):Prop:=
 ∃(μ:Mu) (loc:Nat→Value) (es:List MapEntry) (seen:Array Nat) (c:Nat),
  Rel 102 w0 μ0 L μ loc (R4 (xY v0 v1) (.mp 9 3 a1 a2) (.row 3 1 y3) (.row 87 1 y4) (X++es.map nX)) a w∧
  a.tmps[82]? =some (.pointer (some ⟨r,0,none⟩))∧w.heap[b]? =some (.map bz clock)∧w.heap[r]? =some (.mapIter (some b) clock seen c)∧clock≤c∧(∀j,μ r j=none)∧
  (∀id o,find (Dr (xY v0 v1) (.mp 9 3 a1 a2) (.row 3 1 y3) (.row 87 1 y4) (X++es.map nX)) id=some o→¬ff (loc id) r∧¬ff (loc id) b)∧
  (∀e∈es,e∈bz.toList)∧(es.map (·.born)).Nodup∧(∀n,seen.contains n=true↔n∈es.map (·.born))
def BL (r:Nat) (bz:Array MapEntry) (w:World):Nat:=match w.heap[r]? with
 |some (.mapIter _ _ seen _)=>(leftOf bz seen).size
 |_=>0
theorem wM {P:Program} {o:Oper} {a:Act} {w w':World} {K:Act→World→Prop} {Q:Exit→Act→World→Prop} {v:Value} (hr:(execOp a.eval o).run P w= .ok (.value v) w') (hK:K (a.put o.dst v) w'):o.wp P a w K Q:=by
 unfold Oper.wp;rw [hr];exact hK
theorem wp_assign {P:Program} {o:Oper} {a:Act} {w:World} {K:Act→World→Prop} {Q:Exit→Act→World→Prop} {d i:Nat} {v:Value} (hd:o.dst=some d) (ho:o.op= .move (.tmp i)∨o.op= .assign (.tmp i)) (h:a.tmps[i]? =some v) (hK:K (a.put (some d) v) w):o.wp P a w K Q:=by
 refine wM (v:=v) (w':=w) ?_ (by rw [hd];exact hK);unfold execOp;rcases ho with ho|ho<;>rw [ho]<;>simp [yW h]
theorem tX {P:Program} {o:Oper} {a:Act} {w:World} {K:Act→World→Prop} {Q:Exit→Act→World→Prop} {d i j:Nat} {us:Array Value} {v:Value} (hd:o.dst=some d) (ho:o.op= .extract (.tmp i) j) (h:a.tmps[i]? =some (.tuple us)) (hv:us[j]? =some v) (hK:K (a.put (some d) v) w):o.wp P a w K Q:=by
 refine wM (v:=v) (w':=w) ?_ (by rw [hd];exact hK);unfold execOp;rw [ho];simp [yW h,Instr.extract,hv]
theorem yB {P:Program} {o:Oper} {a:Act} {w w':World} {K:Act→World→Prop} {Q:Exit→Act→World→Prop} {d:Nat} {v:Value} {s:Sem Value} (hd:o.dst=some d) (ho:execOp a.eval o=(do pure (.value (←s)))) (hs:s.run P w= .ok v w') (hK:K (a.put (some d) v) w'):o.wp P a w K Q:=by
 refine wM (v:=v) (w':=w') ?_ (by rw [hd];exact hK);rw [ho];simp [hs]
section
variable {B:Mu} (gR:dD False B P dg) (qO:P.follows .mixedOrders=true) {w0:World} {μ0:Mu} {L:ku} (hq:L.q=False) (hB:B.le μ0)
include gR qO hq hB
variable {v0 v1:AV} {a1 a2:List AV} {y3 y4:List (List AV)} {X Y:List (List UInt8)} {r b:Nat} {bz:Array MapEntry} {clock:Nat}
theorem QK (Uc:w0.heap.size≤r) (hrb:r≠b) (uz:KH bz clock) (hkey:∀e∈bz.toList,e.key= .string ⟨(nX e).toArray⟩) (hY:bz.toList.map nX=Y) (hlen:X.length+Y.length≤1073741824) {a:Act} {w:World}
  (hI:Py w0 μ0 L v0 v1 a1 a2 y3 y4 X r b bz clock a w):
  rkC.wp P (Exit.then (fun a' w'=>Py w0 μ0 L v0 v1 a1 a2 y3 y4 X r b bz clock a' w'∧BL r bz w'<BL r bz w) (fun e a' w'=>e= .exit 8∧∃μ loc l,(dP Op.bytesLess l=dP Op.bytesLess (X++Y)∧l.length≤1073741824)∧
   Rel 102 w0 μ0 L μ loc (R4 (xY v0 v1) (.mp 9 3 a1 a2) (.row 3 1 y3) (.row 87 1 y4) l) a' w')) a w:=by
 obtain ⟨μ,loc,es,seen,c,hR,h82,hb,hr,hc,nR,hno,hsub,hnd,NF⟩:=hI;have hsz:a.tmps.size=102:=hR.size;have Vx:es.Nodup:=uJ hnd;have SR:bz.toList.Nodup:=uJ uz.2;have heslen:es.length≤bz.toList.length:=by
  have:=dN (l:=es.map (·.born)) (m:=bz.toList.map (·.born)) hnd (fun x hx=>by
   obtain ⟨e,he,rfl⟩:=List.mem_map.1 hx
   exact List.mem_map.2 ⟨e,hsub e he,rfl⟩)
  simpa using this
 have hYl:Y.length=bz.toList.length:=by rw [←hY,List.length_map]
 unfold rkC;refine wp_seq (wp_region_list ?_);obtain ⟨x,y,e29,dx,hx,dy,hy⟩:=q29;rw [e29];have hev:execOp a.eval x=(do pure (.value (←Instr.next (.pointer (some ⟨r,0,none⟩)) false x.type))):=by
  unfold execOp;rw [hx];simp only [yW h82]
 rcases run_next_at (P:=P) w x.type r b clock c seen bz clock hr hb uz.1 hc with ⟨h0,hrun⟩|⟨e,he,w1,hal,hrun⟩
 ·
  refine wpList_plain dx.guard fun K hK=>yB dx.dst hev hrun (hK _ _ ?_)
  refine wpList_plain dy.guard fun K hK=>tX dy.dst hy (bD (by rw [hsz];omega)) (v:= .bool false) (by simp) (hK _ _ (wpList_nil ?_))
  show Code.wp P _ _ _ _;refine wp_seq (wp_cond_false (yW (bD (by rw [e7,hsz];omega))) (wp_exit ?_));show Exit.exit 8= .exit 8∧_;have hp:(X++es.map nX).Perm (X++Y):=by
   rw [←hY];refine List.Perm.append_left _ (List.Perm.map _ ?_);refine (List.perm_ext_iff_of_nodup Vx SR).2 fun z=>⟨hsub z,fun hz=> ?_⟩
   have hs:=all_seen bz seen h0 z hz;obtain ⟨z',RE,e'⟩:=List.mem_map.1 ((NF _).1 hs);have:=MF uz.2 z' (hsub z' RE) z hz e';rw [←this];exact RE
  refine ⟨rfl,μ,loc,X++es.map nX,⟨Ie hp,by rw [List.length_append,List.length_map];omega⟩,hR.re ?_ hR.defers (fun i sv hi=> ?_) fun id o h=>h⟩
  ·rw [e7,e7,hsz]
  ·obtain ⟨rfl,rfl⟩:=P8 hi
   rw [aN (by omega),aN (by omega)];exact hR.env 0 _ rfl
 ·
  obtain ⟨hem,hes⟩:=mem_left he;have hnew:e.born∉es.map (·.born):=fun hm=>by rw [(NF _).2 hm] at hes;cases hes
  have Qn:∀w1:World,(w1=w∨w1=w.drew)→w1.heap=w.heap:=by
   rintro w1 (rfl|rfl)<;>rfl
  have hh1:=Qn w1 hal;have hr1:w1.heap[r]? =some (.mapIter (some b) clock seen c):=by rw [hh1];exact hr
  have hst:=MapKept.heap_set (o':= .mapIter (some b) clock (seen.push e.born) clock) hr1;have J4:Rel 102 w0 μ0 L μ loc (R4 (xY v0 v1) (.mp 9 3 a1 a2) (.row 3 1 y3) (.row 87 1 y4) (X++es.map nX)) a (Go.ChangeMaps.setBlock w1 r (.mapIter (some b) clock (seen.push e.born) clock)):=by
   refine hR.aside Uc nR (fun id o h=>(hno id o h).1) (fun b' hne=> ?_) ?_ ?_ ?_ ?_ ?_
   ·show (w1.heap.setIfInBounds r _)[b']? =_
    rw [hst.2 b' hne,hh1]
   ·rcases hal with rfl|rfl<;>rfl
   ·rcases hal with rfl|rfl<;>rfl
   ·rcases hal with rfl|rfl<;>rfl
   ·show (w1.heap.setIfInBounds r _).size=_
    rw [Array.size_setIfInBounds,hh1]
   ·rcases hal with rfl|rfl
    ·exact Nat.le_refl _
    ·exact Nat.le_succ _
  have RC:(Go.ChangeMaps.setBlock w1 r (.mapIter (some b) clock (seen.push e.born) clock)).heap[r]? =some (.mapIter (some b) clock (seen.push e.born) clock):=hst.1;have Qg:(Go.ChangeMaps.setBlock w1 r (.mapIter (some b) clock (seen.push e.born) clock)).heap[b]? =some (.map bz clock):=by
   show (w1.heap.setIfInBounds r _)[b]? =_;rw [hst.2 b (fun e=>hrb e.symm),hh1];exact hb
  generalize Go.ChangeMaps.setBlock w1 r (.mapIter (some b) clock (seen.push e.born) clock)=w2 at hrun J4 RC Qg;refine wpList_plain dx.guard fun K hK=>yB dx.dst hev hrun (hK _ _ ?_)
  refine wpList_plain dy.guard fun K hK=>tX dy.dst hy (bD (by rw [hsz];omega)) (v:= .bool true) (by simp) (hK _ _ (wpList_nil ?_))
  show Code.wp P _ _ _ _;refine wp_seq (wp_cond_true (yW (bD (by rw [e7,hsz];omega))) (wp_skip ?_));show Code.wp P _ _ _ _;refine wp_block (wp_seq (wp_region_list ?_));obtain ⟨p,q,s,e30,dp,hp,dq,RB,ds,hs⟩:=q30;rw [e30];have SI:(((a.put (some 83) (.tuple #[.bool true,e.key,e.val])).put (some 84) (.bool true))).tmps[82]? =some (.pointer (some ⟨r,0,none⟩)):=by
   rw [aN (by omega),aN (by omega)];exact h82
  have NH:(((a.put (some 83) (.tuple #[.bool true,e.key,e.val])).put (some 84) (.bool true))).tmps.size=102:=by rw [e7,e7,hsz]
  have h0':(((a.put (some 83) (.tuple #[.bool true,e.key,e.val])).put (some 84) (.bool true))).tmps[0]? =a.tmps[0]? :=by
   rw [aN (by omega),aN (by omega)]
  have hd':(((a.put (some 83) (.tuple #[.bool true,e.key,e.val])).put (some 84) (.bool true))).defers=[]:=hR.defers;generalize ((a.put (some 83) (.tuple #[.bool true,e.key,e.val])).put (some 84) (.bool true))=c2 at SI NH h0' hd';have hev2:execOp c2.eval p=(do pure (.value (←Instr.entry (.pointer (some ⟨r,0,none⟩))))):=by
   unfold execOp;rw [hp];simp only [yW SI]
  refine wpList_plain dp.guard fun K hK=>yB dp.dst hev2 (run_entry_at w2 r b clock seen bz clock e RC Qg hem uz.2) (hK _ _ ?_)
  refine wpList_plain dq.guard fun K hK=>tX dq.dst RB (bD (by rw [NH];omega)) (v:=e.key) (by simp) (hK _ _ ?_)
  refine wpList_plain ds.guard fun K hK=>wp_assign ds.dst (.inr hs) (v:=e.key) (bD (by rw [e7,NH];omega)) (hK _ _ (wpList_nil ?_))
  show Code.wp P _ _ _ _;have Ro:(((c2.put (some 85) (.tuple #[e.key,e.val])).put (some 86) e.key).put (some 14) e.key).tmps[82]? =some (.pointer (some ⟨r,0,none⟩)):=by
   rw [aN (by omega),aN (by omega),aN (by omega)];exact SI
  have RD:(((c2.put (some 85) (.tuple #[e.key,e.val])).put (some 86) e.key).put (some 14) e.key).tmps.size=102:=by rw [e7,e7,e7,NH]
  have UR:(((c2.put (some 85) (.tuple #[e.key,e.val])).put (some 86) e.key).put (some 14) e.key).tmps[0]? =a.tmps[0]? :=by
   rw [aN (by omega),aN (by omega),aN (by omega)];exact h0'
  have Rl:(((c2.put (some 85) (.tuple #[e.key,e.val])).put (some 86) e.key).put (some 14) e.key).tmps[14]? =some e.key:=bD (by rw [e7,e7,NH];omega);have Vk:(((c2.put (some 85) (.tuple #[e.key,e.val])).put (some 86) e.key).put (some 14) e.key).defers=[]:=hd';generalize (((c2.put (some 85) (.tuple #[e.key,e.val])).put (some 86) e.key).put (some 14) e.key)=a3 at Ro RD UR Rl Vk;have hR3:Rel 102 w0 μ0 L μ loc (LW (xY v0 v1) (.mp 9 3 a1 a2) (.row 3 1 y3) (.row 87 1 y4) (X++es.map nX) (nX e)) a3 w2:=by
   refine J4.re RD Vk (fun i sv hi=> ?_) fun id o h=>h
   have hi':find [(0,SV.ptr 10000 0),(14,SV.pv (.str (nX e)))] i=some sv:=hi;simp only [find] at hi';cases h0b:Nat.beq 0 i with
   |true=>
    rw [h0b,cond_true] at hi';injection hi' with hi'
    rw [←Nat.eq_of_beq_eq_true h0b,←hi',UR];exact hR.env 0 _ rfl
   |false=>
    rw [h0b,cond_false] at hi';cases h1b:Nat.beq 14 i with
    |true=>
     rw [h1b,cond_true] at hi';injection hi' with hi'
     rw [←Nat.eq_of_beq_eq_true h1b,←hi',Rl];exact ⟨_,rfl,by show rep μ (.str (nX e)) e.key;rw [rep,hkey e hem]⟩
    |false=>rw [h1b,cond_false] at hi';cases hi'
  have Qf:=Uv gR qO hq hB (s:=nX e) (by rw [List.length_append,List.length_map];omega) Ro hR3;refine wp_mono Qf ?_
  rintro ee a' w' ⟨rfl,k82,μ',loc',k1,k2,k3,k4⟩
  have VA:r<w2.heap.size:=(Array.getElem?_eq_some_iff.1 RC).1;have Qh:b<w2.heap.size:=(Array.getElem?_eq_some_iff.1 Qg).1;have kr:w'.heap[r]? =some (.mapIter (some b) clock (seen.push e.born) clock):=(k3 r VA fun id o h=>(hno id o h).1).trans RC;show Py w0 μ0 L v0 v1 a1 a2 y3 y4 X r b bz clock a' w'∧BL r bz w'<BL r bz w;have Qf:X++(es++[e]).map nX=(X++es.map nX)++[nX e]:=by rw [List.map_append,←List.append_assoc];rfl
  refine ⟨⟨μ',loc',es++[e],seen.push e.born,clock,by rw [Qf];exact k1,k82,(k3 b Qh fun id o h=>(hno id o h).2).trans Qg,kr,Nat.le_refl _,fun j=>k4 r j VA (nR j),fun id o h=> ?_,fun z hz=> ?_,?_,fun n=> ?_⟩,?_⟩
  ·rw [Qf] at h
   constructor
   ·intro hin
    rcases k2 id o h r hin with h1|⟨id',o',h1,h2⟩
    ·omega
    ·exact (hno id' o' h1).1 h2
   ·intro hin
    rcases k2 id o h b hin with h1|⟨id',o',h1,h2⟩
    ·omega
    ·exact (hno id' o' h1).2 h2
  ·rcases List.mem_append.1 hz with hz|hz
   ·exact hsub z hz
   ·rw [List.mem_singleton] at hz;rw [hz];exact hem
  ·rw [List.map_append,List.nodup_append]
   refine ⟨hnd,by simp,fun x hx y hy=> ?_⟩;simp only [List.map_cons,List.map_nil,List.mem_singleton] at hy
   rintro rfl
   exact hnew (hy▸hx)
  ·rw [contains_push,Bool.or_eq_true,NF,List.map_append,List.mem_append]
   simp only [List.map_cons,List.map_nil,List.mem_singleton,beq_iff_eq]
  ·unfold BL
   rw [kr,hr];exact left_shrinks bz seen e he
end
theorem KN {B:Mu} (gR:dD False B P dg) (qO:P.follows .mixedOrders=true):yC False B P 102 bk Fh Fg:=by
 intro w0 μ0 L μ loc st a w hq hB hg hR;obtain ⟨ks,vs,xs,v0,v1,a1,a2,y3,y4,g0,g3,gb,g15,g2,g1,g4,g5,hC⟩:=Qd hg;obtain ⟨hxs,hks,hlen⟩:=Hp hC;obtain ⟨b,bz,clock,hl,hown,hh,nR,h1,h2,uz⟩:=hR.obs 15 _ g15;rw [hks] at h1;obtain ⟨hY,hkey⟩:=Qu h1;obtain ⟨v3,ht3,hr3⟩:=hR.env 3 _ g3;have hv3:v3= .map (some b):=by
  have:v3=c7 (loc 15):=hr3;rw [this,hl];rfl
 subst hv3;have hsz:a.tmps.size=102:=hR.size;have hF:Fg st=(1,{ env:=find [(2, .pv (.int .i64 0))],ob:=find (Dr (xY v0 v1) (.mp 9 3 a1 a2) (.row 3 1 y3) (.row 87 1 y4) (dP Op.bytesLess (xs.map rq++ks.map strOf))) }):=by
  unfold Fg;rw [g15,g2,gb,g1,g4,g5];rfl
 rw [hF,Rc];refine wp_seq (wp_seq (wp_region_list ?_));obtain ⟨x,y,e28,dx,hx,dy,hy⟩:=q28;rw [e28];refine wpList_plain dx.guard fun K hK=>wp_assign dx.dst (.inl hx) ht3 (hK _ _ ?_)
 have h81:(a.put (some 81) (.map (some b))).tmps[81]? =some (.map (some b)):=bD (by rw [hsz];omega);have hev:execOp (a.put (some 81) (.map (some b))).eval y=(do pure (.value (←Instr.range 97 (.map (some b))))):=by
  unfold execOp;rw [hy];simp only [yW h81]
 refine wpList_plain dy.guard fun K hK=>yB dy.dst hev (run_range_map w 97 9 4 b bz clock ul97 hh) (hK _ _ (wpList_nil ?_))
 show Code.wp P _ _ _ _;have Qh:b<w.heap.size:=(Array.getElem?_eq_some_iff.1 hh).1;have hno:∀id o,find (Dr (xY v0 v1) (.mp 9 3 a1 a2) (.row 3 1 y3) (.row 87 1 y4) (xs.map rq)) id=some o→st.ob id=some o∧id≠15:=by
  intro id o h;have hmem:(id,o)∈Dr (xY v0 v1) (.mp 9 3 a1 a2) (.row 3 1 y3) (.row 87 1 y4) (xs.map rq):=uG gR qO hq hB h;simp only [Dr,List.mem_cons,List.not_mem_nil,or_false,Prod.mk.injEq] at hmem;rcases hmem with ⟨rfl,rfl⟩|⟨rfl,rfl⟩|⟨rfl,rfl⟩|⟨rfl,rfl⟩|⟨rfl,rfl⟩
  ·exact ⟨gb,by decide⟩
  ·exact ⟨g1,by decide⟩
  ·exact ⟨by rw [←hxs];exact g2,by decide⟩
  ·exact ⟨g4,by decide⟩
  ·exact ⟨g5,by decide⟩
 have zd:Rel 102 w0 μ0 L μ loc st a (w.alloc (.mapIter (some b) clock #[] clock)):=hR.Fy (jD w _);have J4:Rel 102 w0 μ0 L μ loc (R4 (xY v0 v1) (.mp 9 3 a1 a2) (.row 3 1 y3) (.row 87 1 y4) (xs.map rq++([]:List MapEntry).map nX)) ((a.put (some 81) (.map (some b))).put (some 82) (.pointer (some ⟨w.heap.size,0,none⟩))) (w.alloc (.mapIter (some b) clock #[] clock)):=by
  rw [List.map_nil,List.append_nil];refine zd.re (by rw [e7,e7,hsz]) hR.defers (fun i sv hi=> ?_) fun id o h=>(hno id o h).1
  obtain ⟨rfl,rfl⟩:=P8 hi;rw [aN (by omega),aN (by omega)];exact hR.env 0 _ g0
 refine wp_block (wp_loop (Py w0 μ0 L v0 v1 a1 a2 y3 y4 (xs.map rq) w.heap.size b bz clock) (fun _ w'=>BL w.heap.size bz w') ?_ ?_)
 ·refine ⟨μ,loc,[], #[],clock,J4,bD (by rw [e7,hsz];omega),?_,?_,Nat.le_refl _,fun j=> ?_,fun id o h=> ?_,fun e he=>(by cases he),by simp,fun n=>by simp⟩
  ·show (w.heap.push _)[b]? =_
   rw [Array.getElem?_push_lt Qh,←Array.getElem?_eq_getElem Qh];exact hh
  ·show (w.heap.push _)[w.heap.size]? =_
   simp
  ·cases hv:μ w.heap.size j with
   |none=>rfl
   |some v=>have:=rD (hR.ou _ _ _ hv);omega
  ·rw [List.map_nil,List.append_nil] at h
   obtain ⟨h3,h4⟩:=hno id o h;refine ⟨fun hin=> ?_,fun hin=> ?_⟩
   ·have:=((hR.obs id o h3).block _ hin).2.1;omega
   ·exact hR.apart id 15 o _ h3 g15 h4 b hin (by rw [hl];exact lM.2 rfl)
 ·intro a' w' hI
  refine wp_mono (QK gR qO hq hB hR.grown (by omega) uz hkey hY (by rw [List.length_map,List.length_map];exact hlen) hI) ?_;intro e a2 w2 h;cases e with
  |normal=>exact h
  |exit id=>
   obtain ⟨e8,μ',loc',l,⟨hs,Md⟩,qN⟩:=h;injection e8 with e8
   subst e8;show Code.wp P _ _ _ _;have:=UP gR qO hq hB Md qN;rw [hs] at this;exact this
  |goto l=>exact absurd h.1 (by simp)
  |ret=>exact absurd h.1 (by simp)
  |panic ch=>exact absurd h.1 (by simp)
  |outgrown=>exact absurd h.1 (by simp)
theorem PN {B:Mu} (gR:dD False B P dg) (qO:P.follows .mixedOrders=true):∀f fn c,P.funcs[f]? =some fn→fn.body=some c→gG False B P (H f) fn.ntmps c:=by
 intro f fn c hf hb;by_cases h:f=74
 ·subst h
  have hn:fn.ntmps=102:=by
   have:(P.funcs[74]?).map (·.ntmps)=some 102:=by kernel_rfl
   rw [hf] at this;exact Option.some.inj this
  have hc:c=yM:=by
   have:yM=c:=by
    unfold yM;rw [hf];show fn.body.getD Code.skip=c;rw [hb];rfl
   exact this.symm
  rw [hn,hc];refine MA _ fun a b x hm hx=> ?_
  rw [PO,List.mem_singleton] at hm;rw [hm];have h28:bY a=28:=by
   have:Code.seq a b= .seq (.seq (.region 28 (oo 28) false) (.block 8 (.loop rkC))) ck:=hm.trans Rc;injection this with h1 h2
   rw [h1];rfl
  rw [h28] at hx;have:find (H 74).blk 28=some (Fh,Fg):=by kernel_rfl
  rw [this] at hx;injection hx with hx
  rw [←hx];exact KN gR qO
 ·refine gG.none ?_ c
  have key:∀(l:List (Nat×Hint)),(l.all fun p=>Nat.beq p.1 74||p.2.blk.isEmpty)=true→∀f,f≠74→((find l f).getD {}).blk=[]:=by
   intro l
   induction l with
   |nil=>intro _ f _;rfl
   |cons p l ih=>
    intro h f hf;rw [List.all_cons,Bool.and_eq_true,Bool.or_eq_true] at h;simp only [find];cases hb:Nat.beq p.1 f with
    |true=>
     rw [cond_true];rcases h.1 with h1|h1
     ·exact absurd ((Nat.eq_of_beq_eq_true hb).symm.trans (Nat.eq_of_beq_eq_true h1)) hf
     ·exact List.isEmpty_iff.1 h1
    |false=>rw [cond_false];exact ih h.2 f hf
  exact key hints (by kernel_rfl) f h
end Go.Proofs.YtfoddgpndoeeaaaGreatDoor.cl
