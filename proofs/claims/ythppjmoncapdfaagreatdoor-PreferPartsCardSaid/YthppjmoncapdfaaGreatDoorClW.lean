/- The block of (*table).features that ranges over a map. -/
import Derived.Test.YthppjmoncapdfaaGreatDoorAmB
import Derived.Test.YthppjmoncapdfaaGreatDoorClT
import Derived.Test.YthppjmoncapdfaaGreatDoorClQb
import Derived.Test.YthppjmoncapdfaaGreatDoorClXb
import Derived.Test.YthppjmoncapdfaaGreatDoorRows
import Derived.Test.YthppjmoncapdfaaGreatDoorCards
import Derived.Test.YthppjmoncapdfaaGreatDoorTie
import Derived.WalkKit
import Derived.ProofKit
import Derived.OpenShut
import Derived.Deep.DeepHandedRow
import Derived.Lib.LaidTab
import Derived.Stop.LaidErr
set_option linter.unusedVariables false
set_option linter.unusedSimpArgs false
set_option maxRecDepth 100000
namespace Go.Proofs.YthppjmoncapdfaaGreatDoor.cl
open Go Go.AM Go.RowKit
def Ce (h:Hint):Code→List Code
 | .seq a b=>match find h.blk (cE a) with
  |some _=>[.seq a b]
  |none=>Ce h a++Ce h b
 | .cond _ a b=>Ce h a++Ce h b
 | .block _ c=>Ce h c
 | .loop c=>Ce h c
 | .scope c=>Ce h c
 |_=>[]
theorem Rz {q:Qp} {B:Mu} {P:Program} {h:Hint} {N:Nat}:∀c:Code,(∀a b x,Code.seq a b∈Ce h c→find h.blk (cE a)=some x→BM q B P N (.seq a b) x.1 x.2)→iP q B P h N c:=by
 intro c
 induction c with
 |seq a b Vx WR=>
  intro hs;simp only [iP];simp only [Ce] at hs;cases hf:find h.blk (cE a) with
  |some x=>
   rw [hf] at hs;exact hs a b x (by simp) hf
  |none=>
   rw [hf] at hs;exact ⟨Vx fun a b x hx=>hs a b x (List.mem_append_left _ hx),WR fun a b x hx=>hs a b x (List.mem_append_right _ hx)⟩
 |cond c a b Vx WR=>intro hs;exact ⟨Vx fun a b x hx=>hs a b x (List.mem_append_left _ hx),WR fun a b x hx=>hs a b x (List.mem_append_right _ hx)⟩
 |block id c ih=>intro hs;exact ih hs
 |loop c ih=>intro hs;exact ih hs
 |scope c ih=>intro hs;exact ih hs
 |_=>intro _;trivial
def AQ (id:Nat):Code→Option (Array Oper)
 | .region i ops _=>bif Nat.beq i id then some ops else none
 | .seq a b=>match AQ id a with
  |some x=>some x
  |none=>AQ id b
 | .cond _ a b=>match AQ id a with
  |some x=>some x
  |none=>AQ id b
 | .block _ c=>AQ id c
 | .loop c=>AQ id c
 | .scope c=>AQ id c
 |_=>none
noncomputable def Cf:Code:=match P.funcs[173]? with
 |some fn=>fn.body.getD .skip
 |none=> .skip
noncomputable def bk:Code:=(Ce (H 173) Cf).headD .skip
noncomputable def oo (id:Nat):Array Oper:=(AQ id bk).getD #[]
noncomputable def ck:Code:= .seq (.region 32 (oo 32) false) (.seq (.region 33 (oo 33) false) .ret)
noncomputable def rkC:Code:= .seq (.region 29 (oo 29) false) (.seq (.cond (.tmp 84) .skip (.exit 8)) (.block 9 (.seq (.region 30 (oo 30) false) (.region 31 (oo 31) false))))
theorem Wq:bk= .seq (.seq (.region 28 (oo 28) false) (.block 8 (.loop rkC))) ck:=by kernel_rfl
theorem UY:Ce (H 173) Cf=[bk]:=by kernel_rfl
structure Op (o:Oper) (d:Nat):Prop where
 dst:o.dst=some d
 guard:o.guard=none
theorem q28:∃x y,(oo 28).toList=[x,y]∧Op x 81∧x.op= .move (.tmp 3)∧Op y 82∧y.op= .range 220 (.tmp 81):=by
 refine ⟨(oo 28)[0]'(by rw [show (oo 28).size=2 by kernel_rfl];decide),(oo 28)[1]'(by rw [show (oo 28).size=2 by kernel_rfl];decide),by kernel_rfl,⟨by kernel_rfl,by kernel_rfl⟩,by kernel_rfl,⟨by kernel_rfl,by kernel_rfl⟩,by kernel_rfl⟩
theorem q29:∃x y,(oo 29).toList=[x,y]∧Op x 83∧x.op= .next (.tmp 82) false∧Op y 84∧y.op= .extract (.tmp 83) 0:=by
 refine ⟨(oo 29)[0]'(by rw [show (oo 29).size=2 by kernel_rfl];decide),(oo 29)[1]'(by rw [show (oo 29).size=2 by kernel_rfl];decide),by kernel_rfl,⟨by kernel_rfl,by kernel_rfl⟩,by kernel_rfl,⟨by kernel_rfl,by kernel_rfl⟩,by kernel_rfl⟩
theorem q30:∃x y z,(oo 30).toList=[x,y,z]∧Op x 85∧x.op= .entry (.tmp 82)∧Op y 86∧y.op= .extract (.tmp 85) 0∧Op z 14∧z.op= .assign (.tmp 86):=by
 refine ⟨(oo 30)[0]'(by rw [show (oo 30).size=3 by kernel_rfl];decide),(oo 30)[1]'(by rw [show (oo 30).size=3 by kernel_rfl];decide),(oo 30)[2]'(by rw [show (oo 30).size=3 by kernel_rfl];decide),by kernel_rfl,⟨by kernel_rfl,by kernel_rfl⟩,by kernel_rfl,⟨by kernel_rfl,by kernel_rfl⟩,by kernel_rfl,⟨by kernel_rfl,by kernel_rfl⟩,by kernel_rfl⟩
theorem q31:∀o∈(oo 31).toList,o.dst≠some 82:=by
 have h:((oo 31).toList.all fun o=>match o.dst with|some d=> !Nat.beq d 82|none=>true)=true:=by kernel_rfl
 intro o ho e;have:=List.all_eq_true.1 h o ho;rw [e] at this;cases this
theorem ul220:P.underlying 220=some (.map 9 4):=by kernel_rfl
def Gz (bx o1 o3 o4:Ob) (l:List (List UInt8)):List (Nat×Ob):=[(10000,bx),(10001,o1),(20002, .row 9 1 (l.map eX)),(20003,o3),(20004,o4)]
def W8 (bx o1 o3 o4:Ob) (l:List (List UInt8)):St:={ env:=find [(0, .ptr 10000 0)],ob:=find (Gz bx o1 o3 o4 l) }
def Qj (bx o1 o3 o4:Ob) (l:List (List UInt8)) (s:List UInt8):St:={ env:=find [(0, .ptr 10000 0),(14, .pv (.str s))],ob:=find (Gz bx o1 o3 o4 l) }
def pick (e:Ex) (st:St):Option (Ex×Option SV×Option SV×List (Option Ob)):=some (e,st.env 0,st.env 2,[st.ob 10000,st.ob 10001,st.ob 20002,st.ob 20003,st.ob 20004])
abbrev Bb (v0 v1:AV):Ob:= .box 171 [.pv v0, .pv v1, .row 10001, .row 20002, .row 20003, .row 20004]
theorem ex31 (v0 v1:AV) (a1 a2:List AV) (y3 y4:List (List AV)) (l:List (List UInt8)) (s:List UInt8):
  jy P kj (H 173) dg (.region 31 (oo 31) false) (Qj (Bb v0 v1) (.mp 9 3 a1 a2) (.row 3 1 y3) (.row 114 1 y4) l s) pick=
   check ((List.length (l.map eX)+List.length [[AV.str s]]) *16≤140737488355328∧List.length (l.map eX)+List.length [[AV.str s]]≤4611686018427387904)
    (some (.normal,some (.ptr 10000 0),none,[some (Bb v0 v1),some (.mp 9 3 a1 a2),some (.row 9 1 (l.map eX++[[AV.str s]])),some (.row 3 1 y3),some (.row 114 1 y4)])):=by kernel_rfl
theorem ex32 (v0 v1:AV) (a1 a2:List AV) (y3 y4:List (List AV)) (l:List (List UInt8)):
  jy P kj (H 173) dg ck (W8 (Bb v0 v1) (.mp 9 3 a1 a2) (.row 3 1 y3) (.row 114 1 y4) l) pick=
   Ci (dg 180 [.row 10000] [(10000, .row 9 1 (l.map eX))]) 10000 9 1 (fun r c=>cD Q18 r fun _=>cD (List.map eX) c fun xs=>
    (some (.ret,some (.ptr 10000 0),some (.pv (.int .i64 0)),[some (Bb v0 v1),some (.mp 9 3 a1 a2),some (.row 9 1 (xs.map eX)),some (.row 3 1 y3),some (.row 114 1 y4)]))):=by kernel_rfl
end Go.Proofs.YthppjmoncapdfaaGreatDoor.cl
set_option linter.unusedVariables false
set_option linter.unusedSimpArgs false
set_option linter.unusedSectionVars false
set_option maxRecDepth 100000
namespace Go.Proofs.YthppjmoncapdfaaGreatDoor.cl
open Go Go.AM Go.RowKit
theorem bH {a:Act} {i:Nat} {v:Value} (h:i<a.tmps.size):(a.put (some i) v).tmps[i]? =some v:=by simp [Act.put,h]
theorem aQ {a:Act} {i j:Nat} {v:Value} (h:i≠j):(a.put (some i) v).tmps[j]? =a.tmps[j]? :=by simp [Act.put,Array.getElem?_setIfInBounds,h]
theorem gw {a:Act} {i:Nat} {v:Value}:(a.put (some i) v).tmps.size=a.tmps.size:=by simp [Act.put]
theorem Cu {a:Act} {i:Nat} {v:Value} (h:a.tmps[i]? =some v):a.eval (.tmp i)=v:=by
 obtain ⟨hi,e⟩:=Array.getElem?_eq_some_iff.1 h;simp [Act.eval,Array.getD,hi,e]
theorem Vm {st:St} (hg:Jz st=true):∃(ks vs:List AV) (xs:List (List AV)) (v0 v1:AV) (a1 a2:List AV) (y3 y4:List (List AV)),
  st.env 0=some (.ptr 10000 0)∧st.env 3=some (.row 15)∧st.ob 10000=some (Bb v0 v1)∧st.ob 15=some (.mp 9 4 ks vs)∧st.ob 20002=some (.row 9 1 xs)∧st.ob 10001=some (.mp 9 3 a1 a2)∧st.ob 20003=some (.row 3 1 y3)∧st.ob 20004=some (.row 114 1 y4)∧Ln xs ks=true:=by
 unfold Jz at hg;split at hg
 ·rename_i e0 e3 eb
  split at hg
  ·rename_i e15 e2 e1 e4 e5
   exact ⟨_,_,_,_,_,_,_,_,_,e0,e3,eb,e15,e2,e1,e4,e5,hg⟩
  ·cases hg
 ·cases hg
theorem Lo {xs:List (List AV)} {ks:List AV} (h:Ln xs ks=true):xs=(xs.map uN).map eX∧ks=(ks.map strOf).map AV.str∧xs.length+ks.length≤1073741824:=by
 unfold Ln at h;simp only [Bool.and_eq_true,List.all_eq_true] at h;obtain ⟨⟨h1,h2⟩,h3⟩:=h;refine ⟨?_,?_,Nat.le_of_ble_eq_true h3⟩
 ·rw [List.map_map]
  refine (List.map_id xs).symm.trans (List.map_congr_left fun x hx=> ?_);have:=h1 x hx;unfold AD at this;split at this
  ·rename_i y
   unfold isStr at this;split at this
   ·rfl
   ·cases this
  ·cases this
 ·rw [List.map_map]
  refine (List.map_id ks).symm.trans (List.map_congr_left fun x hx=> ?_);have:=h2 x hx;unfold isStr at this;split at this
  ·rfl
  ·cases this
def rR (e:MapEntry):List UInt8:=match e.key with
 | .string s=>s.data.toList
 |_=>[]
theorem VE {μ:Mu}:∀{Y:List (List UInt8)} {es:List MapEntry},br μ (Y.map AV.str) (es.map (·.key))→es.map rR=Y∧∀e∈es,e.key= .string ⟨(rR e).toArray⟩:=by
 intro Y
 induction Y with
 |nil=>
  intro es h;have h':es.map (·.key)=[]:=by rw [List.map_nil,br] at h;exact h
  have:es=[]:=List.map_eq_nil_iff.1 h';subst this;exact ⟨rfl,fun e he=>by cases he⟩
 |cons y Y ih=>
  intro es h;rw [List.map_cons,br] at h;obtain ⟨u,us,e,hu,lI⟩:=h;cases es with
  |nil=>cases e
  |cons x es=>
   rw [List.map_cons] at e;injection e with e1 e2
   rw [rep] at hu;subst hu;rw [←e2] at lI;obtain ⟨a,b⟩:=ih lI;have hk:rR x=y:=by unfold rR;rw [e1]
   refine ⟨by rw [List.map_cons,a,hk],fun z hz=> ?_⟩;rcases List.mem_cons.1 hz with rfl|hz
   ·rw [hk,e1]
   ·exact b z hz
theorem L9 {l m:List (List UInt8)} (h:l.Perm m):gZ Op.bytesLess l=gZ Op.bytesLess m:=by
 obtain ⟨s1,p1⟩:=nT Op.bytesLess (fun a b h=>rK h) yY l;obtain ⟨s2,p2⟩:=nT Op.bytesLess (fun a b h=>rK h) yY m;refine uV ((p1.trans h).trans p2.symm) s1 s2 fun x _ y _ h1 h2=> ?_
 apply Classical.byContradiction;intro hne;have:=Cc _ _ h1 hne;rw [h2] at this;cases this
theorem yd {α β:Type} {f:α→β}:∀{l:List α},(l.map f).Nodup→l.Nodup:=by
 intro l
 induction l with
 |nil=>intro _;simp
 |cons x l ih=>
  intro h;rw [List.map_cons,List.nodup_cons] at h;rw [List.nodup_cons];exact ⟨fun hx=>h.1 (List.mem_map.2 ⟨x,hx,rfl⟩),ih h.2⟩
theorem RC {l:List MapEntry} (h:(l.map (·.born)).Nodup):∀x∈l,∀y∈l,x.born=y.born→x=y:=by
 induction l with
 |nil=>intro x hx;cases hx
 |cons a l ih=>
  rw [List.map_cons,List.nodup_cons] at h;intro x hx y hy e;rcases List.mem_cons.1 hx with rfl|hx'
  ·rcases List.mem_cons.1 hy with rfl|hy'
   ·rfl
   ·exact absurd (List.mem_map.2 ⟨y,hy',e.symm⟩) h.1
  ·rcases List.mem_cons.1 hy with rfl|hy'
   ·exact absurd (List.mem_map.2 ⟨x,hx',e⟩) h.1
   ·exact ih h.2 x hx' y hy' e
theorem hb32:find (H 173).blk (cE (.region 32 (oo 32) false))=none:=by kernel_rfl
theorem hb33:find (H 173).blk (cE (.region 33 (oo 33) false))=none:=by kernel_rfl
theorem XF {q:Qp} {B:Mu}:iP q B P (H 173) 102 ck:=by
 unfold ck;simp only [iP];rw [hb32];refine ⟨trivial,?_⟩;rw [hb33];exact ⟨trivial,trivial⟩
theorem XG:jj 102 ck=true:=by kernel_rfl
theorem V5:jj 102 (.region 31 (oo 31) false)=true:=by kernel_rfl
theorem XJ:∀o∈(oo 31).toList,∀i,o.dst=some i→i<102:=by
 intro o ho i hi;have h:=V5;simp only [jj,List.all_eq_true] at h;have:=h o ho;simpa [hi,Nat.blt_eq] using this
theorem Ql:∀(l:List (List UInt8)),strs (l.map eX)=some l:=by
 intro l
 induction l with
 |nil=>rfl
 |cons s l ih=>simp [eX,strs] at *;rw [ih]
theorem YX {l:List (List UInt8)} (hl:l.length≤1073741824):dg 180 [.row 10000] [(10000, .row 9 1 (l.map eX))]=some (.dI [],[(10000, .row 9 1 ((gZ Op.bytesLess l).map eX))]):=by
 have hb:Nat.ble l.length 1073741824=true:=Nat.ble_eq_true_of_le hl;simp only [dg,OL,Ql,hb,cond_true]
section
variable {B:Mu} (jq:dL False B P dg) (ur:P.follows .mixedOrders=true) {w0:World} {μ0:Mu} {L:mG} (hq:L.q=False) (hB:B.le μ0)
include jq ur hq hB
theorem Z2 {v0 v1:AV} {a1 a2:List AV} {y3 y4:List (List AV)} {l:List (List UInt8)} (hl:l.length≤1073741824) {μ:Mu} {loc:Nat→Value} {a:Act} {w:World}
  (hR:Rel 102 w0 μ0 L μ loc (W8 (Bb v0 v1) (.mp 9 3 a1 a2) (.row 3 1 y3) (.row 114 1 y4) l) a w):
  ck.wp P (NB 102 w0 μ0 L .ret { env:=find [(2, .pv (.int .i64 0))],ob:=find (Gz (Bb v0 v1) (.mp 9 3 a1 a2) (.row 3 1 y3) (.row 114 1 y4) (gZ Op.bytesLess l)) }) a w:=by
 have hex:=ex32 v0 v1 a1 a2 y3 y4 l;rw [YX hl,Jd] at hex;rw [show (AV.dI []:AV)=Q18 () from rfl,gG,gG] at hex;obtain ⟨n,e,st',h1,h2⟩:=qM ck hex;unfold pick at h2;simp only [Option.some.injEq,Prod.mk.injEq,List.cons.injEq,and_true] at h2;obtain ⟨rfl,_,e2,o0,o1,o2,o3,o4⟩:=h2;refine wp_mono (wpIn_wide.1 (Cv hB (by rw [hq];exact jq.mono hB) ur n ck _ _ _ XG XF h1 μ loc a w hR _ Wd.wide (.inl rfl))) ?_
 rintro e' a' w' ⟨rfl,μ',loc',h'⟩
 refine ⟨rfl,μ',loc',h'.sub (fun i sv hi=> ?_) (fun id o hi=> ?_)⟩
 ·simp only [find] at hi
  cases hb:Nat.beq 2 i with
  |true=>
   rw [hb,cond_true] at hi;rw [←Nat.eq_of_beq_eq_true hb,e2];exact hi
  |false=>rw [hb,cond_false] at hi;cases hi
 ·have key:∀(l:List (Nat×Ob)),(∀p∈l,st'.ob p.1=some p.2)→∀id o,find l id=some o→st'.ob id=some o:=by
   intro l
   induction l with
   |nil=>intro _ id o h;cases h
   |cons p l ih=>
    intro hp id o h;simp only [find] at h;cases hb:Nat.beq p.1 id with
    |true=>
     rw [hb,cond_true] at h;rw [←Nat.eq_of_beq_eq_true hb,hp p (by simp)];exact h
    |false=>rw [hb,cond_false] at h;exact ih (fun p hp'=>hp p (by simp [hp'])) id o h
  refine key _ ?_ id o hi;intro p hp;simp only [Gz,List.mem_cons,List.not_mem_nil,or_false] at hp;rcases hp with rfl|rfl|rfl|rfl|rfl
  ·exact o0
  ·exact o1
  ·exact o2
  ·exact o3
  ·exact o4
theorem yc {bx o1 o3 o4:Ob} {l:List (List UInt8)} {id:Nat} {o:Ob} (h:find (Gz bx o1 o3 o4 l) id=some o):(id,o)∈Gz bx o1 o3 o4 l:=by
 have key:∀(l:List (Nat×Ob)),find l id=some o→(id,o)∈l:=by
  intro l
  induction l with
  |nil=>intro h;cases h
  |cons p l ih=>
   intro h;obtain ⟨k,x⟩:=p;simp only [find] at h;cases hb:Nat.beq k id with
   |true=>
    rw [hb,cond_true] at h;injection h with h
    rw [←Nat.eq_of_beq_eq_true hb,h];simp
   |false=>rw [hb,cond_false] at h;exact List.mem_cons_of_mem _ (ih h)
 exact key _ h
theorem R4 {bx o1 o3 o4:Ob} {l:List (List UInt8)} {f:Nat→Option Ob} (h0:f 10000=some bx) (h1:f 10001=some o1) (h2:f 20002=some (.row 9 1 (l.map eX))) (h3:f 20003=some o3) (h4:f 20004=some o4):
  ∀id o,find (Gz bx o1 o3 o4 l) id=some o→f id=some o:=by
 intro id o h;have:=yc jq ur hq hB h;simp only [Gz,List.mem_cons,List.not_mem_nil,or_false,Prod.mk.injEq] at this;rcases this with ⟨rfl,rfl⟩|⟨rfl,rfl⟩|⟨rfl,rfl⟩|⟨rfl,rfl⟩|⟨rfl,rfl⟩
 ·exact h0
 ·exact h1
 ·exact h2
 ·exact h3
 ·exact h4
omit jq ur hq hB in
theorem Vg {s:SV} {i:Nat} {sv:SV} (h:find [(0,s)] i=some sv):i=0∧sv=s:=by
 simp only [find] at h;cases hb:Nat.beq 0 i with
 |true=>rw [hb,cond_true] at h;injection h with h;exact ⟨(Nat.eq_of_beq_eq_true hb).symm,h.symm⟩
 |false=>rw [hb,cond_false] at h;cases h
theorem ZH {v0 v1:AV} {a1 a2:List AV} {y3 y4:List (List AV)} {l:List (List UInt8)} {s:List UInt8} (hl:l.length≤1073741824) {μ:Mu} {loc:Nat→Value} {a:Act} {w:World} {t82:Value} (h82:a.tmps[82]? =some t82)
  (hR:Rel 102 w0 μ0 L μ loc (Qj (Bb v0 v1) (.mp 9 3 a1 a2) (.row 3 1 y3) (.row 114 1 y4) l s) a w):
  (Code.region 31 (oo 31) false).wp P (fun e a' w'=>e= .normal∧a'.tmps[82]? =some t82∧∃μ' loc',Rel 102 w0 μ0 L μ' loc' (W8 (Bb v0 v1) (.mp 9 3 a1 a2) (.row 3 1 y3) (.row 114 1 y4) (l++[s])) a' w'∧
   (∀id o,find (Gz (Bb v0 v1) (.mp 9 3 a1 a2) (.row 3 1 y3) (.row 114 1 y4) (l++[s])) id=some o→∀g,fE (loc' id) g→w.heap.size≤g∨∃id' o',find (Gz (Bb v0 v1) (.mp 9 3 a1 a2) (.row 3 1 y3) (.row 114 1 y4) l) id'=some o'∧fE (loc id') g)∧
   (∀b,b<w.heap.size→(∀id o,find (Gz (Bb v0 v1) (.mp 9 3 a1 a2) (.row 3 1 y3) (.row 114 1 y4) l) id=some o→¬fE (loc id) b)→w'.heap[b]? =w.heap[b]?)∧
   (∀b j,b<w.heap.size→μ b j=none→μ' b j=none)) a w:=by
 have hex:=ex31 v0 v1 a1 a2 y3 y4 l s;rw [bY (by rw [List.length_map];simp only [List.length_cons,List.length_nil];omega)] at hex;obtain ⟨n,e,st',h1,h2⟩:=qM (.region 31 (oo 31) false) hex;unfold pick at h2;simp only [Option.some.injEq,Prod.mk.injEq,List.cons.injEq,and_true] at h2;obtain ⟨rfl,e0,_,o0,o1,o2,o3,o4⟩:=h2
 have hI:=hR.into (fun id o h=>by
  have:=yc jq ur hq hB h;simp only [Gz,List.mem_cons,List.not_mem_nil,or_false,Prod.mk.injEq] at this
  rcases this with ⟨rfl,rfl⟩|⟨rfl,rfl⟩|⟨rfl,rfl⟩|⟨rfl,rfl⟩|⟨rfl,rfl⟩<;>exact ⟨by omega,fun k e s ks vs h=>by cases h⟩)
 have eH:dL (HG (Qj (Bb v0 v1) (.mp 9 3 a1 a2) (.row 3 1 y3) (.row 114 1 y4) l s).ob loc L.q).q μ P dg:=by
  show dL L.q μ P dg;rw [hq];exact jq.mono (hB.trans hR.base.1)
 have hw:=Ht (Q:=fun e a' w'=>e= .normal∧∃μ' loc',Rel 102 w μ (HG (Qj (Bb v0 v1) (.mp 9 3 a1 a2) (.row 3 1 y3) (.row 114 1 y4) l s).ob loc L.q) μ' loc' st' a' w') eH XJ h1 hI (fun a' w' μ' loc' h=>⟨rfl,μ',loc',h⟩);have hw2:=KV _ a w q31 h82 hw;refine wpIn_wide.1 (wpIn_mono (wpIn_region_list hw2) ?_)
 rintro e a' w' ⟨⟨rfl,μ',loc',uo⟩,ht⟩
 have N9:Rel 102 w μ (HG (Qj (Bb v0 v1) (.mp 9 3 a1 a2) (.row 3 1 y3) (.row 114 1 y4) l s).ob loc L.q) μ' loc' (W8 (Bb v0 v1) (.mp 9 3 a1 a2) (.row 3 1 y3) (.row 114 1 y4) (l++[s])) a' w':=
  uo.sub (fun i sv hi=>by
   obtain ⟨rfl,rfl⟩:=Vg hi
   exact e0) (R4 jq ur hq hB o0 o1 (by rw [o2,List.map_append];rfl) o3 o4)
 obtain ⟨⟨jv,Ep,Er⟩,hb3⟩:=hR.back N9 (names:=[10000,10001,20002,20003,20004]) (fun id=>by
  constructor
  ·intro hs
   obtain ⟨o,ho⟩:=Option.isSome_iff_exists.1 hs;have:=yc jq ur hq hB ho;simp only [Gz,List.mem_cons,List.not_mem_nil,or_false,Prod.mk.injEq] at this;rcases this with ⟨rfl,_⟩|⟨rfl,_⟩|⟨rfl,_⟩|⟨rfl,_⟩|⟨rfl,_⟩<;>simp
  ·intro hs
   simp only [List.mem_cons,List.not_mem_nil,or_false] at hs
   rcases hs with rfl|rfl|rfl|rfl|rfl<;>rfl) (fun id o ho=>by
  have:=yc jq ur hq hB ho;simp only [Gz,List.mem_cons,List.not_mem_nil,or_false,Prod.mk.injEq] at this;rcases this with ⟨rfl,rfl⟩|⟨rfl,rfl⟩|⟨rfl,rfl⟩|⟨rfl,rfl⟩|⟨rfl,rfl⟩
  ·exact ⟨by simp,rfl,rfl⟩
  ·exact ⟨by simp,rfl,rfl⟩
  ·exact ⟨by simp,rfl,rfl⟩
  ·exact ⟨by simp,rfl,rfl⟩
  ·exact ⟨by simp,rfl,rfl⟩) (fun i sv hi=>by
  obtain ⟨rfl,rfl⟩:=Vg hi
  exact ⟨rfl,rfl⟩)
 refine ⟨rfl,ht rfl,μ',jv,Ep,fun id o ho g hg=>Er id o ho g hg,fun b hlt hno=>hb3 b hlt hno,fun b j hlt hm=> ?_⟩;cases hv:μ' b j with
 |none=>rfl
 |some v=>
  rcases uo.base.2 b j v hv with h|h
  ·rw [hm] at h;cases h
  ·omega
end
end Go.Proofs.YthppjmoncapdfaaGreatDoor.cl
set_option linter.unusedVariables false
set_option linter.unusedSimpArgs false
set_option linter.unusedSectionVars false
set_option maxRecDepth 100000
namespace Go.Proofs.YthppjmoncapdfaaGreatDoor.cl
open Go Go.AM Go.RowKit
def UE (w0:World) (μ0:Mu) (L:mG) (v0 v1:AV) (a1 a2:List AV) (y3 y4:List (List AV)) (X:List (List UInt8)) (r b:Nat) (cN:Array MapEntry) (clock:Nat) (a:Act) (w:World):Prop:=
 ∃(μ:Mu) (loc:Nat→Value) (es:List MapEntry) (seen:Array Nat) (c:Nat),
  Rel 102 w0 μ0 L μ loc (W8 (Bb v0 v1) (.mp 9 3 a1 a2) (.row 3 1 y3) (.row 114 1 y4) (X++es.map rR)) a w∧
  a.tmps[82]? =some (.pointer (some ⟨r,0,none⟩))∧w.heap[b]? =some (.map cN clock)∧w.heap[r]? =some (.mapIter (some b) clock seen c)∧clock≤c∧(∀j,μ r j=none)∧
  (∀id o,find (Gz (Bb v0 v1) (.mp 9 3 a1 a2) (.row 3 1 y3) (.row 114 1 y4) (X++es.map rR)) id=some o→¬fE (loc id) r∧¬fE (loc id) b)∧
  (∀e∈es,e∈cN.toList)∧(es.map (·.born)).Nodup∧(∀n,seen.contains n=true↔n∈es.map (·.born))
def E5 (r:Nat) (cN:Array MapEntry) (w:World):Nat:=match w.heap[r]? with
 |some (.mapIter _ _ seen _)=>(leftOf cN seen).size
 |_=>0
theorem Af {P:Program} {o:Oper} {a:Act} {w w':World} {K:Act→World→Prop} {Q:Exit→Act→World→Prop} {v:Value} (hr:(execOp a.eval o).run P w= .ok (.value v) w') (hK:K (a.put o.dst v) w'):o.wp P a w K Q:=by
 unfold Oper.wp;rw [hr];exact hK
theorem wp_assign {P:Program} {o:Oper} {a:Act} {w:World} {K:Act→World→Prop} {Q:Exit→Act→World→Prop} {d i:Nat} {v:Value} (hd:o.dst=some d) (ho:o.op= .move (.tmp i)∨o.op= .assign (.tmp i)) (h:a.tmps[i]? =some v) (hK:K (a.put (some d) v) w):o.wp P a w K Q:=by
 refine Af (v:=v) (w':=w) ?_ (by rw [hd];exact hK);unfold execOp;rcases ho with ho|ho<;>rw [ho]<;>simp [Cu h]
theorem xq {P:Program} {o:Oper} {a:Act} {w:World} {K:Act→World→Prop} {Q:Exit→Act→World→Prop} {d i j:Nat} {us:Array Value} {v:Value} (hd:o.dst=some d) (ho:o.op= .extract (.tmp i) j) (h:a.tmps[i]? =some (.tuple us)) (hv:us[j]? =some v) (hK:K (a.put (some d) v) w):o.wp P a w K Q:=by
 refine Af (v:=v) (w':=w) ?_ (by rw [hd];exact hK);unfold execOp;rw [ho];simp [Cu h,Instr.extract,hv]
theorem BL {P:Program} {o:Oper} {a:Act} {w w':World} {K:Act→World→Prop} {Q:Exit→Act→World→Prop} {d:Nat} {v:Value} {s:Sem Value} (hd:o.dst=some d) (ho:execOp a.eval o=(do pure (.value (←s)))) (hs:s.run P w= .ok v w') (hK:K (a.put (some d) v) w'):o.wp P a w K Q:=by
 refine Af (v:=v) (w':=w') ?_ (by rw [hd];exact hK);rw [ho];simp [hs]
section
variable {B:Mu} (jq:dL False B P dg) (ur:P.follows .mixedOrders=true) {w0:World} {μ0:Mu} {L:mG} (hq:L.q=False) (hB:B.le μ0)
include jq ur hq hB
variable {v0 v1:AV} {a1 a2:List AV} {y3 y4:List (List AV)} {X Y:List (List UInt8)} {r b:Nat} {cN:Array MapEntry} {clock:Nat}
theorem V6 (Yn:w0.heap.size≤r) (hrb:r≠b) (xY:O1 cN clock) (hkey:∀e∈cN.toList,e.key= .string ⟨(rR e).toArray⟩) (hY:cN.toList.map rR=Y) (hlen:X.length+Y.length≤1073741824) {a:Act} {w:World}
  (hI:UE w0 μ0 L v0 v1 a1 a2 y3 y4 X r b cN clock a w):
  rkC.wp P (Exit.then (fun a' w'=>UE w0 μ0 L v0 v1 a1 a2 y3 y4 X r b cN clock a' w'∧E5 r cN w'<E5 r cN w) (fun e a' w'=>e= .exit 8∧∃μ loc l,(gZ Op.bytesLess l=gZ Op.bytesLess (X++Y)∧l.length≤1073741824)∧
   Rel 102 w0 μ0 L μ loc (W8 (Bb v0 v1) (.mp 9 3 a1 a2) (.row 3 1 y3) (.row 114 1 y4) l) a' w')) a w:=by
 obtain ⟨μ,loc,es,seen,c,hR,h82,hb,hr,hc,oc,hno,hsub,hnd,Sr⟩:=hI;have hsz:a.tmps.size=102:=hR.size;have hperm:es.Nodup:=yd hnd;have Yb:cN.toList.Nodup:=yd xY.2;have heslen:es.length≤cN.toList.length:=by
  have:=Bk (l:=es.map (·.born)) (m:=cN.toList.map (·.born)) hnd (fun x hx=>by
   obtain ⟨e,he,rfl⟩:=List.mem_map.1 hx
   exact List.mem_map.2 ⟨e,hsub e he,rfl⟩)
  simpa using this
 have hYl:Y.length=cN.toList.length:=by rw [←hY,List.length_map]
 unfold rkC;refine wp_seq (wp_region_list ?_);obtain ⟨x,y,e29,dx,hx,dy,hy⟩:=q29;rw [e29];have hev:execOp a.eval x=(do pure (.value (←Instr.next (.pointer (some ⟨r,0,none⟩)) false x.type))):=by
  unfold execOp;rw [hx];simp only [Cu h82]
 rcases run_next_at (P:=P) w x.type r b clock c seen cN clock hr hb xY.1 hc with ⟨h0,hrun⟩|⟨e,he,w1,hal,hrun⟩
 ·
  refine wpList_plain dx.guard fun K hK=>BL dx.dst hev hrun (hK _ _ ?_)
  refine wpList_plain dy.guard fun K hK=>xq dy.dst hy (bH (by rw [hsz];omega)) (v:= .bool false) (by simp) (hK _ _ (wpList_nil ?_))
  show Code.wp P _ _ _ _;refine wp_seq (wp_cond_false (Cu (bH (by rw [gw,hsz];omega))) (wp_exit ?_));show Exit.exit 8= .exit 8∧_;have hp:(X++es.map rR).Perm (X++Y):=by
   rw [←hY];refine List.Perm.append_left _ (List.Perm.map _ ?_);refine (List.perm_ext_iff_of_nodup hperm Yb).2 fun z=>⟨hsub z,fun hz=> ?_⟩
   have hs:=all_seen cN seen h0 z hz;obtain ⟨z',Zs,e'⟩:=List.mem_map.1 ((Sr _).1 hs);have:=RC xY.2 z' (hsub z' Zs) z hz e';rw [←this];exact Zs
  refine ⟨rfl,μ,loc,X++es.map rR,⟨L9 hp,by rw [List.length_append,List.length_map];omega⟩,hR.re ?_ hR.defers (fun i sv hi=> ?_) fun id o h=>h⟩
  ·rw [gw,gw,hsz]
  ·obtain ⟨rfl,rfl⟩:=Vg hi
   rw [aQ (by omega),aQ (by omega)];exact hR.env 0 _ rfl
 ·
  obtain ⟨hem,hes⟩:=mem_left he;have hnew:e.born∉es.map (·.born):=fun hm=>by rw [(Sr _).2 hm] at hes;cases hes
  have L4:∀w1:World,(w1=w∨w1=w.drew)→w1.heap=w.heap:=by
   rintro w1 (rfl|rfl)<;>rfl
  have hh1:=L4 w1 hal;have hr1:w1.heap[r]? =some (.mapIter (some b) clock seen c):=by rw [hh1];exact hr
  have hst:=MapKept.heap_set (o':= .mapIter (some b) clock (seen.push e.born) clock) hr1;have N9:Rel 102 w0 μ0 L μ loc (W8 (Bb v0 v1) (.mp 9 3 a1 a2) (.row 3 1 y3) (.row 114 1 y4) (X++es.map rR)) a (Go.ChangeMaps.setBlock w1 r (.mapIter (some b) clock (seen.push e.born) clock)):=by
   refine hR.aside Yn oc (fun id o h=>(hno id o h).1) (fun b' hne=> ?_) ?_ ?_ ?_ ?_ ?_
   ·show (w1.heap.setIfInBounds r _)[b']? =_
    rw [hst.2 b' hne,hh1]
   ·rcases hal with rfl|rfl<;>rfl
   ·rcases hal with rfl|rfl<;>rfl
   ·rcases hal with rfl|rfl<;>rfl
   ·show (w1.heap.setIfInBounds r _).size=_
    rw [Array.size_setIfInBounds,hh1]
   ·rcases hal with rfl|rfl
    ·exact Nat.le_refl _
    ·exact Nat.le_succ _
  have WK:(Go.ChangeMaps.setBlock w1 r (.mapIter (some b) clock (seen.push e.born) clock)).heap[r]? =some (.mapIter (some b) clock (seen.push e.born) clock):=hst.1;have Er:(Go.ChangeMaps.setBlock w1 r (.mapIter (some b) clock (seen.push e.born) clock)).heap[b]? =some (.map cN clock):=by
   show (w1.heap.setIfInBounds r _)[b]? =_;rw [hst.2 b (fun e=>hrb e.symm),hh1];exact hb
  generalize Go.ChangeMaps.setBlock w1 r (.mapIter (some b) clock (seen.push e.born) clock)=w2 at hrun N9 WK Er;refine wpList_plain dx.guard fun K hK=>BL dx.dst hev hrun (hK _ _ ?_)
  refine wpList_plain dy.guard fun K hK=>xq dy.dst hy (bH (by rw [hsz];omega)) (v:= .bool true) (by simp) (hK _ _ (wpList_nil ?_))
  show Code.wp P _ _ _ _;refine wp_seq (wp_cond_true (Cu (bH (by rw [gw,hsz];omega))) (wp_skip ?_));show Code.wp P _ _ _ _;refine wp_block (wp_seq (wp_region_list ?_));obtain ⟨p,q,s,e30,dp,hp,dq,WJ,ds,hs⟩:=q30;rw [e30];have X3:(((a.put (some 83) (.tuple #[.bool true,e.key,e.val])).put (some 84) (.bool true))).tmps[82]? =some (.pointer (some ⟨r,0,none⟩)):=by
   rw [aQ (by omega),aQ (by omega)];exact h82
  have Su:(((a.put (some 83) (.tuple #[.bool true,e.key,e.val])).put (some 84) (.bool true))).tmps.size=102:=by rw [gw,gw,hsz]
  have h0':(((a.put (some 83) (.tuple #[.bool true,e.key,e.val])).put (some 84) (.bool true))).tmps[0]? =a.tmps[0]? :=by
   rw [aQ (by omega),aQ (by omega)]
  have hd':(((a.put (some 83) (.tuple #[.bool true,e.key,e.val])).put (some 84) (.bool true))).defers=[]:=hR.defers;generalize ((a.put (some 83) (.tuple #[.bool true,e.key,e.val])).put (some 84) (.bool true))=c2 at X3 Su h0' hd';have hev2:execOp c2.eval p=(do pure (.value (←Instr.entry (.pointer (some ⟨r,0,none⟩))))):=by
   unfold execOp;rw [hp];simp only [Cu X3]
  refine wpList_plain dp.guard fun K hK=>BL dp.dst hev2 (run_entry_at w2 r b clock seen cN clock e WK Er hem xY.2) (hK _ _ ?_)
  refine wpList_plain dq.guard fun K hK=>xq dq.dst WJ (bH (by rw [Su];omega)) (v:=e.key) (by simp) (hK _ _ ?_)
  refine wpList_plain ds.guard fun K hK=>wp_assign ds.dst (.inr hs) (v:=e.key) (bH (by rw [gw,Su];omega)) (hK _ _ (wpList_nil ?_))
  show Code.wp P _ _ _ _;have Ww:(((c2.put (some 85) (.tuple #[e.key,e.val])).put (some 86) e.key).put (some 14) e.key).tmps[82]? =some (.pointer (some ⟨r,0,none⟩)):=by
   rw [aQ (by omega),aQ (by omega),aQ (by omega)];exact X3
  have WN:(((c2.put (some 85) (.tuple #[e.key,e.val])).put (some 86) e.key).put (some 14) e.key).tmps.size=102:=by rw [gw,gw,gw,Su]
  have Z5:(((c2.put (some 85) (.tuple #[e.key,e.val])).put (some 86) e.key).put (some 14) e.key).tmps[0]? =a.tmps[0]? :=by
   rw [aQ (by omega),aQ (by omega),aQ (by omega)];exact h0'
  have Wv:(((c2.put (some 85) (.tuple #[e.key,e.val])).put (some 86) e.key).put (some 14) e.key).tmps[14]? =some e.key:=bH (by rw [gw,gw,Su];omega);have hd'':(((c2.put (some 85) (.tuple #[e.key,e.val])).put (some 86) e.key).put (some 14) e.key).defers=[]:=hd';generalize (((c2.put (some 85) (.tuple #[e.key,e.val])).put (some 86) e.key).put (some 14) e.key)=a3 at Ww WN Z5 Wv hd'';have hR3:Rel 102 w0 μ0 L μ loc (Qj (Bb v0 v1) (.mp 9 3 a1 a2) (.row 3 1 y3) (.row 114 1 y4) (X++es.map rR) (rR e)) a3 w2:=by
   refine N9.re WN hd'' (fun i sv hi=> ?_) fun id o h=>h
   have hi':find [(0,SV.ptr 10000 0),(14,SV.pv (.str (rR e)))] i=some sv:=hi;simp only [find] at hi';cases h0b:Nat.beq 0 i with
   |true=>
    rw [h0b,cond_true] at hi';injection hi' with hi'
    rw [←Nat.eq_of_beq_eq_true h0b,←hi',Z5];exact hR.env 0 _ rfl
   |false=>
    rw [h0b,cond_false] at hi';cases h1b:Nat.beq 14 i with
    |true=>
     rw [h1b,cond_true] at hi';injection hi' with hi'
     rw [←Nat.eq_of_beq_eq_true h1b,←hi',Wv];exact ⟨_,rfl,by show rep μ (.str (rR e)) e.key;rw [rep,hkey e hem]⟩
    |false=>rw [h1b,cond_false] at hi';cases hi'
  have Vr:=ZH jq ur hq hB (s:=rR e) (by rw [List.length_append,List.length_map];omega) Ww hR3;refine wp_mono Vr ?_
  rintro ee a' w' ⟨rfl,k82,μ',loc',k1,k2,k3,k4⟩
  have hrlt:r<w2.heap.size:=(Array.getElem?_eq_some_iff.1 WK).1;have Vs:b<w2.heap.size:=(Array.getElem?_eq_some_iff.1 Er).1;have kr:w'.heap[r]? =some (.mapIter (some b) clock (seen.push e.born) clock):=(k3 r hrlt fun id o h=>(hno id o h).1).trans WK;show UE w0 μ0 L v0 v1 a1 a2 y3 y4 X r b cN clock a' w'∧E5 r cN w'<E5 r cN w;have Vr:X++(es++[e]).map rR=(X++es.map rR)++[rR e]:=by rw [List.map_append,←List.append_assoc];rfl
  refine ⟨⟨μ',loc',es++[e],seen.push e.born,clock,by rw [Vr];exact k1,k82,(k3 b Vs fun id o h=>(hno id o h).2).trans Er,kr,Nat.le_refl _,fun j=>k4 r j hrlt (oc j),fun id o h=> ?_,fun z hz=> ?_,?_,fun n=> ?_⟩,?_⟩
  ·rw [Vr] at h
   constructor
   ·intro hin
    rcases k2 id o h r hin with h1|⟨id',o',h1,h2⟩
    ·omega
    ·exact (hno id' o' h1).1 h2
   ·intro hin
    rcases k2 id o h b hin with h1|⟨id',o',h1,h2⟩
    ·omega
    ·exact (hno id' o' h1).2 h2
  ·rcases List.mem_append.1 hz with hz|hz
   ·exact hsub z hz
   ·rw [List.mem_singleton] at hz;rw [hz];exact hem
  ·rw [List.map_append,List.nodup_append]
   refine ⟨hnd,by simp,fun x hx y hy=> ?_⟩;simp only [List.map_cons,List.map_nil,List.mem_singleton] at hy
   rintro rfl
   exact hnew (hy▸hx)
  ·rw [contains_push,Bool.or_eq_true,Sr,List.map_append,List.mem_append]
   simp only [List.map_cons,List.map_nil,List.mem_singleton,beq_iff_eq]
  ·unfold E5
   rw [kr,hr];exact left_shrinks cN seen e he
end
theorem Pb {B:Mu} (jq:dL False B P dg) (ur:P.follows .mixedOrders=true):BM False B P 102 bk Jz Jy:=by
 intro w0 μ0 L μ loc st a w hq hB hg hR;obtain ⟨ks,vs,xs,v0,v1,a1,a2,y3,y4,g0,g3,gb,g15,g2,g1,g4,g5,hC⟩:=Vm hg;obtain ⟨hxs,hks,hlen⟩:=Lo hC;obtain ⟨b,cN,clock,hl,hown,hh,oc,h1,h2,xY⟩:=hR.obs 15 _ g15;rw [hks] at h1;obtain ⟨hY,hkey⟩:=VE h1;obtain ⟨v3,ht3,hr3⟩:=hR.env 3 _ g3;have hv3:v3= .map (some b):=by
  have:v3=cV (loc 15):=hr3;rw [this,hl];rfl
 subst hv3;have hsz:a.tmps.size=102:=hR.size;have hF:Jy st=(1,{ env:=find [(2, .pv (.int .i64 0))],ob:=find (Gz (Bb v0 v1) (.mp 9 3 a1 a2) (.row 3 1 y3) (.row 114 1 y4) (gZ Op.bytesLess (xs.map uN++ks.map strOf))) }):=by
  unfold Jy;rw [g15,g2,gb,g1,g4,g5];rfl
 rw [hF,Wq];refine wp_seq (wp_seq (wp_region_list ?_));obtain ⟨x,y,e28,dx,hx,dy,hy⟩:=q28;rw [e28];refine wpList_plain dx.guard fun K hK=>wp_assign dx.dst (.inl hx) ht3 (hK _ _ ?_)
 have h81:(a.put (some 81) (.map (some b))).tmps[81]? =some (.map (some b)):=bH (by rw [hsz];omega);have hev:execOp (a.put (some 81) (.map (some b))).eval y=(do pure (.value (←Instr.range 220 (.map (some b))))):=by
  unfold execOp;rw [hy];simp only [Cu h81]
 refine wpList_plain dy.guard fun K hK=>BL dy.dst hev (run_range_map w 220 9 4 b cN clock ul220 hh) (hK _ _ (wpList_nil ?_))
 show Code.wp P _ _ _ _;have Vs:b<w.heap.size:=(Array.getElem?_eq_some_iff.1 hh).1;have hno:∀id o,find (Gz (Bb v0 v1) (.mp 9 3 a1 a2) (.row 3 1 y3) (.row 114 1 y4) (xs.map uN)) id=some o→st.ob id=some o∧id≠15:=by
  intro id o h;have hmem:(id,o)∈Gz (Bb v0 v1) (.mp 9 3 a1 a2) (.row 3 1 y3) (.row 114 1 y4) (xs.map uN):=yc jq ur hq hB h;simp only [Gz,List.mem_cons,List.not_mem_nil,or_false,Prod.mk.injEq] at hmem;rcases hmem with ⟨rfl,rfl⟩|⟨rfl,rfl⟩|⟨rfl,rfl⟩|⟨rfl,rfl⟩|⟨rfl,rfl⟩
  ·exact ⟨gb,by decide⟩
  ·exact ⟨g1,by decide⟩
  ·exact ⟨by rw [←hxs];exact g2,by decide⟩
  ·exact ⟨g4,by decide⟩
  ·exact ⟨g5,by decide⟩
 have CB:Rel 102 w0 μ0 L μ loc st a (w.alloc (.mapIter (some b) clock #[] clock)):=hR.JO (lq w _);have N9:Rel 102 w0 μ0 L μ loc (W8 (Bb v0 v1) (.mp 9 3 a1 a2) (.row 3 1 y3) (.row 114 1 y4) (xs.map uN++([]:List MapEntry).map rR)) ((a.put (some 81) (.map (some b))).put (some 82) (.pointer (some ⟨w.heap.size,0,none⟩))) (w.alloc (.mapIter (some b) clock #[] clock)):=by
  rw [List.map_nil,List.append_nil];refine CB.re (by rw [gw,gw,hsz]) hR.defers (fun i sv hi=> ?_) fun id o h=>(hno id o h).1
  obtain ⟨rfl,rfl⟩:=Vg hi;rw [aQ (by omega),aQ (by omega)];exact hR.env 0 _ g0
 refine wp_block (wp_loop (UE w0 μ0 L v0 v1 a1 a2 y3 y4 (xs.map uN) w.heap.size b cN clock) (fun _ w'=>E5 w.heap.size cN w') ?_ ?_)
 ·refine ⟨μ,loc,[], #[],clock,N9,bH (by rw [gw,hsz];omega),?_,?_,Nat.le_refl _,fun j=> ?_,fun id o h=> ?_,fun e he=>(by cases he),by simp,fun n=>by simp⟩
  ·show (w.heap.push _)[b]? =_
   rw [Array.getElem?_push_lt Vs,←Array.getElem?_eq_getElem Vs];exact hh
  ·show (w.heap.push _)[w.heap.size]? =_
   simp
  ·cases hv:μ w.heap.size j with
   |none=>rfl
   |some v=>have:=gW (hR.oZ _ _ _ hv);omega
  ·rw [List.map_nil,List.append_nil] at h
   obtain ⟨h3,h4⟩:=hno id o h;refine ⟨fun hin=> ?_,fun hin=> ?_⟩
   ·have:=((hR.obs id o h3).block _ hin).2.1;omega
   ·exact hR.apart id 15 o _ h3 g15 h4 b hin (by rw [hl];exact oF.2 rfl)
 ·intro a' w' hI
  refine wp_mono (V6 jq ur hq hB hR.grown (by omega) xY hkey hY (by rw [List.length_map,List.length_map];exact hlen) hI) ?_;intro e a2 w2 h;cases e with
  |normal=>exact h
  |exit id=>
   obtain ⟨e8,μ',loc',l,⟨hs,Sg⟩,uo⟩:=h;injection e8 with e8
   subst e8;show Code.wp P _ _ _ _;have:=Z2 jq ur hq hB Sg uo;rw [hs] at this;exact this
  |goto l=>exact absurd h.1 (by simp)
  |ret=>exact absurd h.1 (by simp)
  |panic ch=>exact absurd h.1 (by simp)
  |outgrown=>exact absurd h.1 (by simp)
theorem UX {B:Mu} (jq:dL False B P dg) (ur:P.follows .mixedOrders=true):∀f fn c,P.funcs[f]? =some fn→fn.body=some c→iP False B P (H f) fn.ntmps c:=by
 intro f fn c hf hb;by_cases h:f=173
 ·subst h
  have hn:fn.ntmps=102:=by
   have:(P.funcs[173]?).map (·.ntmps)=some 102:=by kernel_rfl
   rw [hf] at this;exact Option.some.inj this
  have hc:c=Cf:=by
   have:Cf=c:=by
    unfold Cf;rw [hf];show fn.body.getD Code.skip=c;rw [hb];rfl
   exact this.symm
  rw [hn,hc];refine Rz _ fun a b x hm hx=> ?_
  rw [UY,List.mem_singleton] at hm;rw [hm];have h28:cE a=28:=by
   have:Code.seq a b= .seq (.seq (.region 28 (oo 28) false) (.block 8 (.loop rkC))) ck:=hm.trans Wq;injection this with h1 h2
   rw [h1];rfl
  rw [h28] at hx;have:find (H 173).blk 28=some (Jz,Jy):=by kernel_rfl
  rw [this] at hx;injection hx with hx
  rw [←hx];exact Pb jq ur
 ·refine iP.none ?_ c
  have key:∀(l:List (Nat×Hint)),(l.all fun p=>Nat.beq p.1 173||p.2.blk.isEmpty)=true→∀f,f≠173→((find l f).getD {}).blk=[]:=by
   intro l
   induction l with
   |nil=>intro _ f _;rfl
   |cons p l ih=>
    intro h f hf;rw [List.all_cons,Bool.and_eq_true,Bool.or_eq_true] at h;simp only [find];cases hb:Nat.beq p.1 f with
    |true=>
     rw [cond_true];rcases h.1 with h1|h1
     ·exact absurd ((Nat.eq_of_beq_eq_true hb).symm.trans (Nat.eq_of_beq_eq_true h1)) hf
     ·exact List.isEmpty_iff.1 h1
    |false=>rw [cond_false];exact ih h.2 f hf
  exact key hints (by kernel_rfl) f h
end Go.Proofs.YthppjmoncapdfaaGreatDoor.cl
set_option linter.unusedVariables false
set_option linter.unusedSimpArgs false
set_option maxRecDepth 100000
namespace Go.Proofs.YthppjmoncapdfaaGreatDoor.cl
open Go Go.AM Go.RowKit Go.ChangeShapes Go.WideShapes Go.ChangeAt
theorem Cw {T:Type} {en:T→List AV}:∀{xs:List (List AV)},(∀x∈xs,∃y:T,x=en y)→∃l:List T,xs=l.map en:=by
 intro xs
 induction xs with
 |nil=>intro _;exact ⟨[],rfl⟩
 |cons x xs ih=>
  intro h;obtain ⟨y,rfl⟩:=h x (by simp);obtain ⟨l,rfl⟩:=ih fun z hz=>h z (by simp [hz])
  exact ⟨y::l,rfl⟩
section
variable {H:Type} {enc:TypeId×Value→H} {w:World}
theorem Ap:rF (H:=H) Rows.uptoBulk Rows.uptoBulkAll where
 str:=fun _=>rfl
 lit:=fun l=>by cases l<;>simp [Rows.uptoBulk]
 nil:=by simp [Rows.uptoBulk]
 slice:=fun _ _=>by simp [Rows.uptoBulk]
 agg:=fun _=>by simp [Rows.uptoBulk]
 nilA:=by simp [Rows.uptoBulkAll]
 RM:=fun _ _=>by simp [Rows.uptoBulkAll]
theorem rd54 (n:Nat):Ec enc P w Rows.uptoBulk n 54 fun qC=>∃x:aF,qC=x.enc:=by
 cases n with
 |zero=>exact Ec.zero
 |succ n=>
  refine (zS Ap (Qs:=[fun a=>∃x,a=aD .i64 x,fun a=>∃x,a=aD .i64 x]) Tryz.underlying54 (by kernel_rfl) (by kernel_rfl) ?_).mono ?_
  ·exact ⟨Na Ap Tryz.underlying3,Na Ap Tryz.underlying3,trivial⟩
  ·rintro a ⟨_,_,rfl,⟨x0,rfl⟩,_,_,rfl,⟨x1,rfl⟩,rfl⟩
   exact ⟨⟨x0,x1⟩,rfl⟩
theorem rd50 (n:Nat):Ec enc P w Rows.uptoBulk n 50 fun qC=>∃l:List aF,qC=[.aW 2 (l.map aF.enc)]:=by
 cases n with
 |zero=>exact Ec.zero
 |succ n=>
  refine (Kx Ap (sz:=2) Tryz.underlying50 (by kernel_rfl) (by decide) (rd54 n)).mono ?_
  rintro a ⟨xs,rfl,hx⟩
  obtain ⟨l,rfl⟩:=Cw hx;exact ⟨l,rfl⟩
theorem rd52 (n:Nat):Ec enc P w Rows.uptoBulk n 52 fun qC=>∃x:Node,qC=x.enc:=by
 cases n with
 |zero=>exact Ec.zero
 |succ n=>
  refine (zS Ap (Qs:=[fun a=>∃x,a=aD .i64 x,fun a=>∃l:List aF,a=[.aW 2 (l.map aF.enc)]]) Tryz.underlying52 (by kernel_rfl) (by kernel_rfl) ?_).mono ?_
  ·exact ⟨Na Ap Tryz.underlying3,rd50 n,trivial⟩
  ·rintro a ⟨_,_,rfl,⟨x0,rfl⟩,_,_,rfl,⟨x1,rfl⟩,rfl⟩
   exact ⟨⟨x0,x1⟩,rfl⟩
theorem rd22 (n:Nat):Ec enc P w Rows.uptoBulk n 22 fun qC=>∃l:List Node,qC=[.aW 2 (l.map Node.enc)]:=by
 cases n with
 |zero=>exact Ec.zero
 |succ n=>
  refine (Kx Ap (sz:=2) Tryz.underlying22 (by kernel_rfl) (by decide) (rd52 n)).mono ?_
  rintro a ⟨xs,rfl,hx⟩
  obtain ⟨l,rfl⟩:=Cw hx;exact ⟨l,rfl⟩
theorem rd24 (n:Nat):Ec enc P w Rows.uptoBulk n 24 fun qC=>∃x:FSt,qC=x.enc:=by
 cases n with
 |zero=>exact Ec.zero
 |succ n=>
  refine (zS Ap (Qs:=[fun a=>∃l:List Node,a=[.aW 2 (l.map Node.enc)]]) Tryz.underlying24 (by kernel_rfl) (by kernel_rfl) ?_).mono ?_
  ·exact ⟨rd22 n,trivial⟩
  ·rintro a ⟨_,_,rfl,⟨x0,rfl⟩,rfl⟩
   exact ⟨⟨x0⟩,rfl⟩
end
end Go.Proofs.YthppjmoncapdfaaGreatDoor.cl
set_option linter.unusedVariables false
set_option linter.unusedSimpArgs false
set_option maxRecDepth 100000
namespace Go.Proofs.YthppjmoncapdfaaGreatDoor.cl
open Go Go.AM Go.RowKit Go.ChangeShapes Go.WideShapes Go.ChangeAt
theorem own:ownKnob Tryz.prog.godebug=none:=by kernel_rfl
theorem Z4:Tryz.prog.globalNamed "math/bits.deBruijn64tab" =some 0:=by kernel_rfl
theorem R9:(Tryz.prog.globals[0]?).map (·.type)=some 265:=by kernel_rfl
theorem RG:Tryz.prog.cellsOf 265=64:=by kernel_rfl
theorem XC:Tryz.prog.cellsOf 5=1:=by kernel_rfl
theorem Wg {W:World} (h:laidMetH Tryz.prog Rows.preferPartsRow.laid W):Lib.TabIs Tryz.prog W "math/bits.deBruijn64tab" .u8 [0,1,56,2,57,49,28,3,61,58,42,50,38,29,17,4,62,47,59,36,45,43,51,22,53,39,33,30,24,18,12,5,63,55,48,27,60,41,37,16,46,35,44,21,52,32,23,11,54,26,40,15,34,20,31,10,25,14,19,9,13,8,7,6]:=
 Lib.tabIs_of_head Z4 R9 Tryz.underlying265 Tryz.underlying5 XC RG (laidMet.tail (show laidMet Tryz.prog Rows.preferPartsRow.laid W from h))
theorem We {W:World} (h:laidMetH Tryz.prog Rows.preferPartsRow.laid W):Ul.le (QY W):=by
 intro b j v hv;unfold Ul at hv;split at hv
 ·rename_i hb
  obtain ⟨rfl,hj⟩:=hb;injection hv with hv
  subst hv;have:=(Wg h).cell Z4 j hj;refine n9 ?_ rfl;rw [this];have e:∀j,j<64→([0,1,56,2,57,49,28,3,61,58,42,50,38,29,17,4,62,47,59,36,45,43,51,22,53,39,33,30,24,18,12,5,63,55,48,27,60,41,37,16,46,35,44,21,52,32,23,11,54,26,40,15,34,20,31,10,25,14,19,9,13,8,7,6]:List Int).getD j 0=((Lib.deBruijn64tab.getD j 0:Nat):Int):=by decide
  rw [e j hj]
 ·cases hv
def Nb (cs:Array Value):Obj→Obj
 | .cells _ t frozen=> .cells cs t frozen
 |o=>o
noncomputable def zf (os:Os):World:=
 {World.holding Tryz.prog os ⟨#[], #[],[]⟩ with heap:=(((World.holding Tryz.prog os ⟨#[], #[],[]⟩).heap.modify 0 (Nb #[.int .u8 0, .int .u8 1, .int .u8 56, .int .u8 2, .int .u8 57, .int .u8 49, .int .u8 28, .int .u8 3, .int .u8 61, .int .u8 58, .int .u8 42, .int .u8 50, .int .u8 38, .int .u8 29, .int .u8 17, .int .u8 4, .int .u8 62, .int .u8 47, .int .u8 59, .int .u8 36, .int .u8 45, .int .u8 43, .int .u8 51, .int .u8 22, .int .u8 53, .int .u8 39, .int .u8 33, .int .u8 30, .int .u8 24, .int .u8 18, .int .u8 12, .int .u8 5, .int .u8 63, .int .u8 55, .int .u8 48, .int .u8 27, .int .u8 60, .int .u8 41, .int .u8 37, .int .u8 16, .int .u8 46, .int .u8 35, .int .u8 44, .int .u8 21, .int .u8 52, .int .u8 32, .int .u8 23, .int .u8 11, .int .u8 54, .int .u8 26, .int .u8 40, .int .u8 15, .int .u8 34, .int .u8 20, .int .u8 31, .int .u8 10, .int .u8 25, .int .u8 14, .int .u8 19, .int .u8 9, .int .u8 13, .int .u8 8, .int .u8 7, .int .u8 6])).modify 1 (Nb #[.int .u64 1, .int .u64 10, .int .u64 100, .int .u64 1000, .int .u64 10000, .int .u64 100000, .int .u64 1000000, .int .u64 10000000, .int .u64 100000000, .int .u64 1000000000, .int .u64 10000000000, .int .u64 100000000000, .int .u64 1000000000000, .int .u64 10000000000000, .int .u64 100000000000000, .int .u64 1000000000000000, .int .u64 10000000000000000, .int .u64 100000000000000000, .int .u64 1000000000000000000, .int .u64 10000000000000000000])).modify 3 (Nb #[.int .u8 0, .int .u8 1, .int .u8 28, .int .u8 2, .int .u8 29, .int .u8 14, .int .u8 24, .int .u8 3, .int .u8 30, .int .u8 22, .int .u8 20, .int .u8 15, .int .u8 25, .int .u8 17, .int .u8 4, .int .u8 8, .int .u8 31, .int .u8 27, .int .u8 13, .int .u8 23, .int .u8 21, .int .u8 19, .int .u8 16, .int .u8 7, .int .u8 26, .int .u8 12, .int .u8 18, .int .u8 6, .int .u8 11, .int .u8 5, .int .u8 10, .int .u8 9]) }
end Go.Proofs.YthppjmoncapdfaaGreatDoor.cl
