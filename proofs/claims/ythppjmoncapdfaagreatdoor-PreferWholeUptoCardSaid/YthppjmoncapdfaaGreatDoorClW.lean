/- The block of (*table).features that ranges over a map. -/
import Derived.Test.YthppjmoncapdfaaGreatDoorAmB
import Derived.Test.YthppjmoncapdfaaGreatDoorClT
import Derived.Test.YthppjmoncapdfaaGreatDoorClQb
import Derived.Test.YthppjmoncapdfaaGreatDoorClG
import Derived.Test.YthppjmoncapdfaaGreatDoorClXb
import Derived.Test.YthppjmoncapdfaaGreatDoorCards
import Derived.Test.YthppjmoncapdfaaGreatDoorTie
import Derived.WalkKit
import Derived.ProofKit
import Derived.OpenShut
import Derived.Deep.DeepHandedRow
import Derived.Lib.LaidTab
import Derived.Stop.LaidErr
set_option maxRecDepth 100000
set_option linter.all false
open List (length)
namespace Go.Proofs.YthppjmoncapdfaaGreatDoor.cl
open Go Go.AM Go.RowKit
def Ip (h:Hint):Code→List Code
 | .seq a b=>match find h.blk (dN a) with
  |some _=>[.seq a b]
  |none=>Ip h a++Ip h b
 | .cond _ a b=>Ip h a++Ip h b
 | .block _ c=>Ip h c
 | .loop c=>Ip h c
 | .scope c=>Ip h c
 |_=>[]
theorem Zk {q:Qp} {B:Mu} {P:Program} {h:Hint} {N:Nat}:∀c:Code,(∀a b x,Code.seq a b∈Ip h c→find h.blk (dN a)=some x→HQ q B P N (.seq a b) x.1 x.2)→mW q B P h N c:=by
 intro c
 induction c with
 |seq a b iha ihb=>
  intro hs;simp only [mW];simp only [Ip] at hs;cases hf:find h.blk (dN a) with
  |some x=>
   rw [hf] at hs;exact hs a b x (by simp) hf
  |none=>
   rw [hf] at hs;exact ⟨iha fun a b x hx=>hs a b x (eC _ hx),ihb fun a b x hx=>hs a b x (uv _ hx)⟩
 |cond c a b iha ihb=>intro hs;exact ⟨iha fun a b x hx=>hs a b x (eC _ hx),ihb fun a b x hx=>hs a b x (uv _ hx)⟩
 |block id c ih=>intro hs;exact ih hs
 |loop c ih=>intro hs;exact ih hs
 |scope c ih=>intro hs;exact ih hs
 |_=>intro _;trivial
def Gj (id:Nat):Code→Option (Array Oper)
 | .region i ops _=>bif Nat.beq i id then some ops else none
 | .seq a b=>match Gj id a with
  |some x=>some x
  |none=>Gj id b
 | .cond _ a b=>match Gj id a with
  |some x=>some x
  |none=>Gj id b
 | .block _ c=>Gj id c
 | .loop c=>Gj id c
 | .scope c=>Gj id c
 |_=>none
noncomputable def Iq:Code:=match P.funcs[173]? with
 |some fn=>fn.body.getD .skip
 |none=> .skip
noncomputable def bk:Code:=(Ip (H 173) Iq).headD .skip
noncomputable def oo (id:Nat):Array Oper:=(Gj id bk).getD #[]
noncomputable def ck:Code:= .seq (.region 32 (oo 32) false) (.seq (.region 33 (oo 33) false) .ret)
noncomputable def rkC:Code:= .seq (.region 29 (oo 29) false) (.seq (.cond (.tmp 84) .skip (.exit 8)) (.block 9 (.seq (.region 30 (oo 30) false) (.region 31 (oo 31) false))))
theorem bk_eq:bk= .seq (.seq (.region 28 (oo 28) false) (.block 8 (.loop rkC))) ck:=by kernel_rfl
theorem blks_eq:Ip (H 173) Iq=[bk]:=by kernel_rfl
structure Op (o:Oper) (d:Nat):Prop where
 dst:o.dst=some d
 guard:o.guard=none
theorem q28:∃x y,(oo 28).toList=[x,y]∧Op x 81∧x.op= .move (.tmp 3)∧Op y 82∧y.op= .range 220 (.tmp 81):=by
 refine ⟨(oo 28)[0]'(by rw [show (oo 28).size=2 by kernel_rfl];decide),(oo 28)[1]'(by rw [show (oo 28).size=2 by kernel_rfl];decide),by kernel_rfl,⟨by kernel_rfl,by kernel_rfl⟩,by kernel_rfl,⟨by kernel_rfl,by kernel_rfl⟩,by kernel_rfl⟩
theorem q29:∃x y,(oo 29).toList=[x,y]∧Op x 83∧x.op= .next (.tmp 82) false∧Op y 84∧y.op= .extract (.tmp 83) 0:=by
 refine ⟨(oo 29)[0]'(by rw [show (oo 29).size=2 by kernel_rfl];decide),(oo 29)[1]'(by rw [show (oo 29).size=2 by kernel_rfl];decide),by kernel_rfl,⟨by kernel_rfl,by kernel_rfl⟩,by kernel_rfl,⟨by kernel_rfl,by kernel_rfl⟩,by kernel_rfl⟩
theorem q30:∃x y z,(oo 30).toList=[x,y,z]∧Op x 85∧x.op= .entry (.tmp 82)∧Op y 86∧y.op= .extract (.tmp 85) 0∧Op z 14∧z.op= .assign (.tmp 86):=by
 refine ⟨(oo 30)[0]'(by rw [show (oo 30).size=3 by kernel_rfl];decide),(oo 30)[1]'(by rw [show (oo 30).size=3 by kernel_rfl];decide),(oo 30)[2]'(by rw [show (oo 30).size=3 by kernel_rfl];decide),by kernel_rfl,⟨by kernel_rfl,by kernel_rfl⟩,by kernel_rfl,⟨by kernel_rfl,by kernel_rfl⟩,by kernel_rfl,⟨by kernel_rfl,by kernel_rfl⟩,by kernel_rfl⟩
theorem q31:∀o∈(oo 31).toList,o.dst≠some 82:=by
 have h:((oo 31).toList.all fun o=>match o.dst with|some d=> !Nat.beq d 82|none=>true)=true:=by kernel_rfl
 intro o ho e;have:=cg.1 h o ho;rw [e] at this;cases this
theorem ul220:P.underlying 220=some (.map 9 4):=by kernel_rfl
def Nq (bx o1 o3 o4:Ob) (l:List (List UInt8)):List (Nat×Ob):=[(10000,bx),(10001,o1),(20002, .row 9 1 (l.map jG)),(20003,o3),(20004,o4)]
def stL (bx o1 o3 o4:Ob) (l:List (List UInt8)):St:={ env:=find [(0, .ptr 10000 0)],ob:=find (Nq bx o1 o3 o4 l) }
def Yv (bx o1 o3 o4:Ob) (l:List (List UInt8)) (s:List UInt8):St:={ env:=find [(0, .ptr 10000 0),(14, .pv (.str s))],ob:=find (Nq bx o1 o3 o4 l) }
def pick (e:Ex) (st:St):Option (Ex×Option SV×Option SV×List (Option Ob)):=some (e,st.env 0,st.env 2,[st.ob 10000,st.ob 10001,st.ob 20002,st.ob 20003,st.ob 20004])
abbrev GJ (v0 v1:AV):Ob:= .box 171 [.pv v0, .pv v1, .row 10001, .row 20002, .row 20003, .row 20004]
theorem ex31 (v0 v1:AV) (a1 a2:List AV) (y3 y4:List (List AV)) (l:List (List UInt8)) (s:List UInt8):
  oF P oz (H 173) fk (.region 31 (oo 31) false) (Yv (GJ v0 v1) (.mp 9 3 a1 a2) (.row 3 1 y3) (.row 114 1 y4) l s) pick=
   check ((length (l.map jG)+length [[AV.str s]]) *16≤140737488355328∧length (l.map jG)+length [[AV.str s]]≤4611686018427387904)
    (some (.normal,some (.ptr 10000 0),none,[some (GJ v0 v1),some (.mp 9 3 a1 a2),some (.row 9 1 (l.map jG++[[AV.str s]])),some (.row 3 1 y3),some (.row 114 1 y4)])):=by kernel_rfl
theorem ex32 (v0 v1:AV) (a1 a2:List AV) (y3 y4:List (List AV)) (l:List (List UInt8)):
  oF P oz (H 173) fk ck (stL (GJ v0 v1) (.mp 9 3 a1 a2) (.row 3 1 y3) (.row 114 1 y4) l) pick=
   Iv (fk 180 [.row 10000] [(10000, .row 9 1 (l.map jG))]) 10000 9 1 (fun r c=>s9 Q18 r fun _=>s9 (List.map jG) c fun xs=>
    (some (.ret,some (.ptr 10000 0),some (.pv (.int .i64 0)),[some (GJ v0 v1),some (.mp 9 3 a1 a2),some (.row 9 1 (xs.map jG)),some (.row 3 1 y3),some (.row 114 1 y4)]))):=by kernel_rfl
end Go.Proofs.YthppjmoncapdfaaGreatDoor.cl
set_option maxRecDepth 100000
namespace Go.Proofs.YthppjmoncapdfaaGreatDoor.cl
open Go Go.AM Go.RowKit
theorem cu {a:Act} {i:Nat} {v:Value} (h:i<a.tmps.size):(a.put (some i) v).tmps[i]? =some v:=by simp [Act.put,h]
theorem bl {a:Act} {i j:Nat} {v:Value} (h:i≠j):(a.put (some i) v).tmps[j]? =a.tmps[j]? :=by simp [Act.put,uy,h]
theorem kR {a:Act} {i:Nat} {v:Value}:(a.put (some i) v).tmps.size=a.tmps.size:=by simp [Act.put]
theorem IM {a:Act} {i:Nat} {v:Value} (h:a.tmps[i]? =some v):a.eval (.tmp i)=v:=by
 obtain ⟨hi,e⟩:=eG.1 h;simp [Act.eval,Array.getD,hi,e]
theorem guard74 {st:St} (hg:P5 st=true):∃(ks vs:List AV) (xs:List (List AV)) (v0 v1:AV) (a1 a2:List AV) (y3 y4:List (List AV)),
  st.env 0=some (.ptr 10000 0)∧st.env 3=some (.row 15)∧st.ob 10000=some (GJ v0 v1)∧st.ob 15=some (.mp 9 4 ks vs)∧st.ob 20002=some (.row 9 1 xs)∧st.ob 10001=some (.mp 9 3 a1 a2)∧st.ob 20003=some (.row 3 1 y3)∧st.ob 20004=some (.row 114 1 y4)∧SD xs ks=true:=by
 unfold P5 at hg;split at hg
 ·rename_i e0 e3 eb
  split at hg
  ·rename_i e15 e2 e1 e4 e5
   exact ⟨_,_,_,_,_,_,_,_,_,e0,e3,eb,e15,e2,e1,e4,e5,hg⟩
  ·cases hg
 ·cases hg
theorem SE {xs:List (List AV)} {ks:List AV} (h:SD xs ks=true):xs=(xs.map Ay).map jG∧ks=(ks.map strOf).map AV.str∧xs.length+ks.length≤1073741824:=by
 unfold SD at h;simp only [aF,cg] at h;obtain ⟨⟨h1,h2⟩,h3⟩:=h;refine ⟨?_,?_,cV h3⟩
 ·rw [eO]
  refine (j8 xs).symm.trans (ia fun x hx=> ?_);have:=h1 x hx;unfold F5 at this;split at this
  ·rename_i y
   unfold isStr at this;split at this
   ·rfl
   ·cases this
  ·cases this
 ·rw [eO]
  refine (j8 ks).symm.trans (ia fun x hx=> ?_);have:=h2 x hx;unfold isStr at this;split at this
  ·rfl
  ·cases this
def wX (e:MapEntry):List UInt8:=match e.key with
 | .string s=>s.data.toList
 |_=>[]
theorem keys_of {μ:Mu}:∀{Y:List (List UInt8)} {es:List MapEntry},bV μ (Y.map AV.str) (es.map (·.key))→es.map wX=Y∧∀e∈es,e.key= .string ⟨(wX e).toArray⟩:=by
 intro Y
 induction Y with
 |nil=>
  intro es h;have h':es.map (·.key)=[]:=by rw [dV,bV] at h;exact h
  have:es=[]:=List.map_eq_nil_iff.1 h';subst this;exact ⟨rfl,fun e he=>by cases he⟩
 |cons y Y ih=>
  intro es h;rw [aP,bV] at h;obtain ⟨u,us,e,hu,qW⟩:=h;cases es with
  |nil=>cases e
  |cons x es=>
   rw [aP] at e;injection e with e1 e2
   rw [rep] at hu;subst hu;rw [←e2] at qW;obtain ⟨a,b⟩:=ih qW;have hk:wX x=y:=by unfold wX;rw [e1]
   refine ⟨by rw [aP,a,hk],fun z hz=> ?_⟩;rcases aD.1 hz with rfl|hz
   ·rw [hk,e1]
   ·exact b z hz
theorem TB {l m:List (List UInt8)} (h:l.Perm m):mz Op.bytesLess l=mz Op.bytesLess m:=by
 obtain ⟨s1,p1⟩:=tu Op.bytesLess (fun a b h=>td h) EM l;obtain ⟨s2,p2⟩:=tu Op.bytesLess (fun a b h=>td h) EM m;refine AJ ((p1.trans h).trans p2.symm) s1 s2 fun x _ y _ h1 h2=> ?_
 apply dA;intro hne;have:=zW _ _ h1 hne;rw [h2] at this;cases this
theorem D0 {α β:Type} {f:α→β}:∀{l:List α},(l.map f).Nodup→l.Nodup:=by
 intro l
 induction l with
 |nil=>intro _;simp
 |cons x l ih=>
  intro h;rw [aP,fE] at h;rw [fE];exact ⟨fun hx=>h.1 (aB.2 ⟨x,hx,rfl⟩),ih h.2⟩
theorem Zp {l:List MapEntry} (h:(l.map (·.born)).Nodup):∀x∈l,∀y∈l,x.born=y.born→x=y:=by
 induction l with
 |nil=>intro x hx;cases hx
 |cons a l ih=>
  rw [aP,fE] at h;intro x hx y hy e;rcases aD.1 hx with rfl|hx'
  ·rcases aD.1 hy with rfl|hy'
   ·rfl
   ·exact absurd (aB.2 ⟨y,hy',e.symm⟩) h.1
  ·rcases aD.1 hy with rfl|hy'
   ·exact absurd (aB.2 ⟨x,hx',e⟩) h.1
   ·exact ih h.2 x hx' y hy' e
theorem hb32:find (H 173).blk (dN (.region 32 (oo 32) false))=none:=by kernel_rfl
theorem hb33:find (H 173).blk (dN (.region 33 (oo 33) false))=none:=by kernel_rfl
theorem ck_blk {q:Qp} {B:Mu}:mW q B P (H 173) 102 ck:=by
 unfold ck;simp only [mW];rw [hb32];refine ⟨trivial,?_⟩;rw [hb33];exact ⟨trivial,trivial⟩
theorem ck_dst:od 102 ck=true:=by kernel_rfl
theorem r31_dst:od 102 (.region 31 (oo 31) false)=true:=by kernel_rfl
theorem dsts31:∀o∈(oo 31).toList,∀i,o.dst=some i→i<102:=by
 intro o ho i hi;have h:=r31_dst;simp only [od,cg] at h;have:=h o ho;simpa [hi,cr] using this
theorem Yx:∀(l:List (List UInt8)),strs (l.map jG)=some l:=by
 intro l
 induction l with
 |nil=>rfl
 |cons s l ih=>simp [jG,strs] at *;rw [ih]
theorem prim43 {l:List (List UInt8)} (hl:l.length≤1073741824):fk 180 [.row 10000] [(10000, .row 9 1 (l.map jG))]=some (.mu [],[(10000, .row 9 1 ((mz Op.bytesLess l).map jG))]):=by
 have hb:Nat.ble l.length 1073741824=true:=jA hl;simp only [fk,Wo,Yx,hb,ai]
section
variable {B:Mu} (ou:ga False B P fk) (z7:P.follows .mixedOrders=true) {w0:World} {μ0:Mu} {L:sq} (hq:L.q=False) (hB:B.le μ0)
include ou z7 hq hB
theorem fin74 {v0 v1:AV} {a1 a2:List AV} {y3 y4:List (List AV)} {l:List (List UInt8)} (hl:l.length≤1073741824) {μ:Mu} {loc:Nat→Value} {a:Act} {w:World}
  (hR:Rel 102 w0 μ0 L μ loc (stL (GJ v0 v1) (.mp 9 3 a1 a2) (.row 3 1 y3) (.row 114 1 y4) l) a w):
  ck.wp P (UX 102 w0 μ0 L .ret { env:=find [(2, .pv (.int .i64 0))],ob:=find (Nq (GJ v0 v1) (.mp 9 3 a1 a2) (.row 3 1 y3) (.row 114 1 y4) (mz Op.bytesLess l)) }) a w:=by
 have hex:=ex32 v0 v1 a1 a2 y3 y4 l;rw [prim43 hl,PB] at hex;rw [show (AV.mu []:AV)=Q18 () from rfl,kq,kq] at hex;obtain ⟨n,e,st',h1,h2⟩:=vP ck hex;unfold pick at h2;simp only [aG,br,dz,fO] at h2;obtain ⟨rfl,_,e2,o0,o1,o2,o3,o4⟩:=h2;refine wp_mono (ue.1 (IN hB (by rw [hq];exact ou.mono hB) z7 n ck _ _ _ ck_dst ck_blk h1 μ loc a w hR _ Wd.wide (.inl rfl))) ?_
 rintro e' a' w' ⟨rfl,μ',loc',h'⟩
 refine ⟨rfl,μ',loc',h'.sub (fun i sv hi=> ?_) (fun id o hi=> ?_)⟩
 ·simp only [find] at hi
  cases hb:Nat.beq 2 i with
  |true=>
   rw [hb,ai] at hi;rw [←gF hb,e2];exact hi
  |false=>rw [hb,aj] at hi;cases hi
 ·have key:∀(l:List (Nat×Ob)),(∀p∈l,st'.ob p.1=some p.2)→∀id o,find l id=some o→st'.ob id=some o:=by
   intro l
   induction l with
   |nil=>intro _ id o h;cases h
   |cons p l ih=>
    intro hp id o h;simp only [find] at h;cases hb:Nat.beq p.1 id with
    |true=>
     rw [hb,ai] at h;rw [←gF hb,hp p (by simp)];exact h
    |false=>rw [hb,aj] at h;exact ih (fun p hp'=>hp p (by simp [hp'])) id o h
  refine key _ ?_ id o hi;intro p hp;simp only [Nq,aD,fF,fW] at hp;rcases hp with rfl|rfl|rfl|rfl|rfl
  ·exact o0
  ·exact o1
  ·exact o2
  ·exact o3
  ·exact o4
theorem DY {bx o1 o3 o4:Ob} {l:List (List UInt8)} {id:Nat} {o:Ob} (h:find (Nq bx o1 o3 o4 l) id=some o):(id,o)∈Nq bx o1 o3 o4 l:=by
 have key:∀(l:List (Nat×Ob)),find l id=some o→(id,o)∈l:=by
  intro l
  induction l with
  |nil=>intro h;cases h
  |cons p l ih=>
   intro h;obtain ⟨k,x⟩:=p;simp only [find] at h;cases hb:Nat.beq k id with
   |true=>
    rw [hb,ai] at h;injection h with h
    rw [←gF hb,h];simp
   |false=>rw [hb,aj] at h;exact dW _ (ih h)
 exact key _ h
theorem Z3 {bx o1 o3 o4:Ob} {l:List (List UInt8)} {f:Nat→Option Ob} (h0:f 10000=some bx) (h1:f 10001=some o1) (h2:f 20002=some (.row 9 1 (l.map jG))) (h3:f 20003=some o3) (h4:f 20004=some o4):
  ∀id o,find (Nq bx o1 o3 o4 l) id=some o→f id=some o:=by
 intro id o h;have:=DY ou z7 hq hB h;simp only [Nq,aD,fF,fW,br] at this;rcases this with ⟨rfl,rfl⟩|⟨rfl,rfl⟩|⟨rfl,rfl⟩|⟨rfl,rfl⟩|⟨rfl,rfl⟩
 ·exact h0
 ·exact h1
 ·exact h2
 ·exact h3
 ·exact h4
omit ou z7 hq hB in
theorem env0 {s:SV} {i:Nat} {sv:SV} (h:find [(0,s)] i=some sv):i=0∧sv=s:=by
 simp only [find] at h;cases hb:Nat.beq 0 i with
 |true=>rw [hb,ai] at h;injection h with h;exact ⟨(gF hb).symm,h.symm⟩
 |false=>rw [hb,aj] at h;cases h
theorem app74 {v0 v1:AV} {a1 a2:List AV} {y3 y4:List (List AV)} {l:List (List UInt8)} {s:List UInt8} (hl:l.length≤1073741824) {μ:Mu} {loc:Nat→Value} {a:Act} {w:World} {t82:Value} (h82:a.tmps[82]? =some t82)
  (hR:Rel 102 w0 μ0 L μ loc (Yv (GJ v0 v1) (.mp 9 3 a1 a2) (.row 3 1 y3) (.row 114 1 y4) l s) a w):
  (Code.region 31 (oo 31) false).wp P (fun e a' w'=>e= .normal∧a'.tmps[82]? =some t82∧∃μ' loc',Rel 102 w0 μ0 L μ' loc' (stL (GJ v0 v1) (.mp 9 3 a1 a2) (.row 3 1 y3) (.row 114 1 y4) (l++[s])) a' w'∧
   (∀id o,find (Nq (GJ v0 v1) (.mp 9 3 a1 a2) (.row 3 1 y3) (.row 114 1 y4) (l++[s])) id=some o→∀g,jH (loc' id) g→w.heap.size≤g∨∃id' o',find (Nq (GJ v0 v1) (.mp 9 3 a1 a2) (.row 3 1 y3) (.row 114 1 y4) l) id'=some o'∧jH (loc id') g)∧
   (∀b,b<w.heap.size→(∀id o,find (Nq (GJ v0 v1) (.mp 9 3 a1 a2) (.row 3 1 y3) (.row 114 1 y4) l) id=some o→¬jH (loc id) b)→w'.heap[b]? =w.heap[b]?)∧
   (∀b j,b<w.heap.size→μ b j=none→μ' b j=none)) a w:=by
 have hex:=ex31 v0 v1 a1 a2 y3 y4 l s;rw [bp (by rw [aW];simp only [bg,eE];omega)] at hex;obtain ⟨n,e,st',h1,h2⟩:=vP (.region 31 (oo 31) false) hex;unfold pick at h2;simp only [aG,br,dz,fO] at h2;obtain ⟨rfl,e0,_,o0,o1,o2,o3,o4⟩:=h2
 have hI:=hR.into (fun id o h=>by
  have:=DY ou z7 hq hB h;simp only [Nq,aD,fF,fW,br] at this
  rcases this with ⟨rfl,rfl⟩|⟨rfl,rfl⟩|⟨rfl,rfl⟩|⟨rfl,rfl⟩|⟨rfl,rfl⟩<;>exact ⟨by omega,fun k e s ks vs h=>by cases h⟩)
 have iO:ga (N0 (Yv (GJ v0 v1) (.mp 9 3 a1 a2) (.row 3 1 y3) (.row 114 1 y4) l s).ob loc L.q).q μ P fk:=by
  show ga L.q μ P fk;rw [hq];exact ou.mono (hB.trans hR.base.1)
 have hw:=NN (Q:=fun e a' w'=>e= .normal∧∃μ' loc',Rel 102 w μ (N0 (Yv (GJ v0 v1) (.mp 9 3 a1 a2) (.row 3 1 y3) (.row 114 1 y4) l s).ob loc L.q) μ' loc' st' a' w') iO dsts31 h1 hI (fun a' w' μ' loc' h=>⟨rfl,μ',loc',h⟩);have hw2:=R5 _ a w q31 h82 hw;refine ue.1 (lE (wpIn_region_list hw2) ?_)
 rintro e a' w' ⟨⟨rfl,μ',loc',z6⟩,ht⟩
 have Vu:Rel 102 w μ (N0 (Yv (GJ v0 v1) (.mp 9 3 a1 a2) (.row 3 1 y3) (.row 114 1 y4) l s).ob loc L.q) μ' loc' (stL (GJ v0 v1) (.mp 9 3 a1 a2) (.row 3 1 y3) (.row 114 1 y4) (l++[s])) a' w':=
  z6.sub (fun i sv hi=>by
   obtain ⟨rfl,rfl⟩:=env0 hi
   exact e0) (Z3 ou z7 hq hB o0 o1 (by rw [o2,bT];rfl) o3 o4)
 obtain ⟨⟨qf,MP,KW⟩,hb3⟩:=hR.back Vu (names:=[10000,10001,20002,20003,20004]) (fun id=>by
  constructor
  ·intro hs
   obtain ⟨o,ho⟩:=kA.1 hs;have:=DY ou z7 hq hB ho;simp only [Nq,aD,fF,fW,br] at this;rcases this with ⟨rfl,_⟩|⟨rfl,_⟩|⟨rfl,_⟩|⟨rfl,_⟩|⟨rfl,_⟩<;>simp
  ·intro hs
   simp only [aD,fF,fW] at hs
   rcases hs with rfl|rfl|rfl|rfl|rfl<;>rfl) (fun id o ho=>by
  have:=DY ou z7 hq hB ho;simp only [Nq,aD,fF,fW,br] at this;rcases this with ⟨rfl,rfl⟩|⟨rfl,rfl⟩|⟨rfl,rfl⟩|⟨rfl,rfl⟩|⟨rfl,rfl⟩
  ·exact ⟨by simp,rfl,rfl⟩
  ·exact ⟨by simp,rfl,rfl⟩
  ·exact ⟨by simp,rfl,rfl⟩
  ·exact ⟨by simp,rfl,rfl⟩
  ·exact ⟨by simp,rfl,rfl⟩) (fun i sv hi=>by
  obtain ⟨rfl,rfl⟩:=env0 hi
  exact ⟨rfl,rfl⟩)
 refine ⟨rfl,ht rfl,μ',qf,MP,fun id o ho g hg=>KW id o ho g hg,fun b hlt hno=>hb3 b hlt hno,fun b j hlt hm=> ?_⟩;cases hv:μ' b j with
 |none=>rfl
 |some v=>
  rcases z6.base.2 b j v hv with h|h
  ·rw [hm] at h;cases h
  ·omega
end
end Go.Proofs.YthppjmoncapdfaaGreatDoor.cl
set_option maxRecDepth 100000
namespace Go.Proofs.YthppjmoncapdfaaGreatDoor.cl
open Go Go.AM Go.RowKit
def Inv9 (w0:World) (μ0:Mu) (L:sq) (v0 v1:AV) (a1 a2:List AV) (y3 y4:List (List AV)) (X:List (List UInt8)) (r b:Nat) (cN:Array MapEntry) (clock:Nat) (a:Act) (w:World):Prop:=
 ∃(μ:Mu) (loc:Nat→Value) (es:List MapEntry) (seen:Array Nat) (c:Nat),
  Rel 102 w0 μ0 L μ loc (stL (GJ v0 v1) (.mp 9 3 a1 a2) (.row 3 1 y3) (.row 114 1 y4) (X++es.map wX)) a w∧
  a.tmps[82]? =some (.pointer (some ⟨r,0,none⟩))∧w.heap[b]? =some (.map cN clock)∧w.heap[r]? =some (.mapIter (some b) clock seen c)∧clock≤c∧(∀j,μ r j=none)∧
  (∀id o,find (Nq (GJ v0 v1) (.mp 9 3 a1 a2) (.row 3 1 y3) (.row 114 1 y4) (X++es.map wX)) id=some o→¬jH (loc id) r∧¬jH (loc id) b)∧
  (∀e∈es,e∈cN.toList)∧(es.map (·.born)).Nodup∧(∀n,seen.contains n=true↔n∈es.map (·.born))
def LA (r:Nat) (cN:Array MapEntry) (w:World):Nat:=match w.heap[r]? with
 |some (.mapIter _ _ seen _)=>(leftOf cN seen).size
 |_=>0
theorem FE {P:Program} {o:Oper} {a:Act} {w w':World} {K:Act→World→Prop} {Q:Exit→Act→World→Prop} {v:Value} (hr:(execOp a.eval o).run P w= .ok (.value v) w') (hK:K (a.put o.dst v) w'):o.wp P a w K Q:=by
 unfold Oper.wp;rw [hr];exact hK
theorem wp_assign {P:Program} {o:Oper} {a:Act} {w:World} {K:Act→World→Prop} {Q:Exit→Act→World→Prop} {d i:Nat} {v:Value} (hd:o.dst=some d) (ho:o.op= .move (.tmp i)∨o.op= .assign (.tmp i)) (h:a.tmps[i]? =some v) (hK:K (a.put (some d) v) w):o.wp P a w K Q:=by
 refine FE (v:=v) (w':=w) ?_ (by rw [hd];exact hK);unfold execOp;rcases ho with ho|ho<;>rw [ho]<;>simp [IM h]
theorem CJ {P:Program} {o:Oper} {a:Act} {w:World} {K:Act→World→Prop} {Q:Exit→Act→World→Prop} {d i j:Nat} {us:Array Value} {v:Value} (hd:o.dst=some d) (ho:o.op= .extract (.tmp i) j) (h:a.tmps[i]? =some (.tuple us)) (hv:us[j]? =some v) (hK:K (a.put (some d) v) w):o.wp P a w K Q:=by
 refine FE (v:=v) (w':=w) ?_ (by rw [hd];exact hK);unfold execOp;rw [ho];simp [IM h,Instr.extract,hv]
theorem HP {P:Program} {o:Oper} {a:Act} {w w':World} {K:Act→World→Prop} {Q:Exit→Act→World→Prop} {d:Nat} {v:Value} {s:Sem Value} (hd:o.dst=some d) (ho:execOp a.eval o=(do pure (.value (←s)))) (hs:s.run P w= .ok v w') (hK:K (a.put (some d) v) w'):o.wp P a w K Q:=by
 refine FE (v:=v) (w':=w') ?_ (by rw [hd];exact hK);rw [ho];simp [hs]
section
variable {B:Mu} (ou:ga False B P fk) (z7:P.follows .mixedOrders=true) {w0:World} {μ0:Mu} {L:sq} (hq:L.q=False) (hB:B.le μ0)
include ou z7 hq hB
variable {v0 v1:AV} {a1 a2:List AV} {y3 y4:List (List AV)} {X Y:List (List UInt8)} {r b:Nat} {cN:Array MapEntry} {clock:Nat}
theorem round74 (hr0:w0.heap.size≤r) (hrb:r≠b) (DP:WY cN clock) (hkey:∀e∈cN.toList,e.key= .string ⟨(wX e).toArray⟩) (hY:cN.toList.map wX=Y) (hlen:X.length+Y.length≤1073741824) {a:Act} {w:World}
  (hI:Inv9 w0 μ0 L v0 v1 a1 a2 y3 y4 X r b cN clock a w):
  rkC.wp P (Exit.then (fun a' w'=>Inv9 w0 μ0 L v0 v1 a1 a2 y3 y4 X r b cN clock a' w'∧LA r cN w'<LA r cN w) (fun e a' w'=>e= .exit 8∧∃μ loc l,(mz Op.bytesLess l=mz Op.bytesLess (X++Y)∧l.length≤1073741824)∧
   Rel 102 w0 μ0 L μ loc (stL (GJ v0 v1) (.mp 9 3 a1 a2) (.row 3 1 y3) (.row 114 1 y4) l) a' w')) a w:=by
 obtain ⟨μ,loc,es,seen,c,hR,h82,hb,hr,hc,tR,hno,hsub,hnd,aak⟩:=hI;have hsz:a.tmps.size=102:=hR.size;have hperm:es.Nodup:=D0 hnd;have hentnd:cN.toList.Nodup:=D0 DP.2;have heslen:es.length≤cN.toList.length:=by
  have:=js (l:=es.map (·.born)) (m:=cN.toList.map (·.born)) hnd (fun x hx=>by
   obtain ⟨e,he,rfl⟩:=aB.1 hx
   exact aB.2 ⟨e,hsub e he,rfl⟩)
  simpa using this
 have hYl:Y.length=cN.toList.length:=by rw [←hY,aW]
 unfold rkC;refine pN (yq ?_);obtain ⟨x,y,e29,dx,hx,dy,hy⟩:=q29;rw [e29];have hev:execOp a.eval x=(do pure (.value (←Instr.next (.pointer (some ⟨r,0,none⟩)) false x.type))):=by
  unfold execOp;rw [hx];simp only [IM h82]
 rcases run_next_at (P:=P) w x.type r b clock c seen cN clock hr hb DP.1 hc with ⟨h0,hrun⟩|⟨e,he,w1,hal,hrun⟩
 ·
  refine ko dx.guard fun K hK=>HP dx.dst hev hrun (hK _ _ ?_)
  refine ko dy.guard fun K hK=>CJ dy.dst hy (cu (by rw [hsz];omega)) (v:= .bool false) (by simp) (hK _ _ (uz ?_))
  show Code.wp P _ _ _ _;refine pN (wp_cond_false (IM (cu (by rw [kR,hsz];omega))) (wp_exit ?_));show Exit.exit 8= .exit 8∧_;have hp:(X++es.map wX).Perm (X++Y):=by
   rw [←hY];refine List.Perm.append_left _ (List.Perm.map _ ?_);refine (List.perm_ext_iff_of_nodup hperm hentnd).2 fun z=>⟨hsub z,fun hz=> ?_⟩
   have hs:=all_seen cN seen h0 z hz;obtain ⟨z',hz',e'⟩:=aB.1 ((aak _).1 hs);have:=Zp DP.2 z' (hsub z' hz') z hz e';rw [←this];exact hz'
  refine ⟨rfl,μ,loc,X++es.map wX,⟨TB hp,by rw [cQ,aW];omega⟩,hR.re ?_ hR.defers (fun i sv hi=> ?_) fun id o h=>h⟩
  ·rw [kR,kR,hsz]
  ·obtain ⟨rfl,rfl⟩:=env0 hi
   rw [bl (by omega),bl (by omega)];exact hR.env 0 _ rfl
 ·
  obtain ⟨hem,hes⟩:=mem_left he;have hnew:e.born∉es.map (·.born):=fun hm=>by rw [(aak _).2 hm] at hes;cases hes
  have aal:∀w1:World,(w1=w∨w1=w.drew)→w1.heap=w.heap:=by
   rintro w1 (rfl|rfl)<;>rfl
  have hh1:=aal w1 hal;have hr1:w1.heap[r]? =some (.mapIter (some b) clock seen c):=by rw [hh1];exact hr
  have hst:=MapKept.heap_set (o':= .mapIter (some b) clock (seen.push e.born) clock) hr1;have Vu:Rel 102 w0 μ0 L μ loc (stL (GJ v0 v1) (.mp 9 3 a1 a2) (.row 3 1 y3) (.row 114 1 y4) (X++es.map wX)) a (Go.ChangeMaps.setBlock w1 r (.mapIter (some b) clock (seen.push e.born) clock)):=by
   refine hR.aside hr0 tR (fun id o h=>(hno id o h).1) (fun b' hne=> ?_) ?_ ?_ ?_ ?_ ?_
   ·show (w1.heap.setIfInBounds r _)[b']? =_
    rw [hst.2 b' hne,hh1]
   ·rcases hal with rfl|rfl<;>rfl
   ·rcases hal with rfl|rfl<;>rfl
   ·rcases hal with rfl|rfl<;>rfl
   ·show (w1.heap.setIfInBounds r _).size=_
    rw [Array.size_setIfInBounds,hh1]
   ·rcases hal with rfl|rfl
    ·exact aS _
    ·exact zL _
  have hr2:(Go.ChangeMaps.setBlock w1 r (.mapIter (some b) clock (seen.push e.born) clock)).heap[r]? =some (.mapIter (some b) clock (seen.push e.born) clock):=hst.1;have KW:(Go.ChangeMaps.setBlock w1 r (.mapIter (some b) clock (seen.push e.born) clock)).heap[b]? =some (.map cN clock):=by
   show (w1.heap.setIfInBounds r _)[b]? =_;rw [hst.2 b (fun e=>hrb e.symm),hh1];exact hb
  generalize Go.ChangeMaps.setBlock w1 r (.mapIter (some b) clock (seen.push e.born) clock)=w2 at hrun Vu hr2 KW;refine ko dx.guard fun K hK=>HP dx.dst hev hrun (hK _ _ ?_)
  refine ko dy.guard fun K hK=>CJ dy.dst hy (cu (by rw [hsz];omega)) (v:= .bool true) (by simp) (hK _ _ (uz ?_))
  show Code.wp P _ _ _ _;refine pN (wp_cond_true (IM (cu (by rw [kR,hsz];omega))) (wp_skip ?_));show Code.wp P _ _ _ _;refine wp_block (pN (yq ?_));obtain ⟨p,q,s,e30,dp,hp,dq,hqq,ds,hs⟩:=q30;rw [e30];have h82':(((a.put (some 83) (.tuple #[.bool true,e.key,e.val])).put (some 84) (.bool true))).tmps[82]? =some (.pointer (some ⟨r,0,none⟩)):=by
   rw [bl (by omega),bl (by omega)];exact h82
  have aam:(((a.put (some 83) (.tuple #[.bool true,e.key,e.val])).put (some 84) (.bool true))).tmps.size=102:=by rw [kR,kR,hsz]
  have h0':(((a.put (some 83) (.tuple #[.bool true,e.key,e.val])).put (some 84) (.bool true))).tmps[0]? =a.tmps[0]? :=by
   rw [bl (by omega),bl (by omega)]
  have hd':(((a.put (some 83) (.tuple #[.bool true,e.key,e.val])).put (some 84) (.bool true))).defers=[]:=hR.defers;generalize ((a.put (some 83) (.tuple #[.bool true,e.key,e.val])).put (some 84) (.bool true))=c2 at h82' aam h0' hd';have hev2:execOp c2.eval p=(do pure (.value (←Instr.entry (.pointer (some ⟨r,0,none⟩))))):=by
   unfold execOp;rw [hp];simp only [IM h82']
  refine ko dp.guard fun K hK=>HP dp.dst hev2 (run_entry_at w2 r b clock seen cN clock e hr2 KW hem DP.2) (hK _ _ ?_)
  refine ko dq.guard fun K hK=>CJ dq.dst hqq (cu (by rw [aam];omega)) (v:=e.key) (by simp) (hK _ _ ?_)
  refine ko ds.guard fun K hK=>wp_assign ds.dst (.inr hs) (v:=e.key) (cu (by rw [kR,aam];omega)) (hK _ _ (uz ?_))
  show Code.wp P _ _ _ _;have h82'':(((c2.put (some 85) (.tuple #[e.key,e.val])).put (some 86) e.key).put (some 14) e.key).tmps[82]? =some (.pointer (some ⟨r,0,none⟩)):=by
   rw [bl (by omega),bl (by omega),bl (by omega)];exact h82'
  have hsz'':(((c2.put (some 85) (.tuple #[e.key,e.val])).put (some 86) e.key).put (some 14) e.key).tmps.size=102:=by rw [kR,kR,kR,aam]
  have h0'':(((c2.put (some 85) (.tuple #[e.key,e.val])).put (some 86) e.key).put (some 14) e.key).tmps[0]? =a.tmps[0]? :=by
   rw [bl (by omega),bl (by omega),bl (by omega)];exact h0'
  have h14'':(((c2.put (some 85) (.tuple #[e.key,e.val])).put (some 86) e.key).put (some 14) e.key).tmps[14]? =some e.key:=cu (by rw [kR,kR,aam];omega);have hd'':(((c2.put (some 85) (.tuple #[e.key,e.val])).put (some 86) e.key).put (some 14) e.key).defers=[]:=hd';generalize (((c2.put (some 85) (.tuple #[e.key,e.val])).put (some 86) e.key).put (some 14) e.key)=a3 at h82'' hsz'' h0'' h14'' hd'';have hR3:Rel 102 w0 μ0 L μ loc (Yv (GJ v0 v1) (.mp 9 3 a1 a2) (.row 3 1 y3) (.row 114 1 y4) (X++es.map wX) (wX e)) a3 w2:=by
   refine Vu.re hsz'' hd'' (fun i sv hi=> ?_) fun id o h=>h
   have hi':find [(0,SV.ptr 10000 0),(14,SV.pv (.str (wX e)))] i=some sv:=hi;simp only [find] at hi';cases h0b:Nat.beq 0 i with
   |true=>
    rw [h0b,ai] at hi';injection hi' with hi'
    rw [←gF h0b,←hi',h0''];exact hR.env 0 _ rfl
   |false=>
    rw [h0b,aj] at hi';cases h1b:Nat.beq 14 i with
    |true=>
     rw [h1b,ai] at hi';injection hi' with hi'
     rw [←gF h1b,←hi',h14''];exact ⟨_,rfl,by show rep μ (.str (wX e)) e.key;rw [rep,hkey e hem]⟩
    |false=>rw [h1b,aj] at hi';cases hi'
  have happ:=app74 ou z7 hq hB (s:=wX e) (by rw [cQ,aW];omega) h82'' hR3;refine wp_mono happ ?_
  rintro ee a' w' ⟨rfl,k82,μ',loc',k1,k2,k3,k4⟩
  have hrlt:r<w2.heap.size:=(eG.1 hr2).1;have hblt:b<w2.heap.size:=(eG.1 KW).1;have kr:w'.heap[r]? =some (.mapIter (some b) clock (seen.push e.born) clock):=(k3 r hrlt fun id o h=>(hno id o h).1).trans hr2;show Inv9 w0 μ0 L v0 v1 a1 a2 y3 y4 X r b cN clock a' w'∧LA r cN w'<LA r cN w;have happ:X++(es++[e]).map wX=(X++es.map wX)++[wX e]:=by rw [bT,←fe];rfl
  refine ⟨⟨μ',loc',es++[e],seen.push e.born,clock,by rw [happ];exact k1,k82,(k3 b hblt fun id o h=>(hno id o h).2).trans KW,kr,aS _,fun j=>k4 r j hrlt (tR j),fun id o h=> ?_,fun z hz=> ?_,?_,fun n=> ?_⟩,?_⟩
  ·rw [happ] at h
   constructor
   ·intro hin
    rcases k2 id o h r hin with h1|⟨id',o',h1,h2⟩
    ·omega
    ·exact (hno id' o' h1).1 h2
   ·intro hin
    rcases k2 id o h b hin with h1|⟨id',o',h1,h2⟩
    ·omega
    ·exact (hno id' o' h1).2 h2
  ·rcases bC.1 hz with hz|hz
   ·exact hsub z hz
   ·rw [bP] at hz;rw [hz];exact hem
  ·rw [bT,jq]
   refine ⟨hnd,by simp,fun x hx y hy=> ?_⟩;simp only [aP,dV,bP] at hy
   rintro rfl
   exact hnew (hy▸hx)
  ·rw [contains_push,eY,aak,bT,bC]
   simp only [aP,dV,bP,fu]
  ·unfold LA
   rw [kr,hr];exact left_shrinks cN seen e he
end
theorem Xd {B:Mu} (ou:ga False B P fk) (z7:P.follows .mixedOrders=true):HQ False B P 102 bk P5 P4:=by
 intro w0 μ0 L μ loc st a w hq hB hg hR;obtain ⟨ks,vs,xs,v0,v1,a1,a2,y3,y4,g0,g3,gb,g15,g2,g1,g4,g5,hC⟩:=guard74 hg;obtain ⟨hxs,hks,hlen⟩:=SE hC;obtain ⟨b,cN,clock,hl,hown,hh,tR,h1,h2,DP⟩:=hR.obs 15 _ g15;rw [hks] at h1;obtain ⟨hY,hkey⟩:=keys_of h1;obtain ⟨v3,ht3,hr3⟩:=hR.env 3 _ g3;have hv3:v3= .map (some b):=by
  have:v3=fM (loc 15):=hr3;rw [this,hl];rfl
 subst hv3;have hsz:a.tmps.size=102:=hR.size;have hF:P4 st=(1,{ env:=find [(2, .pv (.int .i64 0))],ob:=find (Nq (GJ v0 v1) (.mp 9 3 a1 a2) (.row 3 1 y3) (.row 114 1 y4) (mz Op.bytesLess (xs.map Ay++ks.map strOf))) }):=by
  unfold P4;rw [g15,g2,gb,g1,g4,g5];rfl
 rw [hF,bk_eq];refine pN (pN (yq ?_));obtain ⟨x,y,e28,dx,hx,dy,hy⟩:=q28;rw [e28];refine ko dx.guard fun K hK=>wp_assign dx.dst (.inl hx) ht3 (hK _ _ ?_)
 have h81:(a.put (some 81) (.map (some b))).tmps[81]? =some (.map (some b)):=cu (by rw [hsz];omega);have hev:execOp (a.put (some 81) (.map (some b))).eval y=(do pure (.value (←Instr.range 220 (.map (some b))))):=by
  unfold execOp;rw [hy];simp only [IM h81]
 refine ko dy.guard fun K hK=>HP dy.dst hev (run_range_map w 220 9 4 b cN clock ul220 hh) (hK _ _ (uz ?_))
 show Code.wp P _ _ _ _;have hblt:b<w.heap.size:=(eG.1 hh).1;have hno:∀id o,find (Nq (GJ v0 v1) (.mp 9 3 a1 a2) (.row 3 1 y3) (.row 114 1 y4) (xs.map Ay)) id=some o→st.ob id=some o∧id≠15:=by
  intro id o h;have hmem:(id,o)∈Nq (GJ v0 v1) (.mp 9 3 a1 a2) (.row 3 1 y3) (.row 114 1 y4) (xs.map Ay):=DY ou z7 hq hB h;simp only [Nq,aD,fF,fW,br] at hmem;rcases hmem with ⟨rfl,rfl⟩|⟨rfl,rfl⟩|⟨rfl,rfl⟩|⟨rfl,rfl⟩|⟨rfl,rfl⟩
  ·exact ⟨gb,by decide⟩
  ·exact ⟨g1,by decide⟩
  ·exact ⟨by rw [←hxs];exact g2,by decide⟩
  ·exact ⟨g4,by decide⟩
  ·exact ⟨g5,by decide⟩
 have IW:Rel 102 w0 μ0 L μ loc st a (w.alloc (.mapIter (some b) clock #[] clock)):=hR.Qm (qL w _);have Vu:Rel 102 w0 μ0 L μ loc (stL (GJ v0 v1) (.mp 9 3 a1 a2) (.row 3 1 y3) (.row 114 1 y4) (xs.map Ay++([]:List MapEntry).map wX)) ((a.put (some 81) (.map (some b))).put (some 82) (.pointer (some ⟨w.heap.size,0,none⟩))) (w.alloc (.mapIter (some b) clock #[] clock)):=by
  rw [dV,eU];refine IW.re (by rw [kR,kR,hsz]) hR.defers (fun i sv hi=> ?_) fun id o h=>(hno id o h).1
  obtain ⟨rfl,rfl⟩:=env0 hi;rw [bl (by omega),bl (by omega)];exact hR.env 0 _ g0
 refine wp_block (wp_loop (Inv9 w0 μ0 L v0 v1 a1 a2 y3 y4 (xs.map Ay) w.heap.size b cN clock) (fun _ w'=>LA w.heap.size cN w') ?_ ?_)
 ·refine ⟨μ,loc,[], #[],clock,Vu,cu (by rw [kR,hsz];omega),?_,?_,aS _,fun j=> ?_,fun id o h=> ?_,fun e he=>(by cases he),by simp,fun n=>by simp⟩
  ·show (w.heap.push _)[b]? =_
   rw [Array.getElem?_push_lt hblt,←vI hblt];exact hh
  ·show (w.heap.push _)[w.heap.size]? =_
   simp
  ·cases hv:μ w.heap.size j with
   |none=>rfl
   |some v=>have:=mq (hR.uI _ _ _ hv);omega
  ·rw [dV,eU] at h
   obtain ⟨h3,h4⟩:=hno id o h;refine ⟨fun hin=> ?_,fun hin=> ?_⟩
   ·have:=((hR.obs id o h3).block _ hin).2.1;omega
   ·exact hR.apart id 15 o _ h3 g15 h4 b hin (by rw [hl];exact uC.2 rfl)
 ·intro a' w' hI
  refine wp_mono (round74 ou z7 hq hB hR.grown (by omega) DP hkey hY (by rw [aW,aW];exact hlen) hI) ?_;intro e a2 w2 h;cases e with
  |normal=>exact h
  |exit id=>
   obtain ⟨e8,μ',loc',l,⟨hs,MT⟩,z6⟩:=h;injection e8 with e8
   subst e8;show Code.wp P _ _ _ _;have:=fin74 ou z7 hq hB MT z6;rw [hs] at this;exact this
  |goto l=>exact absurd h.1 (by simp)
  |ret=>exact absurd h.1 (by simp)
  |panic ch=>exact absurd h.1 (by simp)
  |outgrown=>exact absurd h.1 (by simp)
theorem blk_all {B:Mu} (ou:ga False B P fk) (z7:P.follows .mixedOrders=true):∀f fn c,P.funcs[f]? =some fn→fn.body=some c→mW False B P (H f) fn.ntmps c:=by
 intro f fn c hf hb;by_cases h:f=173
 ·subst h
  have hn:fn.ntmps=102:=by
   have:(P.funcs[173]?).map (·.ntmps)=some 102:=by kernel_rfl
   rw [hf] at this;exact eS this
  have hc:c=Iq:=by
   have:Iq=c:=by
    unfold Iq;rw [hf];show fn.body.getD Code.skip=c;rw [hb];rfl
   exact this.symm
  rw [hn,hc];refine Zk _ fun a b x hm hx=> ?_
  rw [blks_eq,bP] at hm;rw [hm];have h28:dN a=28:=by
   have:Code.seq a b= .seq (.seq (.region 28 (oo 28) false) (.block 8 (.loop rkC))) ck:=hm.trans bk_eq;injection this with h1 h2
   rw [h1];rfl
  rw [h28] at hx;have:find (H 173).blk 28=some (P5,P4):=by kernel_rfl
  rw [this] at hx;injection hx with hx
  rw [←hx];exact Xd ou z7
 ·refine mW.none ?_ c
  have key:∀(l:List (Nat×Hint)),(l.all fun p=>Nat.beq p.1 173||p.2.blk.isEmpty)=true→∀f,f≠173→((find l f).getD {}).blk=[]:=by
   intro l
   induction l with
   |nil=>intro _ f _;rfl
   |cons p l ih=>
    intro h f hf;rw [gU,aF,eY] at h;simp only [find];cases hb:Nat.beq p.1 f with
    |true=>
     rw [ai];rcases h.1 with h1|h1
     ·exact absurd ((gF hb).symm.trans (gF h1)) hf
     ·exact ud.1 h1
    |false=>rw [aj];exact ih h.2 f hf
  exact key hints (by kernel_rfl) f h
end Go.Proofs.YthppjmoncapdfaaGreatDoor.cl
set_option maxRecDepth 100000
namespace Go.Proofs.YthppjmoncapdfaaGreatDoor.cl
open Go Go.AM Go.RowKit Go.ChangeShapes Go.WideShapes Go.ChangeAt
theorem own:ownKnob Tryz.prog.godebug=none:=by kernel_rfl
theorem gTab:Tryz.prog.globalNamed "math/bits.deBruijn64tab" =some 0:=by kernel_rfl
theorem Z9:(Tryz.prog.globals[0]?).map (·.type)=some 265:=by kernel_rfl
theorem Zx:Tryz.prog.cellsOf 265=64:=by kernel_rfl
theorem cells5:Tryz.prog.cellsOf 5=1:=by kernel_rfl
theorem tableIs {W:World} (h:laidMetH Tryz.prog Rows.preferPartsRow.laid W):Lib.TabIs Tryz.prog W "math/bits.deBruijn64tab" .u8 [0,1,56,2,57,49,28,3,61,58,42,50,38,29,17,4,62,47,59,36,45,43,51,22,53,39,33,30,24,18,12,5,63,55,48,27,60,41,37,16,46,35,44,21,52,32,23,11,54,26,40,15,34,20,31,10,25,14,19,9,13,8,7,6]:=
 Lib.tabIs_of_head gTab Z9 Tryz.underlying265 Tryz.underlying5 cells5 Zx (laidMet.tail (show laidMet Tryz.prog Rows.preferPartsRow.laid W from h))
theorem tabB_le {W:World} (h:laidMetH Tryz.prog Rows.preferPartsRow.laid W):acE.le (V2 W):=by
 intro b j v hv;unfold acE at hv;split at hv
 ·rename_i hb
  obtain ⟨rfl,hj⟩:=hb;injection hv with hv
  subst hv;have:=(tableIs h).cell gTab j hj;refine tE ?_ rfl;rw [this];have e:∀j,j<64→([0,1,56,2,57,49,28,3,61,58,42,50,38,29,17,4,62,47,59,36,45,43,51,22,53,39,33,30,24,18,12,5,63,55,48,27,60,41,37,16,46,35,44,21,52,32,23,11,54,26,40,15,34,20,31,10,25,14,19,9,13,8,7,6]:List Int).getD j 0=((Lib.deBruijn64tab.getD j 0:Nat):Int):=by decide
  rw [e j hj]
 ·cases hv
def Uv (cs:Array Value):Obj→Obj
 | .cells _ t frozen=> .cells cs t frozen
 |o=>o
noncomputable def E6 (os:Os):World:=
 {World.holding Tryz.prog os ⟨#[], #[],[]⟩ with heap:=(((World.holding Tryz.prog os ⟨#[], #[],[]⟩).heap.modify 0 (Uv #[.int .u8 0, .int .u8 1, .int .u8 56, .int .u8 2, .int .u8 57, .int .u8 49, .int .u8 28, .int .u8 3, .int .u8 61, .int .u8 58, .int .u8 42, .int .u8 50, .int .u8 38, .int .u8 29, .int .u8 17, .int .u8 4, .int .u8 62, .int .u8 47, .int .u8 59, .int .u8 36, .int .u8 45, .int .u8 43, .int .u8 51, .int .u8 22, .int .u8 53, .int .u8 39, .int .u8 33, .int .u8 30, .int .u8 24, .int .u8 18, .int .u8 12, .int .u8 5, .int .u8 63, .int .u8 55, .int .u8 48, .int .u8 27, .int .u8 60, .int .u8 41, .int .u8 37, .int .u8 16, .int .u8 46, .int .u8 35, .int .u8 44, .int .u8 21, .int .u8 52, .int .u8 32, .int .u8 23, .int .u8 11, .int .u8 54, .int .u8 26, .int .u8 40, .int .u8 15, .int .u8 34, .int .u8 20, .int .u8 31, .int .u8 10, .int .u8 25, .int .u8 14, .int .u8 19, .int .u8 9, .int .u8 13, .int .u8 8, .int .u8 7, .int .u8 6])).modify 1 (Uv #[.int .u64 1, .int .u64 10, .int .u64 100, .int .u64 1000, .int .u64 10000, .int .u64 100000, .int .u64 1000000, .int .u64 10000000, .int .u64 100000000, .int .u64 1000000000, .int .u64 10000000000, .int .u64 100000000000, .int .u64 1000000000000, .int .u64 10000000000000, .int .u64 100000000000000, .int .u64 1000000000000000, .int .u64 10000000000000000, .int .u64 100000000000000000, .int .u64 1000000000000000000, .int .u64 10000000000000000000])).modify 3 (Uv #[.int .u8 0, .int .u8 1, .int .u8 28, .int .u8 2, .int .u8 29, .int .u8 14, .int .u8 24, .int .u8 3, .int .u8 30, .int .u8 22, .int .u8 20, .int .u8 15, .int .u8 25, .int .u8 17, .int .u8 4, .int .u8 8, .int .u8 31, .int .u8 27, .int .u8 13, .int .u8 23, .int .u8 21, .int .u8 19, .int .u8 16, .int .u8 7, .int .u8 26, .int .u8 12, .int .u8 18, .int .u8 6, .int .u8 11, .int .u8 5, .int .u8 10, .int .u8 9]) }
end Go.Proofs.YthppjmoncapdfaaGreatDoor.cl
