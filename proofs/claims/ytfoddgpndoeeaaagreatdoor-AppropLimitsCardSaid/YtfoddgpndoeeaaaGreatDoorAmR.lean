/- READING. -/
import Derived.Test.YtfoddgpndoeeaaaGreatDoorAmL
import Derived.Deep.Slices
import Derived.OpenShut
import Derived.Carry
import Derived.ProofKit
set_option linter.unusedVariables false
set_option linter.unusedSimpArgs false
namespace Go.AM
open Go.RowKit Go.ChangeShapes Go.WideShapes Go.ChangeAt
mutual
def AV.bulk:AV→Nat
 | .str s=>s.length+1
 | .cE _ xs=>Re xs+1
 | .agg cs=>yN cs
 | .bool _=>1
 | .int _ _=>1
 | .fn _ _=>1
 | .e9 cs=>yN cs
 | .ref _=>1
 | .mp _ _=>1
 | .self _=>1
 | .pH=>1
 | .jL=>1
 | .hole=>1
def yN:List AV→Nat
 |[]=>0
 |a::l=>AV.bulk a+yN l
def Re:List (List AV)→Nat
 |[]=>0
 |c::l=>yN c+Re l
end
mutual
def AV.wf:AV→Prop
 | .str s=>s.length≤maxLen
 | .cE _ xs=>wfR xs
 | .agg cs=>Wi cs
 | .bool _=>True
 | .int k n=>(Lit.int k n).wf=true
 | .fn _ _=>True
 | .e9 cs=>Wi cs
 | .ref _=>True
 | .mp _ _=>True
 | .self _=>True
 | .pH=>True
 | .jL=>True
 | .hole=>True
def Wi:List AV→Prop
 |[]=>True
 |a::l=>AV.wf a∧Wi l
def wfR:List (List AV)→Prop
 |[]=>True
 |c::l=>Wi c∧wfR l
end
structure Ew {H:Type} (bk:DataW H→Nat) (Rb:List (DataW H)→Nat):Prop where
 str:∀l,bk (.lit (.string l))=l.length+1
 lit:∀l,1≤bk (.lit l)
 nil:1≤bk .nil
 slice:∀e s,bk (.slice e s)=Rb e+Rb s+1
 agg:∀p,bk (.agg p)=Rb p+1
 nilA:Rb []=0
 UC:∀d r,Rb (d::r)=bk d+Rb r
def Pw (w:World):Mu:=fun b j=>yg w b j
theorem QG (w:World):Mk (Pw w) w:=fun _ _ _ h=>h
section
variable {H:Type} {enc:TypeId×Value→H} {P:Program} {w:World} {bk:DataW H→Nat} {Rb:List (DataW H)→Nat}
def RdA (enc:TypeId×Value→H) (P:Program) (w:World) (bk:DataW H→Nat) (n:Nat) (t:TypeId) (Q:List AV→Prop):Prop:=
 ∀cs d ps,DataW.trod enc P w 0 (fun _=>true) true n t cs=some (d,ps)→∃EH,Q EH∧gq (Pw w) EH cs∧yN EH≤bk d∧Wi EH
theorem QJ (hB:Ew bk Rb) {n:Nat} {t:TypeId} (ht:P.underlying t=some .bool):RdA enc P w bk n t fun EH=>∃x,EH=Bz x:=by
 intro cs d ps h;obtain ⟨x,rfl,hx⟩:=DataW.trod_bool ht h;simp only [Prod.mk.injEq] at hx;obtain ⟨rfl,rfl⟩:=hx;refine ⟨Bz x,⟨x,rfl⟩,⟨bA (by simp [rep]) cu,by simp [Value.oneCell']⟩,?_,?_⟩
 ·simp only [Bz,yN,AV.bulk];exact hB.lit _
 ·exact ⟨trivial,trivial⟩
theorem PG {t:TypeId} {v:Value} {d:DataW H} {ps:List MemPlace} {Q:List AV→Prop} (hv:v.cells= #[v]) (hd:DataW.Trod enc P w 0 (fun _=>true) true t v d ps) (hR:∀n,RdA enc P w bk n t Q):
  ∃a,Q [a]∧rep (Pw w) a v∧a.bulk≤bk d∧a.wf:=by
 obtain ⟨n,hn⟩:=hd;obtain ⟨EH,q,r,b,wf⟩:=hR n _ _ _ hn;rw [hv] at r;have hl:=r.length;cases EH with
 |nil=>simp at hl
 |cons a l=>
  cases l with
  |nil=>
   refine ⟨a,q,?_,by simpa [yN] using b,wf.1⟩;have:=r.1;rw [aU] at this;obtain ⟨u,us,e,h1,_⟩:=this;simp at e;rw [e.1];exact h1
  |cons b l=>simp at hl
end
theorem Lr {P:Program} {H:Nat→Hint} {dg:cQ} {q:Prop} {B:Mu} (hok:vZ P=true) (hblk:∀f fn c,P.funcs[f]? =some fn→fn.body=some c→gG q B P (H f) fn.ntmps c) (gR:dD q B P dg) {f:Nat} {EH:List AV} {us:List Value} {W:World} (hB:B.le (Pw W)) (oT:aU (Pw W) EH us)
  (hrun:run P H dg f (EH.map .pv) []=some (.bool true,[])):Calls P f us.toArray W fun e W'=>e= .returned (.bool true)∧Below W.heap.size W W':=by
 have hs:∀{EH:List AV} {us:List Value},aU (Pw W) EH us→dZ (Pw W) (fun _=> .bool false) (EH.map .pv) us:=by
  intro EH
  induction EH with
  |nil=>intro us h;rw [aU] at h;subst h;rfl
  |cons a l ih=>intro us h;rw [aU] at h;obtain ⟨u,us',rfl,h1,h2⟩:=h;exact ⟨u,us',rfl,h1,ih h2⟩
 have:=(Cc hok hblk gR f _ [] _ [] hrun W (Pw W) (fun _=> .bool false) us hB (QG W) (fun id o h=>by cases h) (fun i j oi oj h=>by cases h) (hs oT)).2;refine this.mono ?_
 rintro e W' ⟨v,μ',loc',rfl,hp⟩
 have hv:=hp.pure rfl;rw [rep] at hv;subst hv;exact ⟨rfl,uf hp⟩
theorem sW {Hh:Type} {enc:TypeId×Value→Hh} {P:Program} (hl:laidOutB P=true) {W W':World} (hb:Below W.heap.size W W'):∀{ts:List TypeId} {vs:List Value} {ds:List (DataW Hh)} {ps:List MemPlace},(∀t∈ts,P.readableRec t=true∧t<P.types.size)→
  (∀x∈ps,x.block<W.heap.size)→DataW.TrodAll enc P W 0 (fun _=>true) true ts vs ds ps→DataW.TrodAll enc P W' 0 (fun b=>decide (b<W.heap.size)) true ts vs ds ps
 |[],[],[],_,_,_,h=>h
 |[],[],_::_,_,_,_,h=>h.elim
 |[],_::_,_,_,_,_,h=>by cases h
 |_::_,[],_,_,_,_,h=>by cases h
 |_::_,_::_,[],_,_,_,h=>h.elim
 |t::ts,v::vs,d::ds,ps,hr,hlt,h=>by
  obtain ⟨p,q,h1,h2,rfl⟩:=h;exact ⟨p,q,Below.trod hl (hr t (by simp)).1 (hr t (by simp)).2 h1 hb (fun x hx=>hlt x (by simp [hx])),sW hl hb (fun t ht=>hr t (by simp [ht])) (fun x hx=>hlt x (by simp [hx])) h2,rfl⟩
theorem rJ {Hh:Type} {enc:TypeId×Value→Hh} {P:Program} {W:World}:∀{ts:List TypeId} {vs:List Value} {ds:List (DataW Hh)} {ps:List MemPlace},DataW.TrodAll enc P W 0 (fun _=>true) true ts vs ds ps→ds.length=ts.length
 |[],[],[],_,_=>rfl
 |[],[],_::_,_,h=>h.elim
 |[],_::_,_,_,h=>by cases h
 |_::_,[],_,_,h=>by cases h
 |_::_,_::_,[],_,h=>h.elim
 |t::ts,v::vs,d::ds,ps,h=>by
  obtain ⟨p,q,h1,h2,rfl⟩:=h;simp [rJ h2]
theorem LP {Hh:Type} {enc:TypeId×Value→Hh} {P:Program} {fn:Func} {s:ChangeSpec} {tb:TypeId} {W W':World} {args:Array Value} {ds gs:List (DataW Hh)} {before:List MemPlace} {apart fresh handsOn:Bool}
  (hl:laidOutB P=true) (hpar:fn.params.toList.all (fun t=>P.readableRec t&&decide (t<P.types.size))=true) (hvars:s.vars=[]) (hres:fn.resultTypes= #[tb]) (htb:P.underlying tb=some .bool)
  (hfn:∀ds:List (DataW Hh),ds.length=fn.params.size→s.fn Hh ds={ results:=[.lit (.bool true)],args:=ds })
  (hW:DataW.Whole enc P fn.params.toList s.vars apart W args.toList ds gs before) (hb:Below W.heap.size W W'):
  s.post enc P fn apart fresh handsOn false W args (.bool true) W':=by
 have hlt:=hW.lt;have hW':=hW;obtain ⟨p,q,hA,hV,rfl,_,_⟩:=hW;rw [hvars] at hV;obtain ⟨rfl,rfl⟩:gs=[]∧q=[]:=by
  cases gs with
  |nil=>exact ⟨rfl,hV⟩
  |cons g gs=>exact hV.elim
 have hlen:=rJ hA;have e:=hfn ds (by rw [hlen,Array.length_toList]);refine ⟨ds,[],p++[],[],p,[],hW',?_,?_,?_,hb.frame _,fun h=>by cases h⟩
 ·rw [List.append_nil,e,hres]
  exact trodAll_cons_mk (shut_bool htb _) trodAll_mk0
 ·rw [List.append_nil,e]
  refine sW hl hb (fun t ht=> ?_) (fun x hx=>hlt x (by simp [hx])) hA;have:=List.all_eq_true.1 hpar t ht;simp only [Bool.and_eq_true,decide_eq_true_eq] at this;exact this
 ·rw [List.append_nil,e,hvars]
  rfl
end Go.AM
