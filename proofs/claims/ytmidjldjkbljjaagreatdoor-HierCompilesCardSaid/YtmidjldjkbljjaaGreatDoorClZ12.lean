/-
  PROVED: for every input the law HierCompiles returns true and leaves its arguments as they read; math/bits' table holds what the program's text lays.
-/
import Derived.Test.YtmidjldjkbljjaaGreatDoorClSy
import Derived.Test.YtmidjldjkbljjaaGreatDoorClW
import Derived.Test.YtmidjldjkbljjaaGreatDoorClV
set_option linter.unusedVariables false
set_option linter.unusedSimpArgs false
set_option maxRecDepth 100000
namespace Go.Proofs.YtmidjldjkbljjaaGreatDoor.cl12
open Go Go.AM Go.RowKit Go.ChangeShapes Go.WideShapes Go.ChangeAt Go.Proofs.YtmidjldjkbljjaaGreatDoor.cl
theorem contract (H:Type) (enc:TypeId×Value→H) (W:World) (base:Nat) (args:Array Value) (ds gs:List (DataW H)) (before:List MemPlace)
  (hval:∀(j:Nat) t v,Tryz.f12.params[j]? =some t→args[j]? =some v→Value.okWide Tryz.prog W .any base t v)
  (hW:DataW.Whole enc Tryz.prog Tryz.f12.params.toList Rows.hierCompilesSpec.vars false W args.toList ds gs before) (hL:laidMetH Tryz.prog Rows.hierCompilesRow.laid W):
  Calls Tryz.prog 12 args W fun e W'=>∃v,e= .returned v∧Rows.hierCompilesSpec.post enc Tryz.prog Tryz.f12 false true false false W args v W':=by
 have KC:=hW;obtain ⟨p,q,KB,hV,rfl,hfz,kq⟩:=hW;have hA:DataW.TrodAll enc Tryz.prog W 0 (fun _=>true) true Tryz.f12.params.toList args.toList ds p:=KB;rw [Tryz.params12] at hA hval;obtain ⟨v0,YD,d0,W3,p0,q0,hargs,rfl,rfl,h0,r0⟩:=trodAll_cons hA;obtain ⟨rfl,rfl,rfl⟩:=trodAll_nil r0;obtain rfl:args= #[v0]:=by cases args;simp_all
 obtain ⟨rfl,rfl⟩:=trodVars_none hV;obtain ⟨x0,G4⟩:=lq (hval 0 22 v0 rfl rfl) h0;have hrun:run P cl.H dg 12 [.pv (.cm 3 (x0.map af.enc))] []=some (.bool true,[]):=aH (EN Q0) (Rn 12 [.pv (.cm 3 (x0.map af.enc))] []) _ (X5 (d:=x0));have jS:=jZ (H:=cl.H) cl.ok (oG gm (by kernel_rfl)) gm (lu:=[.cm 3 (x0.map af.enc)]) (us:=[v0]) (pE hL) (bq G4 bZ) hrun;refine jS.mono fun e W' ⟨he,hb⟩=> ?_
 subst he
 exact ⟨_,rfl,lE (tb:=4) (by kernel_rfl) (by kernel_rfl) rfl rfl Tryz.underlying4 (fun ds hds=>by
  match ds,hds with
  |[a0],_=>rfl) KC hb⟩
theorem nM:((Rows.hierCompilesRow.inPlace==Tryz.pinned.checked.prog.inPlace 12))=true:=by kernel_rfl
theorem jP:((Rows.hierCompilesRow.unfollowed==Tryz.pinned.checked.prog.unfollowed 12))=true:=by kernel_rfl
theorem jQ:((Rows.hierCompilesRow.recurses==Tryz.pinned.checked.prog.recurses 12))=true:=by kernel_rfl
theorem jR:((Rows.hierCompilesRow.named==Tryz.pinned.checked.prog.varsNamed 12))=true:=by kernel_rfl
theorem closed:joinedFacts Tryz.pinned.checked.prog 12 Tryz.f12 (OpenSpec.ofChange Rows.hierCompilesSpec).bare Rows.hierCompilesRow=true:=by
 unfold joinedFacts;exact (band (band (band (band (band (band (band (band (band (band (band (band (band (band (band (band (band (band (band (band (band (band (band (band (band (band (band (band (band (band (band (by kernel_rfl) cl.fact1) cl.fact2) (by kernel_rfl)) (by kernel_rfl)) (by kernel_rfl)) cl.fact6) (by kernel_rfl)) cl.fact8) nM) jP) jQ) jR) (by kernel_rfl)) (by kernel_rfl)) (by kernel_rfl)) (by kernel_rfl)) (by kernel_rfl)) (by kernel_rfl)) (by kernel_rfl)) (by kernel_rfl)) (by kernel_rfl)) cl.fact22) (by kernel_rfl)) cl.fact24) cl.fact25) cl.fact26) cl.fact27) (by kernel_rfl)) (by kernel_rfl)) (by kernel_rfl)) (by kernel_rfl))
theorem fE (os:Os):laidMet Tryz.prog Rows.hierCompilesRow.laid ((c7 os).forCall (fun _ _=>0) ⟨#[], #[.slice none 0 0],[]⟩).memory:=
 laidMet_of_run' 8 (by kernel_rfl) (by kernel_rfl)
theorem reads (os:Os) {H:Type} (enc:TypeId×Value→H):∃places,DataW.whole enc Tryz.prog ((c7 os).forCall (fun _ _=>0) ⟨#[], #[.slice none 0 0],[]⟩).memory Tryz.f12.params.toList Rows.hierCompilesSpec.vars false (#[.slice none 0 0]:Array Value).toList 8=some ([.nil],[],places):=
 ⟨[],by kernel_rfl⟩
theorem lifted (os:Os) (started:os.Started) (H:Type) (enc:TypeId×Value→H) (F:Stop.Interp):
  ReturnsInHanded {} Tryz.checked os 12 .any ((OpenSpec.ofChange Rows.hierCompilesSpec).preRow enc Tryz.prog Tryz.f12 Rows.hierCompilesRow.domain false Rows.hierCompilesRow.laid) (((OpenSpec.ofChange Rows.hierCompilesSpec).at F).post enc Tryz.prog Tryz.f12 false true false false):=by
 obtain ⟨places,hx⟩:=reads os enc;refine returnsInHanded_of_row (C:=Tryz.checked) (s:=OpenSpec.ofChange Rows.hierCompilesSpec) own started (by kernel_rfl) Tryz.func12
  (witness_row_at (enc:=enc) (C:=Tryz.checked) false (c7 os) #[.slice none 0 0] rfl (by kernel_rfl) (by kernel_rfl) (by kernel_rfl)
   (OpenSpec.preRow_of_cond 8 hx (by kernel_rfl) (fun k hk=>by cases hk) (by kernel_rfl) (fE os))) ?_
 intro W base args ds gs before hval hW _ _ _ hL _ _;exact contract H enc W base args ds gs before hval hW hL
theorem named:Tryz.pinned.checked.prog.funcNamed Rows.hierCompilesRow.func=some 12:=by kernel_rfl
theorem jU:Tryz.f12.isInstance Tryz.pinned.checked.prog Rows.hierCompilesRow.origin Rows.hierCompilesRow.targs:=of_decide_eq_true (by kernel_rfl)
theorem isWrap:Tryz.f12.isWrapper Tryz.pinned.checked.prog Rows.hierCompilesRow.wrapper Rows.hierCompilesRow.mainSum:=by unfold Func.isWrapper;first|(rw [if_pos (by decide+kernel)];kernel_rfl)|(rw [if_neg (by decide+kernel)];exact ⟨rfl,rfl⟩)
theorem jY:Rows.hierCompilesRow.wfByText (OpenSpec.ofChange Rows.hierCompilesSpec)=true:=by kernel_rfl
theorem goes:false=Rows.hierCompilesRow.goesBy Tryz.pinned.checked.prog:=by kernel_rfl
theorem said:Rows.HierCompilesSaid:=
 OpenClaim.holds_of_cond 12 Tryz.f12 rfl rfl rfl rfl rfl rfl rfl ⟨rfl,rfl,rfl,rfl,rfl⟩ rfl rfl rfl rfl rfl named Tryz.func12 closed jU isWrap
  (fun os started H enc _ F=>by rw [OpenClaim.pre_eq_preRow];exact lifted os started H enc F)
theorem plain (f:FuncId) (fn:Func) (hf:Tryz.pinned.checked.prog.funcNamed "grammarlab/grammarlablaw06.HierCompiles" =some f) (hfn:Tryz.pinned.checked.prog.funcs[f]? =some fn):
  false=Tryz.pinned.checked.prog.looks []∧∀(j:Nat) t,fn.params[j]? =some t→Tryz.pinned.checked.prog.wantsStandIn t=false:=by
 obtain rfl:f=12:=Option.some.inj ((show Tryz.prog.funcNamed "grammarlab/grammarlablaw06.HierCompiles" =some 12 by kernel_rfl).symm.trans hf)|>.symm;obtain rfl:fn=Tryz.f12:=(Option.some.inj (Tryz.func12.symm.trans hfn)).symm;refine ⟨by kernel_rfl,fun j t ht=> ?_⟩;rw [Tryz.params12] at ht;have ht':t∈(#[22]:Array TypeId):=Array.mem_of_getElem? ht;simp only [Array.mem_def,List.mem_cons,List.not_mem_nil,or_false] at ht';subst ht';exact (show Tryz.prog.wantsStandIn 22=false by kernel_rfl)
theorem card:Rows.HierCompilesCardSaid:=
 Claim7.holds_tied_plain_at .later [] _ _ _ _ said (fun _ h=>by cases h) jY (fun _ h=>by cases h) hierCompiles_row_tie rfl ⟨rfl,rfl⟩ mainIs rfl plain goes
end Go.Proofs.YtmidjldjkbljjaaGreatDoor.cl12
namespace Go.Proofs.YtmidjldjkbljjaaGreatDoor
theorem hierCompiles_card:Rows.HierCompilesCardSaid:=cl12.card
#print axioms hierCompiles_card
end Go.Proofs.YtmidjldjkbljjaaGreatDoor
