/-
  PROVED: for every input the law AppropDeclares returns true and leaves its arguments as they read; math/bits' table holds what the program's text lays.
-/
import Derived.Test.YtmidjldjkbljjaaGreatDoorClSx
import Derived.Test.YtmidjldjkbljjaaGreatDoorClW
import Derived.Test.YtmidjldjkbljjaaGreatDoorClV
set_option linter.unusedVariables false
set_option linter.unusedSimpArgs false
set_option maxRecDepth 100000
namespace Go.Proofs.YtmidjldjkbljjaaGreatDoor.cl8
open Go Go.AM Go.RowKit Go.ChangeShapes Go.WideShapes Go.ChangeAt Go.Proofs.YtmidjldjkbljjaaGreatDoor.cl
theorem contract (H:Type) (enc:TypeId×Value→H) (W:World) (base:Nat) (args:Array Value) (ds gs:List (DataW H)) (before:List MemPlace)
  (hval:∀(j:Nat) t v,Tryz.f8.params[j]? =some t→args[j]? =some v→Value.okWide Tryz.prog W .any base t v)
  (hW:DataW.Whole enc Tryz.prog Tryz.f8.params.toList Rows.appropDeclaresSpec.vars false W args.toList ds gs before) (hL:laidMetH Tryz.prog Rows.appropDeclaresRow.laid W):
  Calls Tryz.prog 8 args W fun e W'=>∃v,e= .returned v∧Rows.appropDeclaresSpec.post enc Tryz.prog Tryz.f8 false true false false W args v W':=by
 have hW':=hW;obtain ⟨p,q,hA0,hV,rfl,hfz,hnd⟩:=hW;have hA:DataW.TrodAll enc Tryz.prog W 0 (fun _=>true) true Tryz.f8.params.toList args.toList ds p:=hA0;rw [Tryz.params8] at hA hval;obtain ⟨v0,W2,d0,WL,p0,q0,hargs,rfl,rfl,h0,r0⟩:=trodAll_cons hA;obtain ⟨rfl,rfl,rfl⟩:=trodAll_nil r0;obtain rfl:args= #[v0]:=by cases args;simp_all
 obtain ⟨rfl,rfl⟩:=trodVars_none hV;obtain ⟨x0,IN⟩:=mR (hval 0 22 v0 rfl rfl) h0;have hrun:run P cl.H c9 8 [.pv (.bS 3 (x0.map af.enc))] []=some (.bool true,[]):=aI (EN Q0) (Rn 8 [.pv (.bS 3 (x0.map af.enc))] []) _ (We (d:=x0));have kX:=k9 (H:=cl.H) cl.ok (qj iA (by kernel_rfl)) iA (lD:=[.bS 3 (x0.map af.enc)]) (us:=[v0]) (qS hL) (bD IN b8) hrun;refine kX.mono fun e W' ⟨he,hb⟩=> ?_
 subst he
 exact ⟨_,rfl,mY (tb:=4) (by kernel_rfl) (by kernel_rfl) rfl rfl Tryz.underlying4 (fun ds hds=>by
  match ds,hds with
  |[a0],_=>rfl) hW' hb⟩
theorem pE:((Rows.appropDeclaresRow.inPlace==Tryz.pinned.checked.prog.inPlace 8))=true:=by kernel_rfl
theorem kT:((Rows.appropDeclaresRow.unfollowed==Tryz.pinned.checked.prog.unfollowed 8))=true:=by kernel_rfl
theorem kU:((Rows.appropDeclaresRow.recurses==Tryz.pinned.checked.prog.recurses 8))=true:=by kernel_rfl
theorem kV:((Rows.appropDeclaresRow.named==Tryz.pinned.checked.prog.varsNamed 8))=true:=by kernel_rfl
theorem closed:joinedFacts Tryz.pinned.checked.prog 8 Tryz.f8 (OpenSpec.ofChange Rows.appropDeclaresSpec).bare Rows.appropDeclaresRow=true:=by
 unfold joinedFacts;exact (band (band (band (band (band (band (band (band (band (band (band (band (band (band (band (band (band (band (band (band (band (band (band (band (band (band (band (band (band (band (band (by kernel_rfl) cl.fact1) cl.fact2) (by kernel_rfl)) (by kernel_rfl)) (by kernel_rfl)) cl.fact6) (by kernel_rfl)) cl.fact8) pE) kT) kU) kV) (by kernel_rfl)) (by kernel_rfl)) (by kernel_rfl)) (by kernel_rfl)) (by kernel_rfl)) (by kernel_rfl)) (by kernel_rfl)) (by kernel_rfl)) (by kernel_rfl)) cl.fact22) (by kernel_rfl)) cl.fact24) cl.fact25) cl.fact26) cl.fact27) (by kernel_rfl)) (by kernel_rfl)) (by kernel_rfl)) (by kernel_rfl))
theorem gr (os:Os):laidMet Tryz.prog Rows.appropDeclaresRow.laid ((dA os).forCall (fun _ _=>0) ⟨#[], #[.slice none 0 0],[]⟩).memory:=
 laidMet_of_run' 8 (by kernel_rfl) (by kernel_rfl)
theorem reads (os:Os) {H:Type} (enc:TypeId×Value→H):∃places,DataW.whole enc Tryz.prog ((dA os).forCall (fun _ _=>0) ⟨#[], #[.slice none 0 0],[]⟩).memory Tryz.f8.params.toList Rows.appropDeclaresSpec.vars false (#[.slice none 0 0]:Array Value).toList 8=some ([.nil],[],places):=
 ⟨[],by kernel_rfl⟩
theorem lifted (os:Os) (started:os.Started) (H:Type) (enc:TypeId×Value→H) (F:Stop.Interp):
  ReturnsInHanded {} Tryz.checked os 8 .any ((OpenSpec.ofChange Rows.appropDeclaresSpec).preRow enc Tryz.prog Tryz.f8 Rows.appropDeclaresRow.domain false Rows.appropDeclaresRow.laid) (((OpenSpec.ofChange Rows.appropDeclaresSpec).at F).post enc Tryz.prog Tryz.f8 false true false false):=by
 obtain ⟨places,hx⟩:=reads os enc;refine returnsInHanded_of_row (C:=Tryz.checked) (s:=OpenSpec.ofChange Rows.appropDeclaresSpec) own started (by kernel_rfl) Tryz.func8
  (witness_row_at (enc:=enc) (C:=Tryz.checked) false (dA os) #[.slice none 0 0] rfl (by kernel_rfl) (by kernel_rfl) (by kernel_rfl)
   (OpenSpec.preRow_of_cond 8 hx (by kernel_rfl) (fun k hk=>by cases hk) (by kernel_rfl) (gr os))) ?_
 intro W base args ds gs before hval hW _ _ _ hL _ _;exact contract H enc W base args ds gs before hval hW hL
theorem named:Tryz.pinned.checked.prog.funcNamed Rows.appropDeclaresRow.func=some 8:=by kernel_rfl
theorem kY:Tryz.f8.isInstance Tryz.pinned.checked.prog Rows.appropDeclaresRow.origin Rows.appropDeclaresRow.targs:=of_decide_eq_true (by kernel_rfl)
theorem isWrap:Tryz.f8.isWrapper Tryz.pinned.checked.prog Rows.appropDeclaresRow.wrapper Rows.appropDeclaresRow.mainSum:=by unfold Func.isWrapper;first|(rw [if_pos (by decide+kernel)];kernel_rfl)|(rw [if_neg (by decide+kernel)];exact ⟨rfl,rfl⟩)
theorem lu:Rows.appropDeclaresRow.wfByText (OpenSpec.ofChange Rows.appropDeclaresSpec)=true:=by kernel_rfl
theorem goes:false=Rows.appropDeclaresRow.goesBy Tryz.pinned.checked.prog:=by kernel_rfl
theorem said:Rows.AppropDeclaresSaid:=
 OpenClaim.holds_of_cond 8 Tryz.f8 rfl rfl rfl rfl rfl rfl rfl ⟨rfl,rfl,rfl,rfl,rfl⟩ rfl rfl rfl rfl rfl named Tryz.func8 closed kY isWrap
  (fun os started H enc _ F=>by rw [OpenClaim.pre_eq_preRow];exact lifted os started H enc F)
theorem plain (f:FuncId) (fn:Func) (hf:Tryz.pinned.checked.prog.funcNamed "grammarlab/grammarlablaw05.AppropDeclares" =some f) (hfn:Tryz.pinned.checked.prog.funcs[f]? =some fn):
  false=Tryz.pinned.checked.prog.looks []∧∀(j:Nat) t,fn.params[j]? =some t→Tryz.pinned.checked.prog.wantsStandIn t=false:=by
 obtain rfl:f=8:=Option.some.inj ((show Tryz.prog.funcNamed "grammarlab/grammarlablaw05.AppropDeclares" =some 8 by kernel_rfl).symm.trans hf)|>.symm;obtain rfl:fn=Tryz.f8:=(Option.some.inj (Tryz.func8.symm.trans hfn)).symm;refine ⟨by kernel_rfl,fun j t ht=> ?_⟩;rw [Tryz.params8] at ht;have ht':t∈(#[22]:Array TypeId):=Array.mem_of_getElem? ht;simp only [Array.mem_def,List.mem_cons,List.not_mem_nil,or_false] at ht';subst ht';exact (show Tryz.prog.wantsStandIn 22=false by kernel_rfl)
theorem card:Rows.AppropDeclaresCardSaid:=
 Claim7.holds_tied_plain_at .later [] _ _ _ _ said (fun _ h=>by cases h) lu (fun _ h=>by cases h) appropDeclares_row_tie rfl ⟨rfl,rfl⟩ mainIs rfl plain goes
end Go.Proofs.YtmidjldjkbljjaaGreatDoor.cl8
namespace Go.Proofs.YtmidjldjkbljjaaGreatDoor
theorem appropDeclares_card:Rows.AppropDeclaresCardSaid:=cl8.card
#print axioms appropDeclares_card
end Go.Proofs.YtmidjldjkbljjaaGreatDoor
