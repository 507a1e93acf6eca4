/-
  PROVED: for every input the law AppropInherits returns true and leaves its arguments as they read; math/bits' table holds what the program's text lays.
-/
import Derived.Test.YtmidjldjkbljjaaGreatDoorClSx
import Derived.Test.YtmidjldjkbljjaaGreatDoorClW
import Derived.Test.YtmidjldjkbljjaaGreatDoorClV
set_option linter.unusedVariables false
set_option linter.unusedSimpArgs false
set_option maxRecDepth 100000
namespace Go.Proofs.YtmidjldjkbljjaaGreatDoor.cl7
open Go Go.AM Go.RowKit Go.ChangeShapes Go.WideShapes Go.ChangeAt Go.Proofs.YtmidjldjkbljjaaGreatDoor.cl
theorem contract (H:Type) (enc:TypeId×Value→H) (W:World) (base:Nat) (args:Array Value) (ds gs:List (DataW H)) (before:List MemPlace)
  (hval:∀(j:Nat) t v,Tryz.f7.params[j]? =some t→args[j]? =some v→Value.okWide Tryz.prog W .any base t v)
  (hW:DataW.Whole enc Tryz.prog Tryz.f7.params.toList Rows.appropInheritsSpec.vars false W args.toList ds gs before) (hL:laidMetH Tryz.prog Rows.appropInheritsRow.laid W):
  Calls Tryz.prog 7 args W fun e W'=>∃v,e= .returned v∧Rows.appropInheritsSpec.post enc Tryz.prog Tryz.f7 false true false false W args v W':=by
 have hW':=hW;obtain ⟨p,q,hA0,hV,rfl,hfz,hnd⟩:=hW;have hA:DataW.TrodAll enc Tryz.prog W 0 (fun _=>true) true Tryz.f7.params.toList args.toList ds p:=hA0;rw [Tryz.params7] at hA hval;obtain ⟨v0,W2,d0,WL,p0,q0,hargs,rfl,rfl,h0,r0⟩:=trodAll_cons hA;obtain ⟨rfl,rfl,rfl⟩:=trodAll_nil r0;obtain rfl:args= #[v0]:=by cases args;simp_all
 obtain ⟨rfl,rfl⟩:=trodVars_none hV;obtain ⟨x0,IN⟩:=mR (hval 0 22 v0 rfl rfl) h0;have hrun:run P cl.H c9 7 [.pv (.bS 3 (x0.map af.enc))] []=some (.bool true,[]):=aI (EN Q0) (Rn 7 [.pv (.bS 3 (x0.map af.enc))] []) _ (Wd (d:=x0));have kX:=k9 (H:=cl.H) cl.ok (qj iA (by kernel_rfl)) iA (lD:=[.bS 3 (x0.map af.enc)]) (us:=[v0]) (qS hL) (bD IN b8) hrun;refine kX.mono fun e W' ⟨he,hb⟩=> ?_
 subst he
 exact ⟨_,rfl,mY (tb:=4) (by kernel_rfl) (by kernel_rfl) rfl rfl Tryz.underlying4 (fun ds hds=>by
  match ds,hds with
  |[a0],_=>rfl) hW' hb⟩
theorem pE:((Rows.appropInheritsRow.inPlace==Tryz.pinned.checked.prog.inPlace 7))=true:=by kernel_rfl
theorem kT:((Rows.appropInheritsRow.unfollowed==Tryz.pinned.checked.prog.unfollowed 7))=true:=by kernel_rfl
theorem kU:((Rows.appropInheritsRow.recurses==Tryz.pinned.checked.prog.recurses 7))=true:=by kernel_rfl
theorem kV:((Rows.appropInheritsRow.named==Tryz.pinned.checked.prog.varsNamed 7))=true:=by kernel_rfl
theorem closed:joinedFacts Tryz.pinned.checked.prog 7 Tryz.f7 (OpenSpec.ofChange Rows.appropInheritsSpec).bare Rows.appropInheritsRow=true:=by
 unfold joinedFacts;exact (band (band (band (band (band (band (band (band (band (band (band (band (band (band (band (band (band (band (band (band (band (band (band (band (band (band (band (band (band (band (band (by kernel_rfl) cl.fact1) cl.fact2) (by kernel_rfl)) (by kernel_rfl)) (by kernel_rfl)) cl.fact6) (by kernel_rfl)) cl.fact8) pE) kT) kU) kV) (by kernel_rfl)) (by kernel_rfl)) (by kernel_rfl)) (by kernel_rfl)) (by kernel_rfl)) (by kernel_rfl)) (by kernel_rfl)) (by kernel_rfl)) (by kernel_rfl)) cl.fact22) (by kernel_rfl)) cl.fact24) cl.fact25) cl.fact26) cl.fact27) (by kernel_rfl)) (by kernel_rfl)) (by kernel_rfl)) (by kernel_rfl))
theorem gr (os:Os):laidMet Tryz.prog Rows.appropInheritsRow.laid ((dA os).forCall (fun _ _=>0) ⟨#[], #[.slice none 0 0],[]⟩).memory:=
 laidMet_of_run' 8 (by kernel_rfl) (by kernel_rfl)
theorem reads (os:Os) {H:Type} (enc:TypeId×Value→H):∃places,DataW.whole enc Tryz.prog ((dA os).forCall (fun _ _=>0) ⟨#[], #[.slice none 0 0],[]⟩).memory Tryz.f7.params.toList Rows.appropInheritsSpec.vars false (#[.slice none 0 0]:Array Value).toList 8=some ([.nil],[],places):=
 ⟨[],by kernel_rfl⟩
theorem lifted (os:Os) (started:os.Started) (H:Type) (enc:TypeId×Value→H) (F:Stop.Interp):
  ReturnsInHanded {} Tryz.checked os 7 .any ((OpenSpec.ofChange Rows.appropInheritsSpec).preRow enc Tryz.prog Tryz.f7 Rows.appropInheritsRow.domain false Rows.appropInheritsRow.laid) (((OpenSpec.ofChange Rows.appropInheritsSpec).at F).post enc Tryz.prog Tryz.f7 false true false false):=by
 obtain ⟨places,hx⟩:=reads os enc;refine returnsInHanded_of_row (C:=Tryz.checked) (s:=OpenSpec.ofChange Rows.appropInheritsSpec) own started (by kernel_rfl) Tryz.func7
  (witness_row_at (enc:=enc) (C:=Tryz.checked) false (dA os) #[.slice none 0 0] rfl (by kernel_rfl) (by kernel_rfl) (by kernel_rfl)
   (OpenSpec.preRow_of_cond 8 hx (by kernel_rfl) (fun k hk=>by cases hk) (by kernel_rfl) (gr os))) ?_
 intro W base args ds gs before hval hW _ _ _ hL _ _;exact contract H enc W base args ds gs before hval hW hL
theorem named:Tryz.pinned.checked.prog.funcNamed Rows.appropInheritsRow.func=some 7:=by kernel_rfl
theorem kY:Tryz.f7.isInstance Tryz.pinned.checked.prog Rows.appropInheritsRow.origin Rows.appropInheritsRow.targs:=of_decide_eq_true (by kernel_rfl)
theorem isWrap:Tryz.f7.isWrapper Tryz.pinned.checked.prog Rows.appropInheritsRow.wrapper Rows.appropInheritsRow.mainSum:=by unfold Func.isWrapper;first|(rw [if_pos (by decide+kernel)];kernel_rfl)|(rw [if_neg (by decide+kernel)];exact ⟨rfl,rfl⟩)
theorem lu:Rows.appropInheritsRow.wfByText (OpenSpec.ofChange Rows.appropInheritsSpec)=true:=by kernel_rfl
theorem goes:false=Rows.appropInheritsRow.goesBy Tryz.pinned.checked.prog:=by kernel_rfl
theorem said:Rows.AppropInheritsSaid:=
 OpenClaim.holds_of_cond 7 Tryz.f7 rfl rfl rfl rfl rfl rfl rfl ⟨rfl,rfl,rfl,rfl,rfl⟩ rfl rfl rfl rfl rfl named Tryz.func7 closed kY isWrap
  (fun os started H enc _ F=>by rw [OpenClaim.pre_eq_preRow];exact lifted os started H enc F)
theorem plain (f:FuncId) (fn:Func) (hf:Tryz.pinned.checked.prog.funcNamed "grammarlab/grammarlablaw05.AppropInherits" =some f) (hfn:Tryz.pinned.checked.prog.funcs[f]? =some fn):
  false=Tryz.pinned.checked.prog.looks []∧∀(j:Nat) t,fn.params[j]? =some t→Tryz.pinned.checked.prog.wantsStandIn t=false:=by
 obtain rfl:f=7:=Option.some.inj ((show Tryz.prog.funcNamed "grammarlab/grammarlablaw05.AppropInherits" =some 7 by kernel_rfl).symm.trans hf)|>.symm;obtain rfl:fn=Tryz.f7:=(Option.some.inj (Tryz.func7.symm.trans hfn)).symm;refine ⟨by kernel_rfl,fun j t ht=> ?_⟩;rw [Tryz.params7] at ht;have ht':t∈(#[22]:Array TypeId):=Array.mem_of_getElem? ht;simp only [Array.mem_def,List.mem_cons,List.not_mem_nil,or_false] at ht';subst ht';exact (show Tryz.prog.wantsStandIn 22=false by kernel_rfl)
theorem card:Rows.AppropInheritsCardSaid:=
 Claim7.holds_tied_plain_at .later [] _ _ _ _ said (fun _ h=>by cases h) lu (fun _ h=>by cases h) appropInherits_row_tie rfl ⟨rfl,rfl⟩ mainIs rfl plain goes
end Go.Proofs.YtmidjldjkbljjaaGreatDoor.cl7
namespace Go.Proofs.YtmidjldjkbljjaaGreatDoor
theorem appropInherits_card:Rows.AppropInheritsCardSaid:=cl7.card
#print axioms appropInherits_card
end Go.Proofs.YtmidjldjkbljjaaGreatDoor
