/-
  PROVED: for every input the law AppropLimits returns true and leaves its arguments as they read; math/bits' table holds what the program's text lays.
-/
import Derived.Test.YtfoddgpndoeeaaaGreatDoorClLa
import Derived.Test.YtfoddgpndoeeaaaGreatDoorClW
import Derived.Test.YtfoddgpndoeeaaaGreatDoorClV
set_option linter.unusedVariables false
set_option linter.unusedSimpArgs false
set_option maxRecDepth 100000
namespace Go.Proofs.YtfoddgpndoeeaaaGreatDoor.cl4
open Go Go.AM Go.RowKit Go.ChangeShapes Go.WideShapes Go.ChangeAt Go.Proofs.YtfoddgpndoeeaaaGreatDoor.cl
theorem contract (H:Type) (enc:TypeId×Value→H) (W:World) (base:Nat) (args:Array Value) (ds gs:List (DataW H)) (before:List MemPlace)
  (hval:∀(j:Nat) t v,Tryz.f4.params[j]? =some t→args[j]? =some v→Value.okWide Tryz.prog W .any base t v)
  (hW:DataW.Whole enc Tryz.prog Tryz.f4.params.toList Rows.appropLimitsSpec.vars false W args.toList ds gs before) (hL:laidMetH Tryz.prog Rows.appropLimitsRow.laid W):
  Calls Tryz.prog 4 args W fun e W'=>∃v,e= .returned v∧Rows.appropLimitsSpec.post enc Tryz.prog Tryz.f4 false true false false W args v W':=by
 have hW':=hW;obtain ⟨p,q,hA0,hV,rfl,hfz,hnd⟩:=hW;have hA:DataW.TrodAll enc Tryz.prog W 0 (fun _=>true) true Tryz.f4.params.toList args.toList ds p:=hA0;rw [Tryz.params4] at hA hval;obtain ⟨v0,vs0,d0,ds0,p0,q0,hargs,rfl,rfl,h0,r0⟩:=trodAll_cons hA;obtain ⟨rfl,rfl,rfl⟩:=trodAll_nil r0;obtain rfl:args= #[v0]:=by cases args;simp_all
 obtain ⟨rfl,rfl⟩:=trodVars_none hV;obtain ⟨x0,Uc⟩:=Ms (hval 0 4 v0 rfl rfl) h0;have hrun:run P cl.H dg 4 [.pv (.bool x0)] []=some (.bool true,[]):=aP (EN Q1) (Rn 4 [.pv (.bool x0)] []) _ (Ty (s:=x0));have SN:=Lr (H:=cl.H) cl.ok (PN Kx (by kernel_rfl)) Kx (EH:=[.bool x0]) (us:=[v0]) (QV hL) (bA Uc cu) hrun;refine SN.mono fun e W' ⟨he,hb⟩=> ?_
 subst he
 exact ⟨_,rfl,LP (tb:=4) (by kernel_rfl) (by kernel_rfl) rfl rfl Tryz.underlying4 (fun ds hds=>by
  match ds,hds with
  |[a0],_=>rfl) hW' hb⟩
theorem UO:((Rows.appropLimitsRow.inPlace==Tryz.pinned.checked.prog.inPlace 4))=true:=by kernel_rfl
theorem SD:((Rows.appropLimitsRow.unfollowed==Tryz.pinned.checked.prog.unfollowed 4))=true:=by kernel_rfl
theorem SE:((Rows.appropLimitsRow.recurses==Tryz.pinned.checked.prog.recurses 4))=true:=by kernel_rfl
theorem SF:((Rows.appropLimitsRow.named==Tryz.pinned.checked.prog.varsNamed 4))=true:=by kernel_rfl
theorem closed:joinedFacts Tryz.pinned.checked.prog 4 Tryz.f4 (OpenSpec.ofChange Rows.appropLimitsSpec).bare Rows.appropLimitsRow=true:=by
 unfold joinedFacts;exact (band (band (band (band (band (band (band (band (band (band (band (band (band (band (band (band (band (band (band (band (band (band (band (band (band (band (band (band (band (band (band (by kernel_rfl) cl.fact1) cl.fact2) (by kernel_rfl)) (by kernel_rfl)) (by kernel_rfl)) cl.fact6) (by kernel_rfl)) cl.fact8) UO) SD) SE) SF) (by kernel_rfl)) (by kernel_rfl)) (by kernel_rfl)) (by kernel_rfl)) (by kernel_rfl)) (by kernel_rfl)) (by kernel_rfl)) (by kernel_rfl)) (by kernel_rfl)) cl.fact22) (by kernel_rfl)) cl.fact24) cl.fact25) cl.fact26) cl.fact27) (by kernel_rfl)) (by kernel_rfl)) (by kernel_rfl)) (by kernel_rfl))
theorem Ox (os:Os):laidMet Tryz.prog Rows.appropLimitsRow.laid ((vK os).forCall (fun _ _=>0) ⟨#[], #[.bool false],[]⟩).memory:=
 laidMet_of_run' 8 (by kernel_rfl) (by kernel_rfl)
theorem reads (os:Os) {H:Type} (enc:TypeId×Value→H):∃places,DataW.whole enc Tryz.prog ((vK os).forCall (fun _ _=>0) ⟨#[], #[.bool false],[]⟩).memory Tryz.f4.params.toList Rows.appropLimitsSpec.vars false (#[.bool false]:Array Value).toList 8=some ([.lit (.bool false)],[],places):=
 ⟨[],by kernel_rfl⟩
theorem lifted (os:Os) (started:os.Started) (H:Type) (enc:TypeId×Value→H) (F:Stop.Interp):
  ReturnsInHanded {} Tryz.checked os 4 .any ((OpenSpec.ofChange Rows.appropLimitsSpec).preRow enc Tryz.prog Tryz.f4 Rows.appropLimitsRow.domain false Rows.appropLimitsRow.laid) (((OpenSpec.ofChange Rows.appropLimitsSpec).at F).post enc Tryz.prog Tryz.f4 false true false false):=by
 obtain ⟨places,hx⟩:=reads os enc;refine returnsInHanded_of_row (C:=Tryz.checked) (s:=OpenSpec.ofChange Rows.appropLimitsSpec) own started (by kernel_rfl) Tryz.func4
  (witness_row_at (enc:=enc) (C:=Tryz.checked) false (vK os) #[.bool false] rfl (by kernel_rfl) (by kernel_rfl) (by kernel_rfl)
   (OpenSpec.preRow_of_cond 8 hx (by kernel_rfl) (fun k hk=>by cases hk) (by kernel_rfl) (Ox os))) ?_
 intro W base args ds gs before hval hW _ _ _ hL _ _;exact contract H enc W base args ds gs before hval hW hL
theorem named:Tryz.pinned.checked.prog.funcNamed Rows.appropLimitsRow.func=some 4:=by kernel_rfl
theorem Tn:Tryz.f4.isInstance Tryz.pinned.checked.prog Rows.appropLimitsRow.origin Rows.appropLimitsRow.targs:=of_decide_eq_true (by kernel_rfl)
theorem isWrap:Tryz.f4.isWrapper Tryz.pinned.checked.prog Rows.appropLimitsRow.wrapper Rows.appropLimitsRow.mainSum:=by unfold Func.isWrapper;first|(rw [if_pos (by decide+kernel)];kernel_rfl)|(rw [if_neg (by decide+kernel)];exact ⟨rfl,rfl⟩)
theorem T6:Rows.appropLimitsRow.wfByText (OpenSpec.ofChange Rows.appropLimitsSpec)=true:=by kernel_rfl
theorem goes:false=Rows.appropLimitsRow.goesBy Tryz.pinned.checked.prog:=by kernel_rfl
theorem said:Rows.AppropLimitsSaid:=
 OpenClaim.holds_of_cond 4 Tryz.f4 rfl rfl rfl rfl rfl rfl rfl ⟨rfl,rfl,rfl,rfl,rfl⟩ rfl rfl rfl rfl rfl named Tryz.func4 closed Tn isWrap
  (fun os started H enc _ F=>by rw [OpenClaim.pre_eq_preRow];exact lifted os started H enc F)
theorem plain (f:FuncId) (fn:Func) (hf:Tryz.pinned.checked.prog.funcNamed "grammarlab/grammarlablaw05.AppropLimits" =some f) (hfn:Tryz.pinned.checked.prog.funcs[f]? =some fn):
  false=Tryz.pinned.checked.prog.looks []∧∀(j:Nat) t,fn.params[j]? =some t→Tryz.pinned.checked.prog.wantsStandIn t=false:=by
 obtain rfl:f=4:=Option.some.inj ((show Tryz.prog.funcNamed "grammarlab/grammarlablaw05.AppropLimits" =some 4 by kernel_rfl).symm.trans hf)|>.symm;obtain rfl:fn=Tryz.f4:=(Option.some.inj (Tryz.func4.symm.trans hfn)).symm;refine ⟨by kernel_rfl,fun j t ht=> ?_⟩;rw [Tryz.params4] at ht;have ht':t∈(#[4]:Array TypeId):=Array.mem_of_getElem? ht;simp only [Array.mem_def,List.mem_cons,List.not_mem_nil,or_false] at ht';subst ht';exact (show Tryz.prog.wantsStandIn 4=false by kernel_rfl)
theorem card:Rows.AppropLimitsCardSaid:=
 Claim7.holds_tied_plain_at .later [] _ _ _ _ said (fun _ h=>by cases h) T6 (fun _ h=>by cases h) appropLimits_row_tie rfl ⟨rfl,rfl⟩ mainIs rfl plain goes
end Go.Proofs.YtfoddgpndoeeaaaGreatDoor.cl4
namespace Go.Proofs.YtfoddgpndoeeaaaGreatDoor
theorem appropLimits_card:Rows.AppropLimitsCardSaid:=cl4.card
#print axioms appropLimits_card
end Go.Proofs.YtfoddgpndoeeaaaGreatDoor
