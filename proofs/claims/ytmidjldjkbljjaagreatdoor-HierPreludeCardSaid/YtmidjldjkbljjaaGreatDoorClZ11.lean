/-
  PROVED: for every input the law HierPrelude returns true and leaves its arguments as they read; math/bits' table holds what the program's text lays.
-/
import Derived.Test.YtmidjldjkbljjaaGreatDoorClSy
import Derived.Test.YtmidjldjkbljjaaGreatDoorClW
import Derived.Test.YtmidjldjkbljjaaGreatDoorClV
set_option linter.unusedVariables false
set_option linter.unusedSimpArgs false
set_option maxRecDepth 100000
namespace Go.Proofs.YtmidjldjkbljjaaGreatDoor.cl11
open Go Go.AM Go.RowKit Go.ChangeShapes Go.WideShapes Go.ChangeAt Go.Proofs.YtmidjldjkbljjaaGreatDoor.cl
theorem contract (H:Type) (enc:TypeId×Value→H) (W:World) (base:Nat) (args:Array Value) (ds gs:List (DataW H)) (before:List MemPlace)
  (hval:∀(j:Nat) t v,Tryz.f11.params[j]? =some t→args[j]? =some v→Value.okWide Tryz.prog W .any base t v)
  (hW:DataW.Whole enc Tryz.prog Tryz.f11.params.toList Rows.hierPreludeSpec.vars false W args.toList ds gs before) (hL:laidMetH Tryz.prog Rows.hierPreludeRow.laid W):
  Calls Tryz.prog 11 args W fun e W'=>∃v,e= .returned v∧Rows.hierPreludeSpec.post enc Tryz.prog Tryz.f11 false true false false W args v W':=by
 have KC:=hW;obtain ⟨p,q,KB,hV,rfl,hfz,kq⟩:=hW;have hA:DataW.TrodAll enc Tryz.prog W 0 (fun _=>true) true Tryz.f11.params.toList args.toList ds p:=KB;rw [Tryz.params11] at hA hval;obtain ⟨v0,YD,d0,W3,p0,q0,hargs,rfl,rfl,h0,r0⟩:=trodAll_cons hA;obtain ⟨v1,Pw,d1,YI,p1,q1,rfl,rfl,rfl,h1,r1⟩:=trodAll_cons r0;obtain ⟨rfl,rfl,rfl⟩:=trodAll_nil r1;obtain rfl:args= #[v0,v1]:=by cases args;simp_all
 obtain ⟨rfl,rfl⟩:=trodVars_none hV;obtain ⟨x0,G4⟩:=P0 (hval 0 49 v0 rfl rfl) h0;obtain ⟨x1,Ij,hx1,hy1⟩:=qO (hval 1 5 v1 rfl rfl) h1;have hrun:run P cl.H dg 11 [.pv (.cm 1 (x0.map aA)), .pv (.int .u8 x1)] []=some (.bool true,[]):=aH (EN Q0) (Rn 11 [.pv (.cm 1 (x0.map aA)), .pv (.int .u8 x1)] []) _ (X4 (names:=x0) (super:=x1) hx1 hy1);have jS:=jZ (H:=cl.H) cl.ok (oG gm (by kernel_rfl)) gm (lu:=[.cm 1 (x0.map aA), .int .u8 x1]) (us:=[v0,v1]) (pE hL) (bq G4 (bq Ij bZ)) hrun;refine jS.mono fun e W' ⟨he,hb⟩=> ?_
 subst he
 exact ⟨_,rfl,lE (tb:=4) (by kernel_rfl) (by kernel_rfl) rfl rfl Tryz.underlying4 (fun ds hds=>by
  match ds,hds with
  |[a0,a1],_=>rfl) KC hb⟩
theorem nM:((Rows.hierPreludeRow.inPlace==Tryz.pinned.checked.prog.inPlace 11))=true:=by kernel_rfl
theorem jP:((Rows.hierPreludeRow.unfollowed==Tryz.pinned.checked.prog.unfollowed 11))=true:=by kernel_rfl
theorem jQ:((Rows.hierPreludeRow.recurses==Tryz.pinned.checked.prog.recurses 11))=true:=by kernel_rfl
theorem jR:((Rows.hierPreludeRow.named==Tryz.pinned.checked.prog.varsNamed 11))=true:=by kernel_rfl
theorem closed:joinedFacts Tryz.pinned.checked.prog 11 Tryz.f11 (OpenSpec.ofChange Rows.hierPreludeSpec).bare Rows.hierPreludeRow=true:=by
 unfold joinedFacts;exact (band (band (band (band (band (band (band (band (band (band (band (band (band (band (band (band (band (band (band (band (band (band (band (band (band (band (band (band (band (band (band (by kernel_rfl) cl.fact1) cl.fact2) (by kernel_rfl)) (by kernel_rfl)) (by kernel_rfl)) cl.fact6) (by kernel_rfl)) cl.fact8) nM) jP) jQ) jR) (by kernel_rfl)) (by kernel_rfl)) (by kernel_rfl)) (by kernel_rfl)) (by kernel_rfl)) (by kernel_rfl)) (by kernel_rfl)) (by kernel_rfl)) (by kernel_rfl)) cl.fact22) (by kernel_rfl)) cl.fact24) cl.fact25) cl.fact26) cl.fact27) (by kernel_rfl)) (by kernel_rfl)) (by kernel_rfl)) (by kernel_rfl))
theorem fE (os:Os):laidMet Tryz.prog Rows.hierPreludeRow.laid ((c7 os).forCall (fun _ _=>0) ⟨#[], #[.slice none 0 0, .int .u8 0],[]⟩).memory:=
 laidMet_of_run' 8 (by kernel_rfl) (by kernel_rfl)
theorem reads (os:Os) {H:Type} (enc:TypeId×Value→H):∃places,DataW.whole enc Tryz.prog ((c7 os).forCall (fun _ _=>0) ⟨#[], #[.slice none 0 0, .int .u8 0],[]⟩).memory Tryz.f11.params.toList Rows.hierPreludeSpec.vars false (#[.slice none 0 0, .int .u8 0]:Array Value).toList 8=some ([.nil, .lit (.int .u8 0)],[],places):=
 ⟨[],by kernel_rfl⟩
theorem lifted (os:Os) (started:os.Started) (H:Type) (enc:TypeId×Value→H) (F:Stop.Interp):
  ReturnsInHanded {} Tryz.checked os 11 .any ((OpenSpec.ofChange Rows.hierPreludeSpec).preRow enc Tryz.prog Tryz.f11 Rows.hierPreludeRow.domain false Rows.hierPreludeRow.laid) (((OpenSpec.ofChange Rows.hierPreludeSpec).at F).post enc Tryz.prog Tryz.f11 false true false false):=by
 obtain ⟨places,hx⟩:=reads os enc;refine returnsInHanded_of_row (C:=Tryz.checked) (s:=OpenSpec.ofChange Rows.hierPreludeSpec) own started (by kernel_rfl) Tryz.func11
  (witness_row_at (enc:=enc) (C:=Tryz.checked) false (c7 os) #[.slice none 0 0, .int .u8 0] rfl (by kernel_rfl) (by kernel_rfl) (by kernel_rfl)
   (OpenSpec.preRow_of_cond 8 hx (by kernel_rfl) (fun k hk=>by cases hk) (by kernel_rfl) (fE os))) ?_
 intro W base args ds gs before hval hW _ _ _ hL _ _;exact contract H enc W base args ds gs before hval hW hL
theorem named:Tryz.pinned.checked.prog.funcNamed Rows.hierPreludeRow.func=some 11:=by kernel_rfl
theorem jU:Tryz.f11.isInstance Tryz.pinned.checked.prog Rows.hierPreludeRow.origin Rows.hierPreludeRow.targs:=of_decide_eq_true (by kernel_rfl)
theorem isWrap:Tryz.f11.isWrapper Tryz.pinned.checked.prog Rows.hierPreludeRow.wrapper Rows.hierPreludeRow.mainSum:=by unfold Func.isWrapper;first|(rw [if_pos (by decide+kernel)];kernel_rfl)|(rw [if_neg (by decide+kernel)];exact ⟨rfl,rfl⟩)
theorem jY:Rows.hierPreludeRow.wfByText (OpenSpec.ofChange Rows.hierPreludeSpec)=true:=by kernel_rfl
theorem goes:false=Rows.hierPreludeRow.goesBy Tryz.pinned.checked.prog:=by kernel_rfl
theorem said:Rows.HierPreludeSaid:=
 OpenClaim.holds_of_cond 11 Tryz.f11 rfl rfl rfl rfl rfl rfl rfl ⟨rfl,rfl,rfl,rfl,rfl⟩ rfl rfl rfl rfl rfl named Tryz.func11 closed jU isWrap
  (fun os started H enc _ F=>by rw [OpenClaim.pre_eq_preRow];exact lifted os started H enc F)
theorem plain (f:FuncId) (fn:Func) (hf:Tryz.pinned.checked.prog.funcNamed "grammarlab/grammarlablaw06.HierPrelude" =some f) (hfn:Tryz.pinned.checked.prog.funcs[f]? =some fn):
  false=Tryz.pinned.checked.prog.looks []∧∀(j:Nat) t,fn.params[j]? =some t→Tryz.pinned.checked.prog.wantsStandIn t=false:=by
 obtain rfl:f=11:=Option.some.inj ((show Tryz.prog.funcNamed "grammarlab/grammarlablaw06.HierPrelude" =some 11 by kernel_rfl).symm.trans hf)|>.symm;obtain rfl:fn=Tryz.f11:=(Option.some.inj (Tryz.func11.symm.trans hfn)).symm;refine ⟨by kernel_rfl,fun j t ht=> ?_⟩;rw [Tryz.params11] at ht;have ht':t∈(#[49,5]:Array TypeId):=Array.mem_of_getElem? ht;simp only [Array.mem_def,List.mem_cons,List.not_mem_nil,or_false] at ht';rcases ht' with rfl|rfl
 ·exact (show Tryz.prog.wantsStandIn 49=false by kernel_rfl)
 ·exact (show Tryz.prog.wantsStandIn 5=false by kernel_rfl)
theorem card:Rows.HierPreludeCardSaid:=
 Claim7.holds_tied_plain_at .later [] _ _ _ _ said (fun _ h=>by cases h) jY (fun _ h=>by cases h) hierPrelude_row_tie rfl ⟨rfl,rfl⟩ mainIs rfl plain goes
end Go.Proofs.YtmidjldjkbljjaaGreatDoor.cl11
namespace Go.Proofs.YtmidjldjkbljjaaGreatDoor
theorem hierPrelude_card:Rows.HierPreludeCardSaid:=cl11.card
#print axioms hierPrelude_card
end Go.Proofs.YtmidjldjkbljjaaGreatDoor
