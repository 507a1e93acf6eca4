/-
  PROVED: for every input of bulk at most 1048576 the law PreferWhole returns true and leaves its arguments as they read; math/bits' table holds what the program's text lays.
-/
import Derived.Test.YthppjmoncapdfaaGreatDoorClQb
import Derived.Test.YthppjmoncapdfaaGreatDoorClW
import Derived.Test.YthppjmoncapdfaaGreatDoorClV
set_option maxRecDepth 100000
set_option linter.all false
namespace Go.Proofs.YthppjmoncapdfaaGreatDoor.cl7
open Go Go.AM Go.RowKit Go.ChangeShapes Go.WideShapes Go.ChangeAt Go.Proofs.YthppjmoncapdfaaGreatDoor.cl
theorem contract (H:Type) (enc:TypeId×Value→H) (W:World) (base:Nat) (args:Array Value) (ds gs:List (DataW H)) (before:List MemPlace)
  (hk:Rows.uptoSmall H (ds++gs)=true) (hval:∀(j:Nat) t v,Tryz.f7.params[j]? =some t→args[j]? =some v→Value.okWide Tryz.prog W .any base t v)
  (hW:DataW.Whole enc Tryz.prog Tryz.f7.params.toList Rows.preferWholeSpec.vars false W args.toList ds gs before) (hL:laidMetH Tryz.prog Rows.preferWholeUptoRow.laid W):
  Calls Tryz.prog 7 args W fun e W'=>∃v,e= .returned v∧Rows.preferWholeSpec.post enc Tryz.prog Tryz.f7 false true false false W args v W':=by
 have hW':=hW;obtain ⟨p,q,hA0,hV,rfl,hfz,hnd⟩:=hW;have hA:DataW.TrodAll enc Tryz.prog W 0 (fun _=>true) true Tryz.f7.params.toList args.toList ds p:=hA0;rw [Tryz.params7] at hA hval;obtain ⟨v0,vs0,d0,ds0,p0,q0,hargs,rfl,rfl,h0,r0⟩:=trodAll_cons hA;obtain ⟨v1,vs1,d1,ds1,p1,q1,rfl,rfl,rfl,h1,r1⟩:=trodAll_cons r0;obtain ⟨rfl,rfl,rfl⟩:=trodAll_nil r1;obtain rfl:args= #[v0,v1]:=by cases args;simp_all
 obtain ⟨rfl,rfl⟩:=trodVars_none hV;obtain ⟨x0,hr0,hb⟩:=Xa (hval 0 30 v0 rfl rfl) h0;obtain ⟨_,⟨x1,rfl⟩,hr1,_,_⟩:=arg_agg Tryz.underlying24 (hval 1 24 v1 rfl rfl) h1 rd24;have hsum:Rows.uptoBulkAll ([d0,d1]++[])≤1048576:=lM hk;simp only [ff,dU,Rows.uptoBulkAll] at hsum;obtain ⟨z,hf⟩:=sz_of (d:=x0) (by omega);have hrun:run P cl.H fk 7 [.pv (.eH 3 (x0.map aq.enc)), .pv (.agg (FSt.enc x1))] []=some (.bool true,[]):=lS (EN Q0) (Rn 7 [.pv (.eH 3 (x0.map aq.enc)), .pv (.agg (FSt.enc x1))] []) _ (pf.law396 z hf x1);have hcalls:=X1 (H:=cl.H) cl.ok (blk_all Wp (by kernel_rfl)) Wp (r7:=[.eH 3 (x0.map aq.enc), .agg (FSt.enc x1)]) (us:=[v0,v1]) (tabB_le hL) (bY hr0 (bY hr1 ef)) hrun;refine hcalls.mono fun e W' ⟨he,hb⟩=> ?_
 subst he
 exact ⟨_,rfl,Yj (tb:=4) (by kernel_rfl) (by kernel_rfl) rfl rfl Tryz.underlying4 (fun ds hds=>by
  match ds,hds with
  |[a0,a1],_=>rfl) hW' hb⟩
theorem fact9:((Rows.preferWholeUptoRow.inPlace==Tryz.pinned.checked.prog.inPlace 7))=true:=by kernel_rfl
theorem fact10:((Rows.preferWholeUptoRow.unfollowed==Tryz.pinned.checked.prog.unfollowed 7))=true:=by kernel_rfl
theorem fact11:((Rows.preferWholeUptoRow.recurses==Tryz.pinned.checked.prog.recurses 7))=true:=by kernel_rfl
theorem fact12:((Rows.preferWholeUptoRow.named==Tryz.pinned.checked.prog.varsNamed 7))=true:=by kernel_rfl
theorem closed:joinedFacts Tryz.pinned.checked.prog 7 Tryz.f7 (Rows.OpenSpec.upto Rows.preferWholeSpec).bare Rows.preferWholeUptoRow=true:=by
 unfold joinedFacts;exact (band (band (band (band (band (band (band (band (band (band (band (band (band (band (band (band (band (band (band (band (band (band (band (band (band (band (band (band (band (band (band (by kernel_rfl) cl.fact1) cl.fact2) (by kernel_rfl)) (by kernel_rfl)) (by kernel_rfl)) cl.fact6) (by kernel_rfl)) cl.fact8) fact9) fact10) fact11) fact12) (by kernel_rfl)) (by kernel_rfl)) (by kernel_rfl)) (by kernel_rfl)) (by kernel_rfl)) (by kernel_rfl)) (by kernel_rfl)) (by kernel_rfl)) (by kernel_rfl)) cl.fact22) (by kernel_rfl)) cl.fact24) cl.fact25) cl.fact26) cl.fact27) (by kernel_rfl)) (by kernel_rfl)) (by kernel_rfl)) (by kernel_rfl))
theorem abM (os:Os):laidMet Tryz.prog Rows.preferWholeUptoRow.laid ((E6 os).forCall (fun _ _=>0) ⟨#[], #[.slice none 0 0, .agg #[.slice none 0 0]],[]⟩).memory:=
 laidMet_of_run' 8 (by kernel_rfl) (by kernel_rfl)
theorem reads (os:Os) {H:Type} (enc:TypeId×Value→H):∃places,DataW.whole enc Tryz.prog ((E6 os).forCall (fun _ _=>0) ⟨#[], #[.slice none 0 0, .agg #[.slice none 0 0]],[]⟩).memory Tryz.f7.params.toList Rows.preferWholeSpec.vars false (#[.slice none 0 0, .agg #[.slice none 0 0]]:Array Value).toList 8=some ([.nil, .agg [.nil]],[],places):=
 ⟨[],by kernel_rfl⟩
theorem lifted (os:Os) (started:os.Started) (H:Type) (enc:TypeId×Value→H) (F:Stop.Interp):
  ReturnsInHanded {} Tryz.checked os 7 .any ((Rows.OpenSpec.upto Rows.preferWholeSpec).preRow enc Tryz.prog Tryz.f7 Rows.preferWholeUptoRow.domain false Rows.preferWholeUptoRow.laid) (((Rows.OpenSpec.upto Rows.preferWholeSpec).at F).post enc Tryz.prog Tryz.f7 false true false false):=by
 obtain ⟨places,hx⟩:=reads os enc;refine returnsInHanded_of_row (C:=Tryz.checked) (s:=Rows.OpenSpec.upto Rows.preferWholeSpec) own started (by kernel_rfl) Tryz.func7
  (witness_row_at (enc:=enc) (C:=Tryz.checked) false (E6 os) #[.slice none 0 0, .agg #[.slice none 0 0]] rfl (by kernel_rfl) (by kernel_rfl) (by kernel_rfl)
   (OpenSpec.preRow_of_cond 8 hx (by kernel_rfl) (fun k hk=>by cases hk;kernel_rfl) (by kernel_rfl) (abM os))) ?_
 intro W base args ds gs before hval hW _ fU _ hL _ _;exact contract H enc W base args ds gs before (fU _ rfl) hval hW hL
theorem named:Tryz.pinned.checked.prog.funcNamed Rows.preferWholeUptoRow.func=some 7:=by kernel_rfl
theorem isInst:Tryz.f7.isInstance Tryz.pinned.checked.prog Rows.preferWholeUptoRow.origin Rows.preferWholeUptoRow.targs:=lM (by kernel_rfl)
theorem isWrap:Tryz.f7.isWrapper Tryz.pinned.checked.prog Rows.preferWholeUptoRow.wrapper Rows.preferWholeUptoRow.mainSum:=by unfold Func.isWrapper;first|(rw [au (by decide+kernel)];kernel_rfl)|(rw [ak (by decide+kernel)];exact ⟨rfl,rfl⟩)
theorem wfText:Rows.preferWholeUptoRow.wfByText (Rows.OpenSpec.upto Rows.preferWholeSpec)=true:=by kernel_rfl
theorem goes:false=Rows.preferWholeUptoRow.goesBy Tryz.pinned.checked.prog:=by kernel_rfl
theorem said:Rows.PreferWholeUptoSaid:=
 OpenClaim.holds_of_cond 7 Tryz.f7 rfl rfl rfl rfl rfl rfl rfl ⟨rfl,rfl,rfl,rfl,rfl⟩ rfl rfl rfl rfl rfl named Tryz.func7 closed isInst isWrap
  (fun os started H enc _ F=>by rw [OpenClaim.pre_eq_preRow];exact lifted os started H enc F)
theorem plain (f:FuncId) (fn:Func) (hf:Tryz.pinned.checked.prog.funcNamed "grammarlab/grammarlablaw18.PreferWhole" =some f) (hfn:Tryz.pinned.checked.prog.funcs[f]? =some fn):
  false=Tryz.pinned.checked.prog.looks []∧∀(j:Nat) t,fn.params[j]? =some t→Tryz.pinned.checked.prog.wantsStandIn t=false:=by
 obtain rfl:f=7:=eS ((show Tryz.prog.funcNamed "grammarlab/grammarlablaw18.PreferWhole" =some 7 by kernel_rfl).symm.trans hf)|>.symm;obtain rfl:fn=Tryz.f7:=(eS (Tryz.func7.symm.trans hfn)).symm;refine ⟨by kernel_rfl,fun j t ht=> ?_⟩;rw [Tryz.params7] at ht;have ht':t∈(#[30,24]:Array TypeId):=Array.mem_of_getElem? ht;simp only [Array.mem_def,aD,fF,fW] at ht';rcases ht' with rfl|rfl
 ·exact (show Tryz.prog.wantsStandIn 30=false by kernel_rfl)
 ·exact (show Tryz.prog.wantsStandIn 24=false by kernel_rfl)
theorem card:Rows.PreferWholeUptoCardSaid:=
 Claim7.holds_tied_plain_at .later [] _ _ _ _ said (fun _ h=>by cases h) wfText (fun _ h=>by cases h) preferWholeUpto_row_tie rfl ⟨rfl,rfl⟩ mainIs rfl plain goes
end Go.Proofs.YthppjmoncapdfaaGreatDoor.cl7
namespace Go.Proofs.YthppjmoncapdfaaGreatDoor
theorem preferWhole_upto:Rows.PreferWholeUptoCardSaid:=cl7.card
#print axioms preferWhole_upto
end Go.Proofs.YthppjmoncapdfaaGreatDoor
