/-
  PROVED: for every input the law PreferParts returns true and leaves its arguments as they read; math/bits' table holds what the program's text lays.
-/
import Derived.Test.YthppjmoncapdfaaGreatDoorClEi
import Derived.Test.YthppjmoncapdfaaGreatDoorClW
import Derived.Test.YthppjmoncapdfaaGreatDoorClV
set_option linter.all false
set_option maxRecDepth 100000
namespace Go.Proofs.YthppjmoncapdfaaGreatDoor.cl3
open Go Go.AM Go.RowKit Go.ChangeShapes Go.WideShapes Go.ChangeAt Go.Proofs.YthppjmoncapdfaaGreatDoor.cl
def contract (H:Type) (enc:TypeId×Value->H) (W:World) (base:Nat) (args:Array Value) (ds gs:List (DataW H)) (before:List MemPlace)
  (hval:∀(j:Nat) t v,Tryz.f3.params[j]? =some t->args[j]? =some v->Value.okWide Tryz.prog W .any base t v)
  (hW:DataW.Whole enc Tryz.prog Tryz.f3.params.toList Rows.preferPartsSpec.vars false W args.toList ds gs before) (hL:laidMetH Tryz.prog Rows.preferPartsRow.laid W):
  Calls Tryz.prog 3 args W λe W'=>∃v,e= .returned v/\Rows.preferPartsSpec.post enc Tryz.prog Tryz.f3 false true false false W args v W':=by
 have hW':=hW;obtain⟨p,q,hA0,hV,rfl,hfz,hnd⟩:=hW;have hA:DataW.TrodAll enc Tryz.prog W 0 (λ_=>true) true Tryz.f3.params.toList args.toList ds p:=hA0;rw[Tryz.params3] at hA hval;obtain⟨v0,vs0,d0,ds0,p0,q0,hargs,rfl,rfl,h0,r0⟩:=trodAll_cons hA;obtain⟨rfl,rfl,rfl⟩:=trodAll_nil r0;obtain rfl:args= #[v0]:=by cases args;simp_all
 obtain⟨rfl,rfl⟩:=trodVars_none hV;obtain⟨_,⟨x0,rfl⟩,Uq,_,_⟩:=Rh Tryz.underlying24 (hval 0 24 v0 rfl rfl) h0 rd24;have hrun:run P cl.H dm 3 [.pv (.agg (FSt.enc x0))] []=some (.bool true,[]):=jD (EN Q0) (Rn 3 [.pv (.agg (FSt.enc x0))] []) _ (pf.UB (f:=x0));have Ug:=MW (H:=cl.H) cl.ok (Ro L0 (by kernel_rfl)) L0 (QN:=[.agg (FSt.enc x0)]) (us:=[v0]) (Se hL) (bq Uq cF) hrun;refine Ug.mono λe W' ⟨he,hb⟩=> ?_
 subst he
 exact⟨_,rfl,M7 (tb:=4) (by kernel_rfl) (by kernel_rfl) rfl rfl Tryz.underlying4 (λds hds=>by match ds,hds with
  |[a0],_=>rfl) hW' hb⟩
def VT:((Rows.preferPartsRow.inPlace==Tryz.pinned.checked.prog.inPlace 3))=true:=by kernel_rfl
def TV:((Rows.preferPartsRow.unfollowed==Tryz.pinned.checked.prog.unfollowed 3))=true:=by kernel_rfl
def TW:((Rows.preferPartsRow.recurses==Tryz.pinned.checked.prog.recurses 3))=true:=by kernel_rfl
def TX:((Rows.preferPartsRow.named==Tryz.pinned.checked.prog.varsNamed 3))=true:=by kernel_rfl
def closed:joinedFacts Tryz.pinned.checked.prog 3 Tryz.f3 (OpenSpec.ofChange Rows.preferPartsSpec).bare Rows.preferPartsRow=true:=by unfold joinedFacts;exact(band (band (band (band (band (band (band (band (band (band (band (band (band (band (band (band (band (band (band (band (band (band (band (band (band (band (band (band (band (band (band (by kernel_rfl) cl.fact1) cl.fact2) (by kernel_rfl)) (by kernel_rfl)) (by kernel_rfl)) cl.fact6) (by kernel_rfl)) cl.fact8) VT) TV) TW) TX) (by kernel_rfl)) (by kernel_rfl)) (by kernel_rfl)) (by kernel_rfl)) (by kernel_rfl)) (by kernel_rfl)) (by kernel_rfl)) (by kernel_rfl)) (by kernel_rfl)) cl.fact22) (by kernel_rfl)) cl.fact24) cl.fact25) cl.fact26) cl.fact27) (by kernel_rfl)) (by kernel_rfl)) (by kernel_rfl)) (by kernel_rfl))
def PR (os:Os):laidMet Tryz.prog Rows.preferPartsRow.laid ((zh os).forCall (λ_ _=>0) ⟨#[], #[.agg #[.slice none 0 0]],[]⟩).memory:=
 laidMet_of_run' 8 (by kernel_rfl) (by kernel_rfl)
def reads (os:Os) {H:Type} (enc:TypeId×Value->H):∃places,DataW.whole enc Tryz.prog ((zh os).forCall (λ_ _=>0) ⟨#[], #[.agg #[.slice none 0 0]],[]⟩).memory Tryz.f3.params.toList Rows.preferPartsSpec.vars false (#[.agg #[.slice none 0 0]]:Array Value).toList 8=some ([.agg [.nil]],[],places):=
 ⟨[],by kernel_rfl⟩
def lifted (os:Os) (started:os.Started) (H:Type) (enc:TypeId×Value->H) (F:Stop.Interp):
  ReturnsInHanded {} Tryz.checked os 3 .any ((OpenSpec.ofChange Rows.preferPartsSpec).preRow enc Tryz.prog Tryz.f3 Rows.preferPartsRow.domain false Rows.preferPartsRow.laid) (((OpenSpec.ofChange Rows.preferPartsSpec).at F).post enc Tryz.prog Tryz.f3 false true false false):=by
 obtain⟨places,hx⟩:=reads os enc;refine returnsInHanded_of_row (C:=Tryz.checked) (s:=OpenSpec.ofChange Rows.preferPartsSpec) own started (by kernel_rfl) Tryz.func3
  (witness_row_at (enc:=enc) (C:=Tryz.checked) false (zh os) #[.agg #[.slice none 0 0]] rfl (by kernel_rfl) (by kernel_rfl) (by kernel_rfl)
   (OpenSpec.preRow_of_cond 8 hx (by kernel_rfl) (λk hk=>by cases hk) (by kernel_rfl) (PR os))) ?_
 intro W base args ds gs before hval hW _ _ _ hL _ _;exact contract H enc W base args ds gs before hval hW hL
def named:Tryz.pinned.checked.prog.funcNamed Rows.preferPartsRow.func=some 3:=by kernel_rfl
def Uz:Tryz.f3.isInstance Tryz.pinned.checked.prog Rows.preferPartsRow.origin Rows.preferPartsRow.targs:=j4 (by kernel_rfl)
def isWrap:Tryz.f3.isWrapper Tryz.pinned.checked.prog Rows.preferPartsRow.wrapper Rows.preferPartsRow.mainSum:=by unfold Func.isWrapper;first|(rw[ak (by decide+kernel)];kernel_rfl)|(rw[az (by decide+kernel)];exact⟨rfl,rfl⟩)
def U6:Rows.preferPartsRow.wfByText (OpenSpec.ofChange Rows.preferPartsSpec)=true:=by kernel_rfl
def goes:false=Rows.preferPartsRow.goesBy Tryz.pinned.checked.prog:=by kernel_rfl
def said:Rows.PreferPartsSaid:=
 OpenClaim.holds_of_cond 3 Tryz.f3 rfl rfl rfl rfl rfl rfl rfl ⟨rfl,rfl,rfl,rfl,rfl⟩ rfl rfl rfl rfl rfl named Tryz.func3 closed Uz isWrap
  (λos started H enc _ F=>by rw[OpenClaim.pre_eq_preRow];exact lifted os started H enc F)
def plain (f:FuncId) (fn:Func) (hf:Tryz.pinned.checked.prog.funcNamed "grammarlab/grammarlablaw18.PreferParts" =some f) (hfn:Tryz.pinned.checked.prog.funcs[f]? =some fn):
  false=Tryz.pinned.checked.prog.looks []/\∀(j:Nat) t,fn.params[j]? =some t->Tryz.pinned.checked.prog.wantsStandIn t=false:=by
 obtain rfl:f=3:=eO ((show Tryz.prog.funcNamed "grammarlab/grammarlablaw18.PreferParts" =some 3 by kernel_rfl).symm.trans hf)|>.symm;obtain rfl:fn=Tryz.f3:=(eO (Tryz.func3.symm.trans hfn)).symm;refine⟨by kernel_rfl,λj t ht=> ?_⟩;rw[Tryz.params3] at ht;have ht':t∈(#[24]:Array TypeId):=Array.mem_of_getElem? ht;simp only[Array.mem_def,aD,dG,dV] at ht';subst ht';exact(show Tryz.prog.wantsStandIn 24=false by kernel_rfl)
def card:Rows.PreferPartsCardSaid:=
 Claim7.holds_tied_plain_at .later [] _ _ _ _ said (λ_ h=>by cases h) U6 (λ_ h=>by cases h) preferParts_row_tie rfl ⟨rfl,rfl⟩ mainIs rfl plain goes
end Go.Proofs.YthppjmoncapdfaaGreatDoor.cl3
namespace Go.Proofs.YthppjmoncapdfaaGreatDoor
theorem preferParts_card:Rows.PreferPartsCardSaid:=cl3.card
#print axioms preferParts_card
