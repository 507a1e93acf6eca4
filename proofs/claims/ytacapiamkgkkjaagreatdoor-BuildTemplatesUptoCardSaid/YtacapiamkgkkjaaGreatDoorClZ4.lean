/-
  PROVED: for every input of bulk at most 1048576 the law BuildTemplates returns true and leaves its arguments as they read; math/bits' table holds what the program's text lays.
-/
import Derived.Test.YtacapiamkgkkjaaGreatDoorClQb
import Derived.Test.YtacapiamkgkkjaaGreatDoorClW
import Derived.Test.YtacapiamkgkkjaaGreatDoorClEg
import Derived.Test.YtacapiamkgkkjaaGreatDoorClV
set_option linter.all false
set_option maxRecDepth 100000
namespace Go.Proofs.YtacapiamkgkkjaaGreatDoor.cl4
open Go Go.AM Go.RowKit Go.ChangeShapes Go.WideShapes Go.ChangeAt Go.Proofs.YtacapiamkgkkjaaGreatDoor.cl
def contract (H:Type) (enc:TypeId×Value->H) (W:World) (base:Nat) (args:Array Value) (ds gs:List (DataW H)) (before:List MemPlace)
  (hk:Rows.uptoSmall H (ds++gs)=true) (hval:∀(j:Nat) t v,Tryz.f4.params[j]? =some t->args[j]? =some v->Value.okWide Tryz.prog W .any base t v)
  (hW:DataW.Whole enc Tryz.prog Tryz.f4.params.toList Rows.buildTemplatesSpec.vars false W args.toList ds gs before) (hL:laidMetH Tryz.prog Rows.buildTemplatesUptoRow.laid W):
  Calls Tryz.prog 4 args W λe W'=>∃v,e= .returned v/\Rows.buildTemplatesSpec.post enc Tryz.prog Tryz.f4 false true false false W args v W':=by
 have hW':=hW;obtain⟨p,q,hA0,hV,rfl,hfz,hnd⟩:=hW;have hA:DataW.TrodAll enc Tryz.prog W 0 (λ_=>true) true Tryz.f4.params.toList args.toList ds p:=hA0;rw[Tryz.params4] at hA hval;obtain⟨v0,vs0,d0,ds0,p0,q0,hargs,rfl,rfl,h0,r0⟩:=trodAll_cons hA;obtain⟨v1,vs1,d1,ds1,p1,q1,rfl,rfl,rfl,h1,r1⟩:=trodAll_cons r0;obtain⟨rfl,rfl,rfl⟩:=trodAll_nil r1;obtain rfl:args= #[v0,v1]:=by cases args;simp_all
 obtain⟨rfl,rfl⟩:=trodVars_none hV;obtain⟨x0,hr0,hb⟩:=ZN (hval 0 22 v0 rfl rfl) h0;obtain⟨x1,hr1⟩:=abH (hval 1 23 v1 rfl rfl) h1;have hsum:Rows.uptoBulkAll ([d0,d1]++[])<=1048576:=mM hk;simp only[gB,dU,Rows.uptoBulkAll] at hsum;obtain⟨z,hf⟩:=sz_of (d:=x0) (by omega);have hrun:run P cl.H gT 4 [.pv (.dK 3 (x0.map aB.enc)), .pv (.dK 6 (x1.map Def.enc))] []=some (.bool true,[]):=jN (EN Q2) (Rn 4 [.pv (.dK 3 (x0.map aB.enc)), .pv (.dK 6 (x1.map Def.enc))] []) _ (pf.law561 (d:=x0) (l:=x1) z hf pf.c499);have hcalls:=aay (H:=cl.H) (B:=λ_ _=>none) cl.ok blk_all prim_ok (avs:=[.dK 3 (x0.map aB.enc), .dK 6 (x1.map Def.enc)]) (us:=[v0,v1]) (λ_ _ _ h=>by cases h) (cC hr0 (cC hr1 dO)) hrun;refine hcalls.mono λe W' ⟨he,hb⟩=> ?_
 subst he
 exact⟨_,rfl,aaQ (tb:=4) (by kernel_rfl) (by kernel_rfl) rfl rfl Tryz.underlying4 (λds hds=>by match ds,hds with
  |[a0,a1],_=>rfl) hW' hb⟩
def fact9:((Rows.buildTemplatesUptoRow.inPlace==Tryz.pinned.checked.prog.inPlace 4))=true:=by kernel_rfl
def fact10:((Rows.buildTemplatesUptoRow.unfollowed==Tryz.pinned.checked.prog.unfollowed 4))=true:=by kernel_rfl
def fact11:((Rows.buildTemplatesUptoRow.recurses==Tryz.pinned.checked.prog.recurses 4))=true:=by kernel_rfl
def fact12:((Rows.buildTemplatesUptoRow.named==Tryz.pinned.checked.prog.varsNamed 4))=true:=by kernel_rfl
def closed:joinedFacts Tryz.pinned.checked.prog 4 Tryz.f4 (Rows.OpenSpec.upto Rows.buildTemplatesSpec).bare Rows.buildTemplatesUptoRow=true:=by unfold joinedFacts;exact(band (band (band (band (band (band (band (band (band (band (band (band (band (band (band (band (band (band (band (band (band (band (band (band (band (band (band (band (band (band (band (by kernel_rfl) cl.fact1) cl.fact2) (by kernel_rfl)) (by kernel_rfl)) (by kernel_rfl)) cl.fact6) (by kernel_rfl)) cl.fact8) fact9) fact10) fact11) fact12) (by kernel_rfl)) (by kernel_rfl)) (by kernel_rfl)) (by kernel_rfl)) (by kernel_rfl)) (by kernel_rfl)) (by kernel_rfl)) (by kernel_rfl)) (by kernel_rfl)) cl.fact22) (by kernel_rfl)) cl.fact24) cl.fact25) cl.fact26) cl.fact27) (by kernel_rfl)) (by kernel_rfl)) (by kernel_rfl)) (by kernel_rfl))
def aem (os:Os):laidMet Tryz.prog Rows.buildTemplatesUptoRow.laid ((GJ os).forCall (λ_ _=>0) ⟨#[], #[.slice none 0 0, .slice none 0 0],[]⟩).memory:=
 laidMet_of_run' 8 (by kernel_rfl) (by kernel_rfl)
def reads (os:Os) {H:Type} (enc:TypeId×Value->H):∃places,DataW.whole enc Tryz.prog ((GJ os).forCall (λ_ _=>0) ⟨#[], #[.slice none 0 0, .slice none 0 0],[]⟩).memory Tryz.f4.params.toList Rows.buildTemplatesSpec.vars false (#[.slice none 0 0, .slice none 0 0]:Array Value).toList 8=some ([.nil, .nil],[],places):=
 ⟨[],by kernel_rfl⟩
def lifted (os:Os) (started:os.Started) (H:Type) (enc:TypeId×Value->H) (F:Stop.Interp):
  ReturnsInHanded {} Tryz.checked os 4 .any ((Rows.OpenSpec.upto Rows.buildTemplatesSpec).preRow enc Tryz.prog Tryz.f4 Rows.buildTemplatesUptoRow.domain false Rows.buildTemplatesUptoRow.laid) (((Rows.OpenSpec.upto Rows.buildTemplatesSpec).at F).post enc Tryz.prog Tryz.f4 false true false false):=by
 obtain⟨places,hx⟩:=reads os enc;refine returnsInHanded_of_row (C:=Tryz.checked) (s:=Rows.OpenSpec.upto Rows.buildTemplatesSpec) own started (by kernel_rfl) Tryz.func4
  (witness_row_at (enc:=enc) (C:=Tryz.checked) false (GJ os) #[.slice none 0 0, .slice none 0 0] rfl (by kernel_rfl) (by kernel_rfl) (by kernel_rfl)
   (OpenSpec.preRow_of_cond 8 hx (by kernel_rfl) (λk hk=>by cases hk;kernel_rfl) (by kernel_rfl) (aem os))) ?_
 intro W base args ds gs before hval hW _ AT _ hL _ _;exact contract H enc W base args ds gs before (AT _ rfl) hval hW hL
def named:Tryz.pinned.checked.prog.funcNamed Rows.buildTemplatesUptoRow.func=some 4:=by kernel_rfl
def isInst:Tryz.f4.isInstance Tryz.pinned.checked.prog Rows.buildTemplatesUptoRow.origin Rows.buildTemplatesUptoRow.targs:=mM (by kernel_rfl)
def isWrap:Tryz.f4.isWrapper Tryz.pinned.checked.prog Rows.buildTemplatesUptoRow.wrapper Rows.buildTemplatesUptoRow.mainSum:=by unfold Func.isWrapper;first|(rw[aC (by decide+kernel)];kernel_rfl)|(rw[aA (by decide+kernel)];exact⟨rfl,rfl⟩)
def wfText:Rows.buildTemplatesUptoRow.wfByText (Rows.OpenSpec.upto Rows.buildTemplatesSpec)=true:=by kernel_rfl
def goes:false=Rows.buildTemplatesUptoRow.goesBy Tryz.pinned.checked.prog:=by kernel_rfl
def said:Rows.BuildTemplatesUptoSaid:=
 OpenClaim.holds_of_cond 4 Tryz.f4 rfl rfl rfl rfl rfl rfl rfl ⟨rfl,rfl,rfl,rfl,rfl⟩ rfl rfl rfl rfl rfl named Tryz.func4 closed isInst isWrap
  (λos started H enc _ F=>by rw[OpenClaim.pre_eq_preRow];exact lifted os started H enc F)
theorem plain (f:FuncId) (fn:Func) (hf:Tryz.pinned.checked.prog.funcNamed "grammarlab/grammarlablaw20.BuildTemplates" =some f) (hfn:Tryz.pinned.checked.prog.funcs[f]? =some fn):
  false=Tryz.pinned.checked.prog.looks []/\∀(j:Nat) t,fn.params[j]? =some t->Tryz.pinned.checked.prog.wantsStandIn t=false:=by
 obtain rfl:f=4:=fc ((show Tryz.prog.funcNamed "grammarlab/grammarlablaw20.BuildTemplates" =some 4 by kernel_rfl).symm.trans hf)|>.symm;obtain rfl:fn=Tryz.f4:=(fc (Tryz.func4.symm.trans hfn)).symm;refine⟨by kernel_rfl,λj t ht=> ?_⟩;rw[Tryz.params4] at ht;have ht':t∈(#[22,23]:Array TypeId):=Array.mem_of_getElem? ht;simp only[Array.mem_def,aJ,mG,qp] at ht';rcases ht' with rfl|rfl
 .exact(show Tryz.prog.wantsStandIn 22=false by kernel_rfl)
 .exact(show Tryz.prog.wantsStandIn 23=false by kernel_rfl)
def card:Rows.BuildTemplatesUptoCardSaid:=
 Claim7.holds_tied_plain_at .later [] _ _ _ _ said (λ_ h=>by cases h) wfText (λ_ h=>by cases h) buildTemplatesUpto_row_tie rfl ⟨rfl,rfl⟩ mainIs rfl plain goes
end Go.Proofs.YtacapiamkgkkjaaGreatDoor.cl4
namespace Go.Proofs.YtacapiamkgkkjaaGreatDoor
theorem buildTemplates_upto:Rows.BuildTemplatesUptoCardSaid:=cl4.card
#print axioms buildTemplates_upto
