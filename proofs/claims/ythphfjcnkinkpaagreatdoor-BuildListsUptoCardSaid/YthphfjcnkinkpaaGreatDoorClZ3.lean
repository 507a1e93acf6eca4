/-
  PROVED: for every input of bulk at most 1048576 the law BuildLists returns true and leaves its arguments as they read; math/bits' table holds what the program's text lays.
-/
import Derived.Test.YthphfjcnkinkpaaGreatDoorClQc
import Derived.Test.YthphfjcnkinkpaaGreatDoorClWn
import Derived.Test.YthphfjcnkinkpaaGreatDoorClVe
import Derived.Test.YthphfjcnkinkpaaGreatDoorClEg
import Derived.Test.YthphfjcnkinkpaaGreatDoorClV
set_option linter.all false
set_option maxRecDepth 100000
namespace Go.Proofs.YthphfjcnkinkpaaGreatDoor.cl3
open Go Go.AM Go.RowKit Go.ChangeShapes Go.WideShapes Go.ChangeAt Go.Proofs.YthphfjcnkinkpaaGreatDoor.cl
def contract (H:Type) (enc:TypeId×Value->H) (W:World) (base:Nat) (args:Array Value) (ds gs:List (DataW H)) (before:List MemPlace)
  (hk:Rows.uptoSmall H (ds++gs)=true) (hval:∀(j:Nat) t v,Tryz.f3.params[j]? =some t->args[j]? =some v->Value.okWide Tryz.prog W .any base t v)
  (hW:DataW.Whole enc Tryz.prog Tryz.f3.params.toList Rows.buildListsSpec.vars false W args.toList ds gs before) (hL:laidMetH Tryz.prog Rows.buildListsUptoRow.laid W):
  Calls Tryz.prog 3 args W λe W'=>∃v,e= .returned v/\Rows.buildListsSpec.post enc Tryz.prog Tryz.f3 false true false false W args v W':=by
 have hW':=hW;obtain⟨p,q,hA0,hV,rfl,hfz,hnd⟩:=hW;have hA:DataW.TrodAll enc Tryz.prog W 0 (λ_=>true) true Tryz.f3.params.toList args.toList ds p:=hA0;rw[Tryz.params3] at hA hval;obtain⟨v0,vs0,d0,ds0,p0,q0,hargs,rfl,rfl,h0,r0⟩:=trodAll_cons hA;obtain⟨rfl,rfl,rfl⟩:=trodAll_nil r0;obtain rfl:args= #[v0]:=by cases args;simp_all
 obtain⟨rfl,rfl⟩:=trodVars_none hV;obtain⟨_,⟨x0,rfl⟩,hr0,hb,_⟩:=arg_agg Tryz.underlying32 (hval 0 32 v0 rfl rfl) h0 rd32;have hsum:Rows.uptoBulkAll ([d0]++[])<=1048576:=lU hk;simp only[gF,dK,Rows.uptoBulkAll] at hsum;obtain⟨z,hf⟩:=sz_case (x:=x0) (by omega);have hrun:run P cl.H gM 3 [.pv (.agg (Case.enc x0))] []=some (.bool true,[]):=iZ (EN Q2) (Rn 3 [.pv (.agg (Case.enc x0))] []) _ (pf.law568 (c:=x0) z hf pf.c499);have hcalls:=ZT (H:=cl.H) (B:=λ_ _=>none) cl.ok blk_all prim_ok (avs:=[.agg (Case.enc x0)]) (us:=[v0]) (λ_ _ _ h=>by cases h) (cQ hr0 dR) hrun;refine hcalls.mono λe W' ⟨he,hb⟩=> ?_
 subst he
 exact⟨_,rfl,aab (tb:=4) (by kernel_rfl) (by kernel_rfl) rfl rfl Tryz.underlying4 (λds hds=>by match ds,hds with
  |[a0],_=>rfl) hW' hb⟩
def fact9:((Rows.buildListsUptoRow.inPlace==Tryz.pinned.checked.prog.inPlace 3))=true:=by kernel_rfl
def fact10:((Rows.buildListsUptoRow.unfollowed==Tryz.pinned.checked.prog.unfollowed 3))=true:=by kernel_rfl
def fact11:((Rows.buildListsUptoRow.recurses==Tryz.pinned.checked.prog.recurses 3))=true:=by kernel_rfl
def fact12:((Rows.buildListsUptoRow.named==Tryz.pinned.checked.prog.varsNamed 3))=true:=by kernel_rfl
def closed:joinedFacts Tryz.pinned.checked.prog 3 Tryz.f3 (Rows.OpenSpec.upto Rows.buildListsSpec).bare Rows.buildListsUptoRow=true:=by unfold joinedFacts;exact(band (band (band (band (band (band (band (band (band (band (band (band (band (band (band (band (band (band (band (band (band (band (band (band (band (band (band (band (band (band (band (by kernel_rfl) cl.fact1) cl.fact2) (by kernel_rfl)) (by kernel_rfl)) (by kernel_rfl)) cl.fact6) (by kernel_rfl)) cl.fact8) fact9) fact10) fact11) fact12) (by kernel_rfl)) (by kernel_rfl)) (by kernel_rfl)) (by kernel_rfl)) (by kernel_rfl)) (by kernel_rfl)) (by kernel_rfl)) (by kernel_rfl)) (by kernel_rfl)) cl.fact22) (by kernel_rfl)) cl.fact24) cl.fact25) cl.fact26) cl.fact27) (by kernel_rfl)) (by kernel_rfl)) (by kernel_rfl)) (by kernel_rfl))
theorem adu (os:Os):laidMet Tryz.prog Rows.buildListsUptoRow.laid ((GC os).forCall (λ_ _=>0) ⟨#[], #[.agg #[.slice none 0 0, .slice none 0 0, .int .i64 0, .string ⟨#[]⟩, .slice none 0 0, .slice none 0 0, .int .i64 0, .string ⟨#[]⟩, .slice none 0 0, .slice none 0 0, .slice none 0 0]],[]⟩).memory:=
 laidMet_of_run' 8 (by kernel_rfl) (by kernel_rfl)
def reads (os:Os) {H:Type} (enc:TypeId×Value->H):∃places,DataW.whole enc Tryz.prog ((GC os).forCall (λ_ _=>0) ⟨#[], #[.agg #[.slice none 0 0, .slice none 0 0, .int .i64 0, .string ⟨#[]⟩, .slice none 0 0, .slice none 0 0, .int .i64 0, .string ⟨#[]⟩, .slice none 0 0, .slice none 0 0, .slice none 0 0]],[]⟩).memory Tryz.f3.params.toList Rows.buildListsSpec.vars false (#[.agg #[.slice none 0 0, .slice none 0 0, .int .i64 0, .string ⟨#[]⟩, .slice none 0 0, .slice none 0 0, .int .i64 0, .string ⟨#[]⟩, .slice none 0 0, .slice none 0 0, .slice none 0 0]]:Array Value).toList 8=some ([.agg [.nil, .nil, .agg [.lit (.int .i64 0), .lit (.string []), .nil, .nil], .agg [.lit (.int .i64 0), .lit (.string []), .nil, .nil], .agg [.nil]]],[],places):=
 ⟨[],by kernel_rfl⟩
def lifted (os:Os) (started:os.Started) (H:Type) (enc:TypeId×Value->H) (F:Stop.Interp):
  ReturnsInHanded {} Tryz.checked os 3 .any ((Rows.OpenSpec.upto Rows.buildListsSpec).preRow enc Tryz.prog Tryz.f3 Rows.buildListsUptoRow.domain false Rows.buildListsUptoRow.laid) (((Rows.OpenSpec.upto Rows.buildListsSpec).at F).post enc Tryz.prog Tryz.f3 false true false false):=by
 obtain⟨places,hx⟩:=reads os enc;refine returnsInHanded_of_row (C:=Tryz.checked) (s:=Rows.OpenSpec.upto Rows.buildListsSpec) own started (by kernel_rfl) Tryz.func3
  (witness_row_at (enc:=enc) (C:=Tryz.checked) false (GC os) #[.agg #[.slice none 0 0, .slice none 0 0, .int .i64 0, .string ⟨#[]⟩, .slice none 0 0, .slice none 0 0, .int .i64 0, .string ⟨#[]⟩, .slice none 0 0, .slice none 0 0, .slice none 0 0]] rfl (by kernel_rfl) (by kernel_rfl) (by kernel_rfl)
   (OpenSpec.preRow_of_cond 8 hx (by kernel_rfl) (λk hk=>by cases hk;kernel_rfl) (by kernel_rfl) (adu os))) ?_
 intro W base args ds gs before hval hW _ A4 _ hL _ _;exact contract H enc W base args ds gs before (A4 _ rfl) hval hW hL
def named:Tryz.pinned.checked.prog.funcNamed Rows.buildListsUptoRow.func=some 3:=by kernel_rfl
def isInst:Tryz.f3.isInstance Tryz.pinned.checked.prog Rows.buildListsUptoRow.origin Rows.buildListsUptoRow.targs:=lU (by kernel_rfl)
def isWrap:Tryz.f3.isWrapper Tryz.pinned.checked.prog Rows.buildListsUptoRow.wrapper Rows.buildListsUptoRow.mainSum:=by unfold Func.isWrapper;first|(rw[aB (by decide+kernel)];kernel_rfl)|(rw[az (by decide+kernel)];exact⟨rfl,rfl⟩)
def wfText:Rows.buildListsUptoRow.wfByText (Rows.OpenSpec.upto Rows.buildListsSpec)=true:=by kernel_rfl
def goes:false=Rows.buildListsUptoRow.goesBy Tryz.pinned.checked.prog:=cl.goes_none cl.no_go _ _
def said:Rows.BuildListsUptoSaid:=
 OpenClaim.holds_of_cond 3 Tryz.f3 rfl rfl rfl rfl rfl rfl rfl ⟨rfl,rfl,rfl,rfl,rfl⟩ rfl rfl rfl rfl rfl named Tryz.func3 closed isInst isWrap
  (λos started H enc _ F=>by rw[OpenClaim.pre_eq_preRow];exact lifted os started H enc F)
theorem plain (f:FuncId) (fn:Func) (hf:Tryz.pinned.checked.prog.funcNamed "grammarlab/grammarlablaw20.BuildLists" =some f) (hfn:Tryz.pinned.checked.prog.funcs[f]? =some fn):
  false=Tryz.pinned.checked.prog.looks []/\∀(j:Nat) t,fn.params[j]? =some t->Tryz.pinned.checked.prog.wantsStandIn t=false:=by
 obtain rfl:f=3:=fe ((show Tryz.prog.funcNamed "grammarlab/grammarlablaw20.BuildLists" =some 3 by kernel_rfl).symm.trans hf)|>.symm;obtain rfl:fn=Tryz.f3:=(fe (Tryz.func3.symm.trans hfn)).symm;refine⟨by kernel_rfl,λj t ht=> ?_⟩;rw[Tryz.params3] at ht;have ht':t∈(#[32]:Array TypeId):=Array.mem_of_getElem? ht;simp only[Array.mem_def,aN,nC,pQ] at ht';subst ht';exact(show Tryz.prog.wantsStandIn 32=false by kernel_rfl)
def card:Rows.BuildListsUptoCardSaid:=
 Claim7.holds_tied_plain_at .later [] _ _ _ _ said (λ_ h=>by cases h) wfText (λ_ h=>by cases h) buildListsUpto_row_tie rfl ⟨rfl,rfl⟩ mainIs rfl plain goes
end Go.Proofs.YthphfjcnkinkpaaGreatDoor.cl3
namespace Go.Proofs.YthphfjcnkinkpaaGreatDoor
theorem buildLists_upto:Rows.BuildListsUptoCardSaid:=cl3.card
#print axioms buildLists_upto
