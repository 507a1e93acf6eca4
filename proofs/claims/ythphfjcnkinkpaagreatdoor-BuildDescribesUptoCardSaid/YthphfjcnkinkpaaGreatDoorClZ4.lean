/-
  PROVED: for every input of bulk at most 1048576 the law BuildDescribes returns true and leaves its arguments as they read; math/bits' table holds what the program's text lays.
-/
import Derived.Test.YthphfjcnkinkpaaGreatDoorClQa
import Derived.Test.YthphfjcnkinkpaaGreatDoorClWo
import Derived.Test.YthphfjcnkinkpaaGreatDoorClVf
import Derived.Test.YthphfjcnkinkpaaGreatDoorClEg
import Derived.Test.YthphfjcnkinkpaaGreatDoorClV
set_option linter.all false
set_option maxRecDepth 100000
namespace Go.Proofs.YthphfjcnkinkpaaGreatDoor.cl4
open Go Go.AM Go.RowKit Go.ChangeShapes Go.WideShapes Go.ChangeAt Go.Proofs.YthphfjcnkinkpaaGreatDoor.cl
def contract (H:Type) (enc:TypeId×Value->H) (W:World) (base:Nat) (args:Array Value) (ds gs:List (DataW H)) (before:List MemPlace)
  (hk:Rows.uptoSmall H (ds++gs)=true) (hval:∀(j:Nat) t v,Tryz.f4.params[j]? =some t->args[j]? =some v->Value.okWide Tryz.prog W .any base t v)
  (hW:DataW.Whole enc Tryz.prog Tryz.f4.params.toList Rows.buildDescribesSpec.vars false W args.toList ds gs before) (hL:laidMetH Tryz.prog Rows.buildDescribesUptoRow.laid W):
  Calls Tryz.prog 4 args W λe W'=>∃v,e= .returned v/\Rows.buildDescribesSpec.post enc Tryz.prog Tryz.f4 false true false false W args v W':=by
 have hW':=hW;obtain⟨p,q,hA0,hV,rfl,hfz,hnd⟩:=hW;have hA:DataW.TrodAll enc Tryz.prog W 0 (λ_=>true) true Tryz.f4.params.toList args.toList ds p:=hA0;rw[Tryz.params4] at hA hval;obtain⟨v0,vs0,d0,ds0,p0,q0,hargs,rfl,rfl,h0,r0⟩:=trodAll_cons hA;obtain⟨rfl,rfl,rfl⟩:=trodAll_nil r0;obtain rfl:args= #[v0]:=by cases args;simp_all
 obtain⟨rfl,rfl⟩:=trodVars_none hV;obtain⟨_,⟨x0,rfl⟩,hr0,hb,_⟩:=arg_agg Tryz.underlying32 (hval 0 32 v0 rfl rfl) h0 rd32;have hsum:Rows.uptoBulkAll ([d0]++[])<=1048576:=lX hk;simp only[gC,dQ,Rows.uptoBulkAll] at hsum;obtain⟨z,hf⟩:=sz_case (x:=x0) (by omega);have hrun:run P cl.H gR 4 [.pv (.agg (Case.enc x0))] []=some (.bool true,[]):=jM (EN Q2) (Rn 4 [.pv (.agg (Case.enc x0))] []) _ (pf.law567 (c:=x0) z hf pf.c499);have hcalls:=ZI (H:=cl.H) (B:=λ_ _=>none) cl.ok blk_all prim_ok (avs:=[.agg (Case.enc x0)]) (us:=[v0]) (λ_ _ _ h=>by cases h) (cT hr0 dY) hrun;refine hcalls.mono λe W' ⟨he,hb⟩=> ?_
 subst he
 exact⟨_,rfl,ZY (tb:=4) (by kernel_rfl) (by kernel_rfl) rfl rfl Tryz.underlying4 (λds hds=>by match ds,hds with
  |[a0],_=>rfl) hW' hb⟩
def fact9:((Rows.buildDescribesUptoRow.inPlace==Tryz.pinned.checked.prog.inPlace 4))=true:=by kernel_rfl
def fact10:((Rows.buildDescribesUptoRow.unfollowed==Tryz.pinned.checked.prog.unfollowed 4))=true:=by kernel_rfl
def fact11:((Rows.buildDescribesUptoRow.recurses==Tryz.pinned.checked.prog.recurses 4))=true:=by kernel_rfl
def fact12:((Rows.buildDescribesUptoRow.named==Tryz.pinned.checked.prog.varsNamed 4))=true:=by kernel_rfl
def closed:joinedFacts Tryz.pinned.checked.prog 4 Tryz.f4 (Rows.OpenSpec.upto Rows.buildDescribesSpec).bare Rows.buildDescribesUptoRow=true:=by unfold joinedFacts;exact(band (band (band (band (band (band (band (band (band (band (band (band (band (band (band (band (band (band (band (band (band (band (band (band (band (band (band (band (band (band (band (by kernel_rfl) cl.fact1) cl.fact2) (by kernel_rfl)) (by kernel_rfl)) (by kernel_rfl)) cl.fact6) (by kernel_rfl)) cl.fact8) fact9) fact10) fact11) fact12) (by kernel_rfl)) (by kernel_rfl)) (by kernel_rfl)) (by kernel_rfl)) (by kernel_rfl)) (by kernel_rfl)) (by kernel_rfl)) (by kernel_rfl)) (by kernel_rfl)) cl.fact22) (by kernel_rfl)) cl.fact24) cl.fact25) cl.fact26) cl.fact27) (by kernel_rfl)) (by kernel_rfl)) (by kernel_rfl)) (by kernel_rfl))
def ado (os:Os):laidMet Tryz.prog Rows.buildDescribesUptoRow.laid ((Gb os).forCall (λ_ _=>0) ⟨#[], #[.agg #[.slice none 0 0, .slice none 0 0, .int .i64 0, .string ⟨#[]⟩, .slice none 0 0, .slice none 0 0, .int .i64 0, .string ⟨#[]⟩, .slice none 0 0, .slice none 0 0, .slice none 0 0]],[]⟩).memory:=
 laidMet_of_run' 8 (by kernel_rfl) (by kernel_rfl)
def reads (os:Os) {H:Type} (enc:TypeId×Value->H):∃places,DataW.whole enc Tryz.prog ((Gb os).forCall (λ_ _=>0) ⟨#[], #[.agg #[.slice none 0 0, .slice none 0 0, .int .i64 0, .string ⟨#[]⟩, .slice none 0 0, .slice none 0 0, .int .i64 0, .string ⟨#[]⟩, .slice none 0 0, .slice none 0 0, .slice none 0 0]],[]⟩).memory Tryz.f4.params.toList Rows.buildDescribesSpec.vars false (#[.agg #[.slice none 0 0, .slice none 0 0, .int .i64 0, .string ⟨#[]⟩, .slice none 0 0, .slice none 0 0, .int .i64 0, .string ⟨#[]⟩, .slice none 0 0, .slice none 0 0, .slice none 0 0]]:Array Value).toList 8=some ([.agg [.nil, .nil, .agg [.lit (.int .i64 0), .lit (.string []), .nil, .nil], .agg [.lit (.int .i64 0), .lit (.string []), .nil, .nil], .agg [.nil]]],[],places):=
 ⟨[],by kernel_rfl⟩
def lifted (os:Os) (started:os.Started) (H:Type) (enc:TypeId×Value->H) (F:Stop.Interp):
  ReturnsInHanded {} Tryz.checked os 4 .any ((Rows.OpenSpec.upto Rows.buildDescribesSpec).preRow enc Tryz.prog Tryz.f4 Rows.buildDescribesUptoRow.domain false Rows.buildDescribesUptoRow.laid) (((Rows.OpenSpec.upto Rows.buildDescribesSpec).at F).post enc Tryz.prog Tryz.f4 false true false false):=by
 obtain⟨places,hx⟩:=reads os enc;refine returnsInHanded_of_row (C:=Tryz.checked) (s:=Rows.OpenSpec.upto Rows.buildDescribesSpec) own started (by kernel_rfl) Tryz.func4
  (witness_row_at (enc:=enc) (C:=Tryz.checked) false (Gb os) #[.agg #[.slice none 0 0, .slice none 0 0, .int .i64 0, .string ⟨#[]⟩, .slice none 0 0, .slice none 0 0, .int .i64 0, .string ⟨#[]⟩, .slice none 0 0, .slice none 0 0, .slice none 0 0]] rfl (by kernel_rfl) (by kernel_rfl) (by kernel_rfl)
   (OpenSpec.preRow_of_cond 8 hx (by kernel_rfl) (λk hk=>by cases hk;kernel_rfl) (by kernel_rfl) (ado os))) ?_
 intro W base args ds gs before hval hW _ Az _ hL _ _;exact contract H enc W base args ds gs before (Az _ rfl) hval hW hL
def named:Tryz.pinned.checked.prog.funcNamed Rows.buildDescribesUptoRow.func=some 4:=by kernel_rfl
def isInst:Tryz.f4.isInstance Tryz.pinned.checked.prog Rows.buildDescribesUptoRow.origin Rows.buildDescribesUptoRow.targs:=lX (by kernel_rfl)
def isWrap:Tryz.f4.isWrapper Tryz.pinned.checked.prog Rows.buildDescribesUptoRow.wrapper Rows.buildDescribesUptoRow.mainSum:=by unfold Func.isWrapper;first|(rw[aB (by decide+kernel)];kernel_rfl)|(rw[az (by decide+kernel)];exact⟨rfl,rfl⟩)
def wfText:Rows.buildDescribesUptoRow.wfByText (Rows.OpenSpec.upto Rows.buildDescribesSpec)=true:=by kernel_rfl
def goes:false=Rows.buildDescribesUptoRow.goesBy Tryz.pinned.checked.prog:=cl.goes_none cl.no_go _ _
def said:Rows.BuildDescribesUptoSaid:=
 OpenClaim.holds_of_cond 4 Tryz.f4 rfl rfl rfl rfl rfl rfl rfl ⟨rfl,rfl,rfl,rfl,rfl⟩ rfl rfl rfl rfl rfl named Tryz.func4 closed isInst isWrap
  (λos started H enc _ F=>by rw[OpenClaim.pre_eq_preRow];exact lifted os started H enc F)
theorem plain (f:FuncId) (fn:Func) (hf:Tryz.pinned.checked.prog.funcNamed "grammarlab/grammarlablaw20.BuildDescribes" =some f) (hfn:Tryz.pinned.checked.prog.funcs[f]? =some fn):
  false=Tryz.pinned.checked.prog.looks []/\∀(j:Nat) t,fn.params[j]? =some t->Tryz.pinned.checked.prog.wantsStandIn t=false:=by
 obtain rfl:f=4:=fR ((show Tryz.prog.funcNamed "grammarlab/grammarlablaw20.BuildDescribes" =some 4 by kernel_rfl).symm.trans hf)|>.symm;obtain rfl:fn=Tryz.f4:=(fR (Tryz.func4.symm.trans hfn)).symm;refine⟨by kernel_rfl,λj t ht=> ?_⟩;rw[Tryz.params4] at ht;have ht':t∈(#[32]:Array TypeId):=Array.mem_of_getElem? ht;simp only[Array.mem_def,aS,nG,pZ] at ht';subst ht';exact(show Tryz.prog.wantsStandIn 32=false by kernel_rfl)
def card:Rows.BuildDescribesUptoCardSaid:=
 Claim7.holds_tied_plain_at .later [] _ _ _ _ said (λ_ h=>by cases h) wfText (λ_ h=>by cases h) buildDescribesUpto_row_tie rfl ⟨rfl,rfl⟩ mainIs rfl plain goes
end Go.Proofs.YthphfjcnkinkpaaGreatDoor.cl4
namespace Go.Proofs.YthphfjcnkinkpaaGreatDoor
theorem buildDescribes_upto:Rows.BuildDescribesUptoCardSaid:=cl4.card
#print axioms buildDescribes_upto
