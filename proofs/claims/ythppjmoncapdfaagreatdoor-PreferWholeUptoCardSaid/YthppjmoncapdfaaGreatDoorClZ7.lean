/-
  PROVED: for every input of bulk at most 1048576 the law PreferWhole returns true and leaves its arguments as they read; math/bits' table holds what the program's text lays.
-/
import Derived.Test.YthppjmoncapdfaaGreatDoorClQb
import Derived.Test.YthppjmoncapdfaaGreatDoorClW
import Derived.Test.YthppjmoncapdfaaGreatDoorClV
set_option linter.all false
set_option maxRecDepth 100000
namespace Go.Proofs.YthppjmoncapdfaaGreatDoor.cl7
open Go Go.AM Go.RowKit Go.ChangeShapes Go.WideShapes Go.ChangeAt Go.Proofs.YthppjmoncapdfaaGreatDoor.cl
def contract (H:Type) (enc:TypeId×Value->H) (W:World) (base:Nat) (args:Array Value) (ds gs:List (DataW H)) (before:List MemPlace)
  (hk:Rows.uptoSmall H (ds++gs)=true) (hval:∀(j:Nat) t v,Tryz.f7.params[j]? =some t->args[j]? =some v->Value.okWide Tryz.prog W .any base t v)
  (hW:DataW.Whole enc Tryz.prog Tryz.f7.params.toList Rows.preferWholeSpec.vars false W args.toList ds gs before) (hL:laidMetH Tryz.prog Rows.preferWholeUptoRow.laid W):
  Calls Tryz.prog 7 args W λe W'=>∃v,e= .returned v/\Rows.preferWholeSpec.post enc Tryz.prog Tryz.f7 false true false false W args v W':=by
 have hW':=hW;obtain⟨p,q,hA0,hV,rfl,hfz,hnd⟩:=hW;have hA:DataW.TrodAll enc Tryz.prog W 0 (λ_=>true) true Tryz.f7.params.toList args.toList ds p:=hA0;rw[Tryz.params7] at hA hval;obtain⟨v0,vs0,d0,ds0,p0,q0,hargs,rfl,rfl,h0,r0⟩:=trodAll_cons hA;obtain⟨v1,vs1,d1,ds1,p1,q1,rfl,rfl,rfl,h1,r1⟩:=trodAll_cons r0;obtain⟨rfl,rfl,rfl⟩:=trodAll_nil r1;obtain rfl:args= #[v0,v1]:=by cases args;simp_all
 obtain⟨rfl,rfl⟩:=trodVars_none hV;obtain⟨x0,TR,hb⟩:=wK (hval 0 30 v0 rfl rfl) h0;obtain⟨_,⟨x1,rfl⟩,X9,_,_⟩:=Dd Tryz.underlying24 (hval 1 24 v1 rfl rfl) h1 YC;have hsum:Rows.uptoBulkAll ([d0,d1]++[])<=1048576:=fO hk;simp only[eU,dh,Rows.uptoBulkAll] at hsum;obtain⟨z,hf⟩:=Sc (d:=x0) (by omega);have hrun:run P cl.H eX 7 [.pv (.dK 3 (x0.map aB.enc)), .pv (.agg (FSt.enc x1))] []=some (.bool true,[]):=iU (EN Q0) (Rn 7 [.pv (.dK 3 (x0.map aB.enc)), .pv (.agg (FSt.enc x1))] []) _ (pf.law396 z hf x1);have yB:=wV (H:=cl.H) cl.ok (Di sN (by kernel_rfl)) sN (Vv:=[.dK 3 (x0.map aB.enc), .agg (FSt.enc x1)]) (us:=[v0,v1]) (Ev hL) (bN TR (bN X9 dg)) hrun;refine yB.mono λe W' ⟨he,hb⟩=> ?_
 subst he
 exact⟨_,rfl,xd (tb:=4) (by kernel_rfl) (by kernel_rfl) rfl rfl Tryz.underlying4 (λds hds=>by match ds,hds with
  |[a0,a1],_=>rfl) hW' hb⟩
def Dy:((Rows.preferWholeUptoRow.inPlace==Tryz.pinned.checked.prog.inPlace 7))=true:=by kernel_rfl
def yw:((Rows.preferWholeUptoRow.unfollowed==Tryz.pinned.checked.prog.unfollowed 7))=true:=by kernel_rfl
def yx:((Rows.preferWholeUptoRow.recurses==Tryz.pinned.checked.prog.recurses 7))=true:=by kernel_rfl
def yy:((Rows.preferWholeUptoRow.named==Tryz.pinned.checked.prog.varsNamed 7))=true:=by kernel_rfl
def closed:joinedFacts Tryz.pinned.checked.prog 7 Tryz.f7 (Rows.OpenSpec.upto Rows.preferWholeSpec).bare Rows.preferWholeUptoRow=true:=by unfold joinedFacts;exact(band (band (band (band (band (band (band (band (band (band (band (band (band (band (band (band (band (band (band (band (band (band (band (band (band (band (band (band (band (band (band (by kernel_rfl) cl.fact1) cl.fact2) (by kernel_rfl)) (by kernel_rfl)) (by kernel_rfl)) cl.fact6) (by kernel_rfl)) cl.fact8) Dy) yw) yx) yy) (by kernel_rfl)) (by kernel_rfl)) (by kernel_rfl)) (by kernel_rfl)) (by kernel_rfl)) (by kernel_rfl)) (by kernel_rfl)) (by kernel_rfl)) (by kernel_rfl)) cl.fact22) (by kernel_rfl)) cl.fact24) cl.fact25) cl.fact26) cl.fact27) (by kernel_rfl)) (by kernel_rfl)) (by kernel_rfl)) (by kernel_rfl))
def rz (os:Os):laidMet Tryz.prog Rows.preferWholeUptoRow.laid ((jf os).forCall (λ_ _=>0) ⟨#[], #[.slice none 0 0, .agg #[.slice none 0 0]],[]⟩).memory:=
 laidMet_of_run' 8 (by kernel_rfl) (by kernel_rfl)
def reads (os:Os) {H:Type} (enc:TypeId×Value->H):∃places,DataW.whole enc Tryz.prog ((jf os).forCall (λ_ _=>0) ⟨#[], #[.slice none 0 0, .agg #[.slice none 0 0]],[]⟩).memory Tryz.f7.params.toList Rows.preferWholeSpec.vars false (#[.slice none 0 0, .agg #[.slice none 0 0]]:Array Value).toList 8=some ([.nil, .agg [.nil]],[],places):=
 ⟨[],by kernel_rfl⟩
def lifted (os:Os) (started:os.Started) (H:Type) (enc:TypeId×Value->H) (F:Stop.Interp):
  ReturnsInHanded {} Tryz.checked os 7 .any ((Rows.OpenSpec.upto Rows.preferWholeSpec).preRow enc Tryz.prog Tryz.f7 Rows.preferWholeUptoRow.domain false Rows.preferWholeUptoRow.laid) (((Rows.OpenSpec.upto Rows.preferWholeSpec).at F).post enc Tryz.prog Tryz.f7 false true false false):=by
 obtain⟨places,hx⟩:=reads os enc;refine returnsInHanded_of_row (C:=Tryz.checked) (s:=Rows.OpenSpec.upto Rows.preferWholeSpec) own started (by kernel_rfl) Tryz.func7
  (witness_row_at (enc:=enc) (C:=Tryz.checked) false (jf os) #[.slice none 0 0, .agg #[.slice none 0 0]] rfl (by kernel_rfl) (by kernel_rfl) (by kernel_rfl)
   (OpenSpec.preRow_of_cond 8 hx (by kernel_rfl) (λk hk=>by cases hk;kernel_rfl) (by kernel_rfl) (rz os))) ?_
 intro W base args ds gs before hval hW _ vI _ hL _ _;exact contract H enc W base args ds gs before (vI _ rfl) hval hW hL
def named:Tryz.pinned.checked.prog.funcNamed Rows.preferWholeUptoRow.func=some 7:=by kernel_rfl
def yC:Tryz.f7.isInstance Tryz.pinned.checked.prog Rows.preferWholeUptoRow.origin Rows.preferWholeUptoRow.targs:=fO (by kernel_rfl)
def isWrap:Tryz.f7.isWrapper Tryz.pinned.checked.prog Rows.preferWholeUptoRow.wrapper Rows.preferWholeUptoRow.mainSum:=by unfold Func.isWrapper;first|(rw[az (by decide+kernel)];kernel_rfl)|(rw[au (by decide+kernel)];exact⟨rfl,rfl⟩)
def yZ:Rows.preferWholeUptoRow.wfByText (Rows.OpenSpec.upto Rows.preferWholeSpec)=true:=by kernel_rfl
def goes:false=Rows.preferWholeUptoRow.goesBy Tryz.pinned.checked.prog:=by kernel_rfl
def said:Rows.PreferWholeUptoSaid:=
 OpenClaim.holds_of_cond 7 Tryz.f7 rfl rfl rfl rfl rfl rfl rfl ⟨rfl,rfl,rfl,rfl,rfl⟩ rfl rfl rfl rfl rfl named Tryz.func7 closed yC isWrap
  (λos started H enc _ F=>by rw[OpenClaim.pre_eq_preRow];exact lifted os started H enc F)
def plain (f:FuncId) (fn:Func) (hf:Tryz.pinned.checked.prog.funcNamed "grammarlab/grammarlablaw18.PreferWhole" =some f) (hfn:Tryz.pinned.checked.prog.funcs[f]? =some fn):
  false=Tryz.pinned.checked.prog.looks []/\∀(j:Nat) t,fn.params[j]? =some t->Tryz.pinned.checked.prog.wantsStandIn t=false:=by
 obtain rfl:f=7:=cU ((show Tryz.prog.funcNamed "grammarlab/grammarlablaw18.PreferWhole" =some 7 by kernel_rfl).symm.trans hf)|>.symm;obtain rfl:fn=Tryz.f7:=(cU (Tryz.func7.symm.trans hfn)).symm;refine⟨by kernel_rfl,λj t ht=> ?_⟩;rw[Tryz.params7] at ht;have ht':t∈(#[30,24]:Array TypeId):=q9 ht;simp only[rf,aG,eL,eS] at ht';rcases ht' with rfl|rfl
 .exact(show Tryz.prog.wantsStandIn 30=false by kernel_rfl)
 .exact(show Tryz.prog.wantsStandIn 24=false by kernel_rfl)
def card:Rows.PreferWholeUptoCardSaid:=
 Claim7.holds_tied_plain_at .later [] _ _ _ _ said (λ_ h=>by cases h) yZ (λ_ h=>by cases h) preferWholeUpto_row_tie rfl ⟨rfl,rfl⟩ mainIs rfl plain goes
end Go.Proofs.YthppjmoncapdfaaGreatDoor.cl7
namespace Go.Proofs.YthppjmoncapdfaaGreatDoor
theorem preferWhole_upto:Rows.PreferWholeUptoCardSaid:=cl7.card
#print axioms preferWhole_upto
