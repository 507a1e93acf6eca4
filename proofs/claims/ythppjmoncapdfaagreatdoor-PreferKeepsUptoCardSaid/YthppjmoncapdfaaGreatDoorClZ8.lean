/-
  PROVED: for every input of bulk at most 1048576 the law PreferKeeps returns true and leaves its arguments as they read; math/bits' table holds what the program's text lays.
-/
import Derived.Test.YthppjmoncapdfaaGreatDoorClQb
import Derived.Test.YthppjmoncapdfaaGreatDoorClW
import Derived.Test.YthppjmoncapdfaaGreatDoorClV
set_option linter.all false
set_option maxRecDepth 100000
namespace Go.Proofs.YthppjmoncapdfaaGreatDoor.cl8
open Go Go.AM Go.RowKit Go.ChangeShapes Go.WideShapes Go.ChangeAt Go.Proofs.YthppjmoncapdfaaGreatDoor.cl
def contract (H:Type) (enc:TypeId×Value->H) (W:World) (base:Nat) (args:Array Value) (ds gs:List (DataW H)) (before:List MemPlace)
  (hk:Rows.uptoSmall H (ds++gs)=true) (hval:∀(j:Nat) t v,Tryz.f8.params[j]? =some t->args[j]? =some v->Value.okWide Tryz.prog W .any base t v)
  (hW:DataW.Whole enc Tryz.prog Tryz.f8.params.toList Rows.preferKeepsSpec.vars false W args.toList ds gs before) (hL:laidMetH Tryz.prog Rows.preferKeepsUptoRow.laid W):
  Calls Tryz.prog 8 args W λe W'=>∃v,e= .returned v/\Rows.preferKeepsSpec.post enc Tryz.prog Tryz.f8 false true false false W args v W':=by
 have hW':=hW;obtain⟨p,q,hA0,hV,rfl,hfz,hnd⟩:=hW;have hA:DataW.TrodAll enc Tryz.prog W 0 (λ_=>true) true Tryz.f8.params.toList args.toList ds p:=hA0;rw[Tryz.params8] at hA hval;obtain⟨v0,vs0,d0,ds0,p0,q0,hargs,rfl,rfl,h0,r0⟩:=trodAll_cons hA;obtain⟨v1,vs1,d1,ds1,p1,q1,rfl,rfl,rfl,h1,r1⟩:=trodAll_cons r0;obtain⟨v2,vs2,d2,ds2,p2,q2,rfl,rfl,rfl,h2,r2⟩:=trodAll_cons r1;obtain⟨rfl,rfl,rfl⟩:=trodAll_nil r2;obtain rfl:args= #[v0,v1,v2]:=by cases args;simp_all
 obtain⟨rfl,rfl⟩:=trodVars_none hV;obtain⟨x0,TR,hb⟩:=wK (hval 0 30 v0 rfl rfl) h0;obtain⟨_,⟨x1,rfl⟩,X9,_,_⟩:=Dd Tryz.underlying24 (hval 1 24 v1 rfl rfl) h1 YC;obtain⟨x2,VY⟩:=GM (hval 2 28 v2 rfl rfl) h2;have hsum:Rows.uptoBulkAll ([d0,d1,d2]++[])<=1048576:=fO hk;simp only[eU,dh,Rows.uptoBulkAll] at hsum;obtain⟨z,hf⟩:=Sc (d:=x0) (by omega);have hrun:run P cl.H eX 8 [.pv (.dK 3 (x0.map aB.enc)), .pv (.agg (FSt.enc x1)), .pv (.dK 1 (x2.map FSt.enc))] []=some (.bool true,[]):=iU (EN Q0) (Rn 8 [.pv (.dK 3 (x0.map aB.enc)), .pv (.agg (FSt.enc x1)), .pv (.dK 1 (x2.map FSt.enc))] []) _ (pf.law397 z hf x1 x2);have yB:=wV (H:=cl.H) cl.ok (Di sN (by kernel_rfl)) sN (Vv:=[.dK 3 (x0.map aB.enc), .agg (FSt.enc x1), .dK 1 (x2.map FSt.enc)]) (us:=[v0,v1,v2]) (Ev hL) (bN TR (bN X9 (bN VY dg))) hrun;refine yB.mono λe W' ⟨he,hb⟩=> ?_
 subst he
 exact⟨_,rfl,xd (tb:=4) (by kernel_rfl) (by kernel_rfl) rfl rfl Tryz.underlying4 (λds hds=>by match ds,hds with
  |[a0,a1,a2],_=>rfl) hW' hb⟩
def Dy:((Rows.preferKeepsUptoRow.inPlace==Tryz.pinned.checked.prog.inPlace 8))=true:=by kernel_rfl
def yw:((Rows.preferKeepsUptoRow.unfollowed==Tryz.pinned.checked.prog.unfollowed 8))=true:=by kernel_rfl
def yx:((Rows.preferKeepsUptoRow.recurses==Tryz.pinned.checked.prog.recurses 8))=true:=by kernel_rfl
def yy:((Rows.preferKeepsUptoRow.named==Tryz.pinned.checked.prog.varsNamed 8))=true:=by kernel_rfl
def closed:joinedFacts Tryz.pinned.checked.prog 8 Tryz.f8 (Rows.OpenSpec.upto Rows.preferKeepsSpec).bare Rows.preferKeepsUptoRow=true:=by unfold joinedFacts;exact(band (band (band (band (band (band (band (band (band (band (band (band (band (band (band (band (band (band (band (band (band (band (band (band (band (band (band (band (band (band (band (by kernel_rfl) cl.fact1) cl.fact2) (by kernel_rfl)) (by kernel_rfl)) (by kernel_rfl)) cl.fact6) (by kernel_rfl)) cl.fact8) Dy) yw) yx) yy) (by kernel_rfl)) (by kernel_rfl)) (by kernel_rfl)) (by kernel_rfl)) (by kernel_rfl)) (by kernel_rfl)) (by kernel_rfl)) (by kernel_rfl)) (by kernel_rfl)) cl.fact22) (by kernel_rfl)) cl.fact24) cl.fact25) cl.fact26) cl.fact27) (by kernel_rfl)) (by kernel_rfl)) (by kernel_rfl)) (by kernel_rfl))
def rz (os:Os):laidMet Tryz.prog Rows.preferKeepsUptoRow.laid ((jf os).forCall (λ_ _=>0) ⟨#[], #[.slice none 0 0, .agg #[.slice none 0 0], .slice none 0 0],[]⟩).memory:=
 laidMet_of_run' 8 (by kernel_rfl) (by kernel_rfl)
def reads (os:Os) {H:Type} (enc:TypeId×Value->H):∃places,DataW.whole enc Tryz.prog ((jf os).forCall (λ_ _=>0) ⟨#[], #[.slice none 0 0, .agg #[.slice none 0 0], .slice none 0 0],[]⟩).memory Tryz.f8.params.toList Rows.preferKeepsSpec.vars false (#[.slice none 0 0, .agg #[.slice none 0 0], .slice none 0 0]:Array Value).toList 8=some ([.nil, .agg [.nil], .nil],[],places):=
 ⟨[],by kernel_rfl⟩
def lifted (os:Os) (started:os.Started) (H:Type) (enc:TypeId×Value->H) (F:Stop.Interp):
  ReturnsInHanded {} Tryz.checked os 8 .any ((Rows.OpenSpec.upto Rows.preferKeepsSpec).preRow enc Tryz.prog Tryz.f8 Rows.preferKeepsUptoRow.domain false Rows.preferKeepsUptoRow.laid) (((Rows.OpenSpec.upto Rows.preferKeepsSpec).at F).post enc Tryz.prog Tryz.f8 false true false false):=by
 obtain⟨places,hx⟩:=reads os enc;refine returnsInHanded_of_row (C:=Tryz.checked) (s:=Rows.OpenSpec.upto Rows.preferKeepsSpec) own started (by kernel_rfl) Tryz.func8
  (witness_row_at (enc:=enc) (C:=Tryz.checked) false (jf os) #[.slice none 0 0, .agg #[.slice none 0 0], .slice none 0 0] rfl (by kernel_rfl) (by kernel_rfl) (by kernel_rfl)
   (OpenSpec.preRow_of_cond 8 hx (by kernel_rfl) (λk hk=>by cases hk;kernel_rfl) (by kernel_rfl) (rz os))) ?_
 intro W base args ds gs before hval hW _ vI _ hL _ _;exact contract H enc W base args ds gs before (vI _ rfl) hval hW hL
def named:Tryz.pinned.checked.prog.funcNamed Rows.preferKeepsUptoRow.func=some 8:=by kernel_rfl
def yC:Tryz.f8.isInstance Tryz.pinned.checked.prog Rows.preferKeepsUptoRow.origin Rows.preferKeepsUptoRow.targs:=fO (by kernel_rfl)
def isWrap:Tryz.f8.isWrapper Tryz.pinned.checked.prog Rows.preferKeepsUptoRow.wrapper Rows.preferKeepsUptoRow.mainSum:=by unfold Func.isWrapper;first|(rw[az (by decide+kernel)];kernel_rfl)|(rw[au (by decide+kernel)];exact⟨rfl,rfl⟩)
def yZ:Rows.preferKeepsUptoRow.wfByText (Rows.OpenSpec.upto Rows.preferKeepsSpec)=true:=by kernel_rfl
def goes:false=Rows.preferKeepsUptoRow.goesBy Tryz.pinned.checked.prog:=by kernel_rfl
def said:Rows.PreferKeepsUptoSaid:=
 OpenClaim.holds_of_cond 8 Tryz.f8 rfl rfl rfl rfl rfl rfl rfl ⟨rfl,rfl,rfl,rfl,rfl⟩ rfl rfl rfl rfl rfl named Tryz.func8 closed yC isWrap
  (λos started H enc _ F=>by rw[OpenClaim.pre_eq_preRow];exact lifted os started H enc F)
def plain (f:FuncId) (fn:Func) (hf:Tryz.pinned.checked.prog.funcNamed "grammarlab/grammarlablaw18.PreferKeeps" =some f) (hfn:Tryz.pinned.checked.prog.funcs[f]? =some fn):
  false=Tryz.pinned.checked.prog.looks []/\∀(j:Nat) t,fn.params[j]? =some t->Tryz.pinned.checked.prog.wantsStandIn t=false:=by
 obtain rfl:f=8:=cU ((show Tryz.prog.funcNamed "grammarlab/grammarlablaw18.PreferKeeps" =some 8 by kernel_rfl).symm.trans hf)|>.symm;obtain rfl:fn=Tryz.f8:=(cU (Tryz.func8.symm.trans hfn)).symm;refine⟨by kernel_rfl,λj t ht=> ?_⟩;rw[Tryz.params8] at ht;have ht':t∈(#[30,24,28]:Array TypeId):=q9 ht;simp only[rf,aG,eL,eS] at ht';rcases ht' with rfl|rfl|rfl
 .exact(show Tryz.prog.wantsStandIn 30=false by kernel_rfl)
 .exact(show Tryz.prog.wantsStandIn 24=false by kernel_rfl)
 .exact(show Tryz.prog.wantsStandIn 28=false by kernel_rfl)
def card:Rows.PreferKeepsUptoCardSaid:=
 Claim7.holds_tied_plain_at .later [] _ _ _ _ said (λ_ h=>by cases h) yZ (λ_ h=>by cases h) preferKeepsUpto_row_tie rfl ⟨rfl,rfl⟩ mainIs rfl plain goes
end Go.Proofs.YthppjmoncapdfaaGreatDoor.cl8
namespace Go.Proofs.YthppjmoncapdfaaGreatDoor
theorem preferKeeps_upto:Rows.PreferKeepsUptoCardSaid:=cl8.card
#print axioms preferKeeps_upto
