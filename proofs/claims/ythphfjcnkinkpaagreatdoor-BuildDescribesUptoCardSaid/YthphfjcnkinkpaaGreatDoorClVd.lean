/- The hierarchy of the prelude, as data. -/
import Derived.Test.YthphfjcnkinkpaaGreatDoorClUd
import Derived.Test.YthphfjcnkinkpaaGreatDoorClEa
set_option linter.all false
set_option maxRecDepth 100000
namespace Go.Proofs.YthphfjcnkinkpaaGreatDoor.cl.pf
open Go Go.AM
def Xf:xN []≠0:=by
 have h:Ir ([]:List aC)=1:=by unfold Ir;rw[az (by decide),az (by decide),az (by decide),aB (by decide)]
 unfold xN;rw[aB (by rw[h];decide),h];decide
def c403P:f403 []=some (sk AU):=by refine e403 ?_;rw[cond_pos (by rfl),c332 ⟨ai,λt l=>by cases l⟩ ai (λt l=>by cases l),aj,az Xf,cond_neg (by simpa using Xf),c327,aj,x332,aj]
def tyL:List (List UInt8×Nat×List Nat×List (Nat×Nat)):=[
 ([116,111,112],8191,[],[]),([105,110,100,101,120],60,[0],[]),([108,105,115,116],193,[0],[]),([99,111,110,115],1,[2],[(2,0),(10,2)]),
 ([100,108,105,115,116],2,[0],[(6,2),(7,2)]),([101,110,116,105,116,121],4,[1],[]),([101,118,101,110,116],8,[1],[]),([104,97,110,100,108,101],16,[1],[]),
 ([110,117,108,108],128,[2],[]),([113,101,113],256,[0],[(3,7),(8,7)]),([114,101,108],512,[0],[(5,7)]),([115,101,109],1024,[0],[(1,4),(4,1),(9,4),(12,7)]),([115,105,103,110],2048,[0],[(0,2),(11,11)])]
def ftL:List (List UInt8×Nat):=[([65,82,71,83],12),([67,79,78,83],11),([70,73,82,83,84],3),([72,73,71,72],9),([73,78,68,69,88],11),([76,65,66,69,76],10),([76,65,83,84],4),([76,73,83,84],4),([76,79,87],9),([82,69,76,83],11),([82,69,83,84],3),([83,69,77],12),([84,79,80],11)]
def nI (n:Nat):AV:= .int .i64 n
def nB (n:Nat):AV:= .dG 1 [[.int .u64 n]]
def nL (l:List Nat):AV:= .dG 1 (l.map λn=>[nI n])
def nA (l:List (Nat×Nat)):AV:= .dG 2 (l.map λp=>[nI p.1,nI p.2])
def hieA:AV:= .agg [.dG 4 (tyL.map λt=>[.str t.1,nB t.2.1,nL t.2.2.1,nA t.2.2.2]), .dG 2 (ftL.map λt=>[.str t.1,nI t.2])]
def hieP:EN Q0 (sk AU)=(hieA,[]):=by
 have l:eS AU=EP:=(JL atP.hl).trans atP.eS;have e:sk AU=⟨(List.range 13).map (λi=>(⟨(EP.getD i ([],0)).1,e1 ((EP.map (·.2)).getD i 0),cast (ad8 (EP.map (·.2)) i),ad0 AU (leT TP) EP ((EP.map (·.2)).getD i 0) GP 0⟩:fM)),Ow AU (leT TP) EP⟩:=by
  unfold sk;rw[lenP,atP.feats];congr 1;refine iE λi _=> ?_
  unfold WV adI;rw[l,tysP,ftsP,atP.row (NK okP.fd)]
 refine Eq.trans (aU (EN Q0) e) ?_;kernel_rfl
def ent5:aau 5 [([.dG 3 []],hieA)]:=λe l=>by rw[cQ.1 l];exact(jM _ _ _ c403P).trans (aU some hieP)
