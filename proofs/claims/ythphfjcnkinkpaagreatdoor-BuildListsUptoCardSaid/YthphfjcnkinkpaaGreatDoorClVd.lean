/- The hierarchy of the prelude, as data. -/
import Derived.Test.YthphfjcnkinkpaaGreatDoorClUh
import Derived.Test.YthphfjcnkinkpaaGreatDoorClEa
set_option linter.all false
set_option maxRecDepth 100000
namespace Go.Proofs.YthphfjcnkinkpaaGreatDoor.cl.pf
open Go Go.AM
def Xj:x7 []≠0:=by
 have h:IX ([]:List aC)=1:=by unfold IX;rw[az (by decide),az (by decide),az (by decide),aB (by decide)]
 unfold x7;rw[aB (by rw[h];decide),h];decide
def c403P:f403 []=some (sg Bn):=by refine e403 ?_;rw[cond_pos (by rfl),c332 ⟨ai,λt l=>by cases l⟩ ai (λt l=>by cases l),aj,az Xj,cond_neg (by simpa using Xj),c327,aj,x332,aj]
def tyL:List (List UInt8×Nat×List Nat×List (Nat×Nat)):=[
 ([116,111,112],8191,[],[]),([105,110,100,101,120],60,[0],[]),([108,105,115,116],193,[0],[]),([99,111,110,115],1,[2],[(2,0),(10,2)]),
 ([100,108,105,115,116],2,[0],[(6,2),(7,2)]),([101,110,116,105,116,121],4,[1],[]),([101,118,101,110,116],8,[1],[]),([104,97,110,100,108,101],16,[1],[]),
 ([110,117,108,108],128,[2],[]),([113,101,113],256,[0],[(3,7),(8,7)]),([114,101,108],512,[0],[(5,7)]),([115,101,109],1024,[0],[(1,4),(4,1),(9,4),(12,7)]),([115,105,103,110],2048,[0],[(0,2),(11,11)])]
def ftL:List (List UInt8×Nat):=[([65,82,71,83],12),([67,79,78,83],11),([70,73,82,83,84],3),([72,73,71,72],9),([73,78,68,69,88],11),([76,65,66,69,76],10),([76,65,83,84],4),([76,73,83,84],4),([76,79,87],9),([82,69,76,83],11),([82,69,83,84],3),([83,69,77],12),([84,79,80],11)]
def nI (n:Nat):AV:= .int .i64 n
def nB (n:Nat):AV:= .dD 1 [[.int .u64 n]]
def nL (l:List Nat):AV:= .dD 1 (l.map λn=>[nI n])
def nA (l:List (Nat×Nat)):AV:= .dD 2 (l.map λp=>[nI p.1,nI p.2])
def hieA:AV:= .agg [.dD 4 (tyL.map λt=>[.str t.1,nB t.2.1,nL t.2.2.1,nA t.2.2.2]), .dD 2 (ftL.map λt=>[.str t.1,nI t.2])]
def hieP:EN Q0 (sg Bn)=(hieA,[]):=by
 have l:eL Bn=EP:=(Kg atP.hl).trans atP.eL;have e:sg Bn=⟨(List.range 13).map (λi=>(⟨(EP.getD i ([],0)).1,e1 ((EP.map (·.2)).getD i 0),cast (aeh (EP.map (·.2)) i),ad6 Bn (leT TP) EP ((EP.map (·.2)).getD i 0) GP 0⟩:fK)),OP Bn (leT TP) EP⟩:=by
  unfold sg;rw[lenP,atP.feats];congr 1;refine gP λi _=> ?_
  unfold W0 adO;rw[l,tysP,ftsP,atP.row (Oa okP.fd)]
 refine Eq.trans (aP (EN Q0) e) ?_;kernel_rfl
def ent5:aaM 5 [([.dD 3 []],hieA)]:=λe l=>by rw[cz.1 l];exact(iZ _ _ _ c403P).trans (aP some hieP)
