/- The hierarchy of the prelude. -/
import Derived.Test.YthppjmoncapdfaaGreatDoorClEa
import Derived.KernelRfl
set_option linter.all false
namespace Go.Proofs.YthppjmoncapdfaaGreatDoor.cl.pf
open Go Go.AM
def Ra:List (List UInt8×Nat×List Nat×List (Nat×Nat)):=[
 ([116,111,112],8191,[],[]),([105,110,100,101,120],60,[0],[]),([108,105,115,116],193,[0],[]),([99,111,110,115],1,[2],[(2,0),(10,2)]),
 ([100,108,105,115,116],2,[0],[(6,2),(7,2)]),([101,110,116,105,116,121],4,[1],[]),([101,118,101,110,116],8,[1],[]),([104,97,110,100,108,101],16,[1],[]),
 ([110,117,108,108],128,[2],[]),([113,101,113],256,[0],[(3,7),(8,7)]),([114,101,108],512,[0],[(5,7)]),([115,101,109],1024,[0],[(1,4),(4,1),(9,4),(12,7)]),([115,105,103,110],2048,[0],[(0,2),(11,11)])]
def ftL:List (List UInt8×Nat):=[([65,82,71,83],12),([67,79,78,83],11),([70,73,82,83,84],3),([72,73,71,72],9),([73,78,68,69,88],11),([76,65,66,69,76],10),([76,65,83,84],4),([76,73,83,84],4),([76,79,87],9),([82,69,76,83],11),([82,69,83,84],3),([83,69,77],12),([84,79,80],11)]
def nI (n:Nat):AV:= .int .i64 n
def nB (n:Nat):AV:= .c4 1 [[.int .u64 n]]
def nL (l:List Nat):AV:= .c4 1 (l.map λn=>[nI n])
def nS (l:List (List UInt8)):AV:= .c4 1 (l.map iP)
def nA (l:List (Nat×Nat)):AV:= .c4 2 (l.map λp=>[nI p.1,nI p.2])
noncomputable def Fg:AV:=match kH P H dm 20 40 [] [] with
 |some (v,_)=>v
 |none=> .nw
def allA:AV:=nS (jB Op.bytesLess (Ra.map (·.1)))
def TJ:AV:= .c4 2 (Ra.map λt=>[.str t.1,nB t.2.1])
def valA:AV:= .c4 1 (Ra.map λt=>[nA t.2.2.2])
def VU:AV:= .c4 2 (ftL.map λt=>[.str t.1,nI t.2])
def ok0 (a:AV):AV:= .jy [a,nI 0]
def We:AV:= .agg [.c4 4 (Ra.map λt=>[.str t.1,nB t.2.1,nL t.2.2.1,nA t.2.2.2]),VU]
def e159:List (List AV×AV):=Ra.map λt=>([nB t.2.1],nI (eX 64 t.2.1))
noncomputable def e98:List (List AV×AV):=Ra.map λt=>([Fg,allA, .str t.1],nB t.2.1)
noncomputable def e96:List (List AV×AV):=[([Fg],nI 0)]
noncomputable def e64:List (List AV×AV):=[([Fg],ok0 TJ)]
noncomputable def e94 (a n:Nat):List (List AV×AV):=((List.range 13).drop a).take n|>.flatMap λi=>(List.range 13).map λj=>
 ([Fg,TJ,nI i, .str (ftL.getD j ([],0)).1],match find (Ra.getD i ([],0,[],[])).2.2.2 j with
  |some v=> .jy [nB (Ra.getD v ([],0,[],[])).2.1, .bool true]
  |none=> .jy [nB 8191, .bool false])
noncomputable def e103:List (List AV×AV):=ftL.map λt=>([Fg, .str t.1], .jy [.str (Ra.getD t.2 ([],0,[],[])).1, .bool true])
noncomputable def e92:List (List AV×AV):=[([Fg],nI 0)]
noncomputable def e63:List (List AV×AV):=[([Fg],ok0 valA)]
noncomputable def e66:List (List AV×AV):=[([Fg],ok0 VU)]
def e65:List (List AV×AV):=(List.range 13).map λi=>([TJ,nI i],nL (Ra.getD i ([],0,[],[])).2.2.1)
noncomputable def e39:List (List AV×AV):=[([Fg],ok0 We)]
def nF (l:List (Nat×List (Nat×Nat))):AV:= .agg [.c4 2 (l.map λn=>[nI n.1,nA n.2])]
def e12:List (List AV×AV):=[([nF [(3,[(0,1),(1,1)]),(5,[])]], .c4 1 ([[(3,[])],[(0,[(0,1)]),(5,[])],[(0,[(0,1),(1,1)]),(0,[])]].map λf=>(nF f).cells)),
 ([nF [(0,[(5,1)]),(6,[])]], .c4 1 ([[(0,[])],[(0,[(5,1)]),(6,[])]].map λf=>(nF f).cells))]
def e14:List (List AV×AV):=[([.c4 3 []],We)]
noncomputable def T1:cr:=add 159 e159 λ_ _ _=>none
noncomputable def T2:cr:=add 98 e98 T1
noncomputable def T3:cr:=add 96 e96 T2
noncomputable def T4:cr:=add 64 e64 T3
noncomputable def T8:cr:=add 94 (e94 0 4) (add 94 (e94 4 3) (add 94 (e94 7 3) (add 94 (e94 10 3) T4)))
noncomputable def T9:cr:=add 103 e103 T8
noncomputable def T10:cr:=add 92 e92 T9
noncomputable def T11:cr:=add 63 e63 T10
noncomputable def T12:cr:=add 66 e66 T11
noncomputable def T13:cr:=add 65 e65 T12
noncomputable def T14:cr:=add 39 e39 T13
noncomputable def T15:cr:=add 14 e14 T14
noncomputable def T16:cr:=add 12 e12 T15
