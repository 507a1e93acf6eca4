/- The functions and loops as plain ones, by program (decomp4.p. -/
import Derived.Test.YthppjmoncapdfaaGreatDoorClT
set_option linter.unusedVariables false
set_option linter.unusedSimpArgs false
set_option maxRecDepth 100000
namespace Go.Proofs.YthppjmoncapdfaaGreatDoor.cl
noncomputable section
open Go Go.AM
abbrev f392 (f0:FSt):Option Bool:=dec (EN Q0) (Rn 3 [(.pv (.agg (FSt.enc f0)))] [])
abbrev f398 (f0:FSt):Option Bool:=dec (EN Q0) (Rn 9 [(.pv (.agg (FSt.enc f0)))] [])
abbrev DL (i3:Int) (o1:FSt):Option Bool:=dec (EN Q0) (hT 9 4 [] [(1,(.ptr 1 0)),(3,(pI i3))] [(1,(.box 24 (List.map .pv (FSt.enc o1))))])
abbrev HU (i3 k4:Int) (o1:FSt):Option Bool:=dec (EN Q0) (hT 9 9 [] [(1,(.ptr 1 0)),(3,(pI i3)),(4,(pI k4))] [(1,(.box 24 (List.map .pv (FSt.enc o1))))])
abbrev f399 :Option Bool:=dec (EN Q0) (Rn 10 [] [])
abbrev f402 (a0 b1:List FSt):Option Bool:=dec (EN Q0) (Rn 11 [(.pv (.aW 1 (List.map FSt.enc a0))),(.pv (.aW 1 (List.map FSt.enc b1)))] [])
abbrev H7 (a0 b1:List FSt) (i5:Int):Option Bool:=dec (EN Q0) (hT 11 4 [] [(0,(.pv (.aW 1 (List.map FSt.enc a0)))),(1,(.pv (.aW 1 (List.map FSt.enc b1)))),(5,(pI i5))] [])
abbrev f400 (f0:FSt):Option (List FSt):=dec (EN Q1) (Rn 12 [(.pv (.agg (FSt.enc f0)))] [])
abbrev HW (v12:List (List Int)) (rB yU:Int) (o1:FSt) (o3:List FSt):Option (List FSt):=dec (EN Q1) (hT 12 3 [] [(1,(.ptr 1 0)),(3,(.row 3)),(12,(.pv (.aW 1 (List.map (bD 1 (aD .i64)) v12)))),(13,(pI rB)),(14,(pI yU))] [(1,(.box 24 (List.map .pv (FSt.enc o1)))),(3,(.row 24 1 (List.map FSt.enc o3)))])
abbrev HY (v36:List bg) (v37 v38:Int) (o3:List FSt) (o6:bq):Option (List FSt):=dec (EN Q1) (hT 12 9 [] [(3,(.row 3)),(6,(.ptr 6 0)),(36,(.pv (.aW 2 (List.map bg.enc v36)))),(37,(pI v37)),(38,(pI v38))] [(3,(.row 24 1 (List.map FSt.enc o3))),(6,(.box 34 (List.map .pv (bq.enc o6))))])
abbrev f401 (f0:FSt):Option (List FSt):=dec (EN Q1) (Rn 13 [(.pv (.agg (FSt.enc f0)))] [])
abbrev HZ (y8:List (List Int)) (i5:Int) (o1:FSt) (o3:List FSt):Option (List FSt):=dec (EN Q1) (hT 13 4 [] [(1,(.ptr 1 0)),(3,(.row 3)),(4,(.pv (.aW 1 (List.map (bD 1 (aD .i64)) y8)))),(5,(pI i5))] [(1,(.box 24 (List.map .pv (FSt.enc o1)))),(3,(.row 24 1 (List.map FSt.enc o3)))])
abbrev H6 (l6:List bg) (i7:Int) (o3:List FSt):Option (List FSt):=dec (EN Q1) (hT 13 9 [] [(3,(.row 3)),(6,(.pv (.aW 2 (List.map bg.enc l6)))),(7,(pI i7))] [(3,(.row 24 1 (List.map FSt.enc o3)))])
abbrev f407 (a0 b1:FSt):Option Bool:=dec (EN Q0) (Rn 16 [(.pv (.agg (FSt.enc a0))),(.pv (.agg (FSt.enc b1)))] [])
abbrev f409 (f0:FSt):Option (List bg):=dec (EN Q4) (Rn 22 [(.pv (.agg (FSt.enc f0)))] [])
abbrev DM (eC:List (List Int)) (n5:Int) (o1:FSt) (o4:List bg):Option (List bg):=dec (EN Q4) (hT 22 4 [] [(1,(.ptr 1 0)),(3,(.pv (.aW 1 (List.map (bD 1 (aD .i64)) eC)))),(4,(.row 4)),(5,(pI n5))] [(1,(.box 24 (List.map .pv (FSt.enc o1)))),(4,(.row 65 2 (List.map bg.enc o4)))])
abbrev zZ (eC:List (List Int)) (n5:Int) (l6:List aF) (k7:Int) (o1:FSt) (o4:List bg):Option (List bg):=dec (EN Q4) (hT 22 8 [] [(1,(.ptr 1 0)),(3,(.pv (.aW 1 (List.map (bD 1 (aD .i64)) eC)))),(4,(.row 4)),(5,(pI n5)),(6,(.pv (.aW 2 (List.map aF.enc l6)))),(7,(pI k7))] [(1,(.box 24 (List.map .pv (FSt.enc o1)))),(4,(.row 65 2 (List.map bg.enc o4)))])
abbrev f413 (f0:FSt):Option Bool:=dec (EN Q0) (Rn 26 [(.pv (.agg (FSt.enc f0)))] [])
abbrev H8 (i3:Int) (o1:FSt):Option Bool:=dec (EN Q0) (hT 26 4 [] [(1,(.ptr 1 0)),(3,(pI i3))] [(1,(.box 24 (List.map .pv (FSt.enc o1))))])
abbrev f421 (f0:FSt):Option (FSt×Int):=dec (EN Q10) (Rn 27 [(.pv (.agg (FSt.enc f0)))] [])
abbrev f414 (t0:Int):Option FSt:=dec (EN Q3) (Rn 28 [(pI t0)] [])
abbrev f415 (f0:FSt):Option (List (List Int)):=dec (EN Q6) (Rn 29 [(.pv (.agg (FSt.enc f0)))] [])
abbrev f426 (p0:List Int) (f1:FSt):Option FSt:=dec (EN Q3) (Rn 30 [(pN p0),(.pv (.agg (FSt.enc f1)))] [])
abbrev Ia (p0 rB:List Int) (yU od:Int) (o3 o4:FSt) (bU:List Node):Option FSt:=dec (EN Q3) (hT 30 3 [] [(0,(pN p0)),(3,(.ptr 3 0)),(4,(.ptr 4 0)),(5,(.ptr 5 0)),(13,(pN rB)),(14,(pI yU)),(15,(pI od))] [(3,(.box 24 (List.map .pv (FSt.enc o3)))),(4,(.box 24 (List.map .pv (FSt.enc o4)))),(5,(.box 24 [(.row 5080)])),(5080,(.row 52 2 (List.map Node.enc bU)))])
abbrev Ib (p0:List Int) (v33:List Node) (Nv v35:Int) (o3 o4:FSt) (bU:List Node):Option FSt:=dec (EN Q3) (hT 30 8 [] [(0,(pN p0)),(4,(.ptr 4 0)),(5,(.ptr 5 0)),(33,(.pv (.aW 2 (List.map Node.enc v33)))),(34,(pI Nv)),(35,(pI v35))] [(3,(.box 24 (List.map .pv (FSt.enc o3)))),(4,(.box 24 (List.map .pv (FSt.enc o4)))),(5,(.box 24 [(.row 5080)])),(5080,(.row 52 2 (List.map Node.enc bU)))])
abbrev BF (p0:List Int) (v33:List Node) (Nv v35:Int) (yM:List aF) (v44 v45:Int) (o3 o4:FSt) (o9:Node) (rW:Int) (bU:List Node) (Fe nV:List aF):Option FSt:=dec (EN Q3) (hT 30 12 [] [(0,(pN p0)),(4,(.ptr 4 0)),(5,(.ptr 5 0)),(10,(.ptr 10 0)),(33,(.pv (.aW 2 (List.map Node.enc v33)))),(34,(pI Nv)),(35,(pI v35)),(43,(.pv (.aW 2 (List.map aF.enc yM)))),(44,(pI v44)),(45,(pI v45))] [(3,(.box 24 (List.map .pv (FSt.enc o3)))),(4,(.box 24 (List.map .pv (FSt.enc o4)))),(5,(.box 24 [(.row 5080)])),(9,(.box 52 (List.map .pv (Node.enc o9)))),(10,(.box 52 [(pI rW),(.row 5657)])),(5080,(.row 52 2 (List.map Node.enc bU))),(5161,(.row 54 2 (List.map aF.enc Fe))),(5657,(.row 54 2 (List.map aF.enc nV)))])
abbrev f425 (t0:Int):Option FSt:=dec (EN Q3) (Rn 31 [(pI t0)] [])
abbrev f428 (F8:Int):Option bq:=dec (EN Q2) (Rn 32 [(pI F8)] [])
abbrev Ii (v8 v9:Int) (o2:bq) (TT:List UInt8) (OB:List sB) (OC:List aK) (Kf:List sB) (Di:List aK):Option bq:=dec (EN Q2) (hT 32 3 [] [(2,(.ptr 2 0)),(3,(.ptr 3 0)),(8,(pI v8)),(9,(pI v9))] [(2,(.box 34 (List.map .pv (bq.enc o2)))),(3,(.box 90 [(.pv (.str TT)),(.row 5113),(.row 5114)])),(5049,(oS OB)),(5050,(.row 93 2 (List.map aK.enc OC))),(5113,(oS Kf)),(5114,(.row 93 2 (List.map aK.enc Di)))])
abbrev f427 (f0:FSt):Option Int:=dec (EN Q5) (Rn 33 [(.pv (.agg (FSt.enc f0)))] [])
abbrev DO (n3:Int) (v9:List Node) (v10 v11:Int) (o1:FSt):Option Int:=dec (EN Q5) (hT 33 3 [] [(3,(pI n3)),(9,(.pv (.aW 2 (List.map Node.enc v9)))),(10,(pI v10)),(11,(pI v11))] [(1,(.box 24 (List.map .pv (FSt.enc o1))))])
abbrev Ie (n3:Int) (v9:List Node) (v10 v11:Int) (nM:List aF) (v17 DZ:Int) (o1:FSt) (o5:Node):Option Int:=dec (EN Q5) (hT 33 6 [] [(3,(pI n3)),(9,(.pv (.aW 2 (List.map Node.enc v9)))),(10,(pI v10)),(11,(pI v11)),(16,(.pv (.aW 2 (List.map aF.enc nM)))),(17,(pI v17)),(18,(pI DZ))] [(1,(.box 24 (List.map .pv (FSt.enc o1)))),(5,(.box 52 (List.map .pv (Node.enc o5))))])
abbrev f429 (f0:FSt):Option (List bg):=dec (EN Q4) (Rn 34 [(.pv (.agg (FSt.enc f0)))] [])
abbrev DP (eC:List (List Int)) (rB:List Node) (yU od:Int) (o1:FSt) (o4:List bg):Option (List bg):=dec (EN Q4) (hT 34 4 [] [(3,(.pv (.aW 1 (List.map (bD 1 (aD .i64)) eC)))),(4,(.row 4)),(13,(.pv (.aW 2 (List.map Node.enc rB)))),(14,(pI yU)),(15,(pI od))] [(1,(.box 24 (List.map .pv (FSt.enc o1)))),(4,(.row 65 2 (List.map bg.enc o4)))])
abbrev z6 (eC:List (List Int)) (n5:Int) (rB:List Node) (yU od:Int) (v21:List aF) (v22 v23:Int) (o1:FSt) (o4:List bg) (o6:Node):Option (List bg):=dec (EN Q4) (hT 34 7 [] [(3,(.pv (.aW 1 (List.map (bD 1 (aD .i64)) eC)))),(4,(.row 4)),(5,(pI n5)),(13,(.pv (.aW 2 (List.map Node.enc rB)))),(14,(pI yU)),(15,(pI od)),(21,(.pv (.aW 2 (List.map aF.enc v21)))),(22,(pI v22)),(23,(pI v23))] [(1,(.box 24 (List.map .pv (FSt.enc o1)))),(4,(.row 65 2 (List.map bg.enc o4))),(6,(.box 52 (List.map .pv (Node.enc o6))))])
abbrev f438 (h0:bq) (f1:FSt) (p2 q3:List Int):Option (FSt×Bool):=dec (EN Q9) (Rn 35 [(.pv (.agg (bq.enc h0))),(.pv (.agg (FSt.enc f1))),(pN p2),(pN q3)] [])
abbrev f416 (f0:FSt):Option (List (List Int)):=dec (EN Q6) (Rn 36 [(.pv (.agg (FSt.enc f0)))] [])
abbrev DN (i6:Int) (o1:FSt) (s8:List (List Int)) (rE:List Bool) (IP:List Int):Option (List (List Int)):=dec (EN Q6) (hT 36 6 [] [(1,(.ptr 1 0)),(3,(.row 12)),(4,(.row 16)),(5,(.row 19)),(6,(pI i6))] [(1,(.box 24 (List.map .pv (FSt.enc o1)))),(12,(.row 60 1 (List.map (bD 1 (aD .i64)) s8))),(16,(.row 4 1 (List.map kA rE))),(19,(oI IP))])
abbrev yJ (i6:Int) (l7:List aF) (k8:Int) (o1:FSt) (s8:List (List Int)) (rE:List Bool) (IP:List Int):Option (List (List Int)):=dec (EN Q6) (hT 36 10 [] [(1,(.ptr 1 0)),(3,(.row 12)),(4,(.row 16)),(5,(.row 19)),(6,(pI i6)),(7,(.pv (.aW 2 (List.map aF.enc l7)))),(8,(pI k8))] [(1,(.box 24 (List.map .pv (FSt.enc o1)))),(12,(.row 60 1 (List.map (bD 1 (aD .i64)) s8))),(16,(.row 4 1 (List.map kA rE))),(19,(oI IP))])
abbrev f430 (p0:List Int) (f1:FSt):Option FSt:=dec (EN Q3) (Rn 37 [(pN p0),(.pv (.agg (FSt.enc f1)))] [])
abbrev Ij (p0:List Int) (i6:Int) (o3 o4:FSt) (bU:List Node):Option FSt:=dec (EN Q3) (hT 37 3 [] [(0,(pN p0)),(3,(.ptr 3 0)),(4,(.ptr 4 0)),(5,(.ptr 5 0)),(6,(pI i6))] [(3,(.box 24 (List.map .pv (FSt.enc o3)))),(4,(.box 24 (List.map .pv (FSt.enc o4)))),(5,(.box 24 [(.row 5080)])),(5080,(.row 52 2 (List.map Node.enc bU)))])
abbrev Il (p0:List Int) (i7:Int) (o3 o4:FSt) (bU:List Node):Option FSt:=dec (EN Q3) (hT 37 7 [] [(0,(pN p0)),(3,(.ptr 3 0)),(4,(.ptr 4 0)),(5,(.ptr 5 0)),(7,(pI i7))] [(3,(.box 24 (List.map .pv (FSt.enc o3)))),(4,(.box 24 (List.map .pv (FSt.enc o4)))),(5,(.box 24 [(.row 5080)])),(5080,(.row 52 2 (List.map Node.enc bU)))])
abbrev BG (p0:List Int) (i7:Int) (l9:List aF) (k10:Int) (o3 o4:FSt) (zq:Int) (bU:List Node) (uB nW:List aF):Option FSt:=dec (EN Q3) (hT 37 12 [] [(0,(pN p0)),(3,(.ptr 3 0)),(4,(.ptr 4 0)),(5,(.ptr 5 0)),(7,(pI i7)),(8,(.ptr 8 0)),(9,(.pv (.aW 2 (List.map aF.enc l9)))),(10,(pI k10))] [(3,(.box 24 (List.map .pv (FSt.enc o3)))),(4,(.box 24 (List.map .pv (FSt.enc o4)))),(5,(.box 24 [(.row 5080)])),(8,(.box 52 [(pI zq),(.row 5705)])),(5080,(.row 52 2 (List.map Node.enc bU))),(5129,(.row 54 2 (List.map aF.enc uB))),(5705,(.row 54 2 (List.map aF.enc nW)))])
abbrev f439 (a0 b1:List Int):Option FSt:=dec (EN Q3) (Rn 38 [(pN a0),(pN b1)] [])
abbrev vo (a0 b1:List Int) (i6:Int) (o4:FSt) (bU:List Node) (jr:List (Option (List aF))):Option FSt:=dec (EN Q3) (hT 38 4 [] [(0,(pN a0)),(1,(pN b1)),(4,(.ptr 4 0)),(5,(.ptr 5 0)),(6,(pI i6))] [(4,(.box 24 (List.map .pv (FSt.enc o4)))),(5,(.box 24 [(.row 5080)])),(5080,(.rn 52 2 1 54 2 (List.map (iS Node.enc 1) bU) (kB aF.enc jr)))])
abbrev mB (a0 b1:List Int) (n7 i8:Int) (o4:FSt) (bU:List Node) (jr:List (Option (List aF))):Option FSt:=dec (EN Q3) (hT 38 10 [] [(0,(pN a0)),(1,(pN b1)),(4,(.ptr 4 0)),(5,(.ptr 5 0)),(7,(pI n7)),(8,(pI i8))] [(4,(.box 24 (List.map .pv (FSt.enc o4)))),(5,(.box 24 [(.row 5080)])),(5080,(.rn 52 2 1 54 2 (List.map (iS Node.enc 1) bU) (kB aF.enc jr)))])
abbrev f418 (a0 b1:FSt):Option Int:=dec (EN Q5) (Rn 42 [(.pv (.agg (FSt.enc a0))),(.pv (.agg (FSt.enc b1)))] [])
abbrev H9 (l5 m6:List Int) (i7:Int):Option Int:=dec (EN Q5) (hT 42 4 [] [(5,(pN l5)),(6,(pN m6)),(7,(pI i7))] [])
abbrev E483r.T:Type:=Bool×result
abbrev f445 (p0 q1:List Int):Option Bool:=dec (EN Q0) (Rn 48 [(pN p0),(pN q1)] [])
abbrev It (p0 q1:List Int) (i5:Int):Option Bool:=dec (EN Q0) (hT 48 4 [] [(0,(pN p0)),(1,(pN q1)),(5,(pI i5))] [])
abbrev f435 (f0:FSt):Option Int:=dec (EN Q5) (Rn 52 [(.pv (.agg (FSt.enc f0)))] [])
abbrev Ip (i3:Int) (o1:FSt):Option Int:=dec (EN Q5) (hT 52 6 [] [(1,(.ptr 1 0)),(3,(pI i3))] [(1,(.box 24 (List.map .pv (FSt.enc o1))))])
abbrev f436 (f0:FSt) (jE:Int):Option FSt:=dec (EN Q3) (Rn 53 [(.pv (.agg (FSt.enc f0))),(pI jE)] [])
abbrev Iq (jE i6:Int) (o2 o4:FSt) (lP iT:List Node) (j9 lQ:List Int):Option FSt:=dec (EN Q3) (hT 53 3 [] [(1,(pI jE)),(2,(.ptr 2 0)),(4,(.ptr 4 0)),(5,(.ptr 14 0)),(6,(pI i6))] [(2,(.box 24 (List.map .pv (FSt.enc o2)))),(4,(.box 24 (List.map .pv (FSt.enc o4)))),(14,(.box 133 [(.pv (.aW 2 (List.map Node.enc lP))),(.row 5209),(.row 5210)])),(5208,(.row 52 2 (List.map Node.enc iT))),(5209,(oI j9)),(5210,(oI lQ))])
abbrev z7 (i8:Int) (o2 o4:FSt) (lP js iT:List Node) (j9 lQ:List Int):Option FSt:=dec (EN Q3) (hT 53 9 [] [(2,(.ptr 2 0)),(4,(.ptr 4 0)),(5,(.ptr 14 0)),(7,(.ptr 7 0)),(8,(pI i8))] [(2,(.box 24 (List.map .pv (FSt.enc o2)))),(4,(.box 24 (List.map .pv (FSt.enc o4)))),(7,(.box 24 [(.row 5112)])),(14,(.box 133 [(.pv (.aW 2 (List.map Node.enc lP))),(.row 5209),(.row 5210)])),(5112,(.row 52 2 (List.map Node.enc js))),(5208,(.row 52 2 (List.map Node.enc iT))),(5209,(oI j9)),(5210,(oI lQ))])
abbrev yK (i8 k11:Int) (o2 o4:FSt) (o9:Node) (lP:List Node) (QZ:List aF) (js iT:List Node) (j9 lQ:List Int):Option FSt:=dec (EN Q3) (hT 53 14 [] [(2,(.ptr 2 0)),(4,(.ptr 4 0)),(5,(.ptr 14 0)),(7,(.ptr 7 0)),(8,(pI i8)),(9,(.ptr 9 0)),(10,(.row 56)),(11,(pI k11))] [(2,(.box 24 (List.map .pv (FSt.enc o2)))),(4,(.box 24 (List.map .pv (FSt.enc o4)))),(7,(.box 24 [(.row 5112)])),(9,(.box 52 (List.map .pv (Node.enc o9)))),(14,(.box 133 [(.pv (.aW 2 (List.map Node.enc lP))),(.row 5209),(.row 5210)])),(56,(.row 54 2 (List.map aF.enc QZ))),(5112,(.row 52 2 (List.map Node.enc js))),(5208,(.row 52 2 (List.map Node.enc iT))),(5209,(oI j9)),(5210,(oI lQ))])
abbrev f447 (n0:Int):Option sB:=dec (EN Q20) (Rn 55 [(pI n0)] [])
abbrev f331 (d0:List aC):Option (bq×Int):=dec (EN Q7) (Rn 56 [(pT d0)] [])
abbrev HL (yO:List (List aM)) (Co v40:List bR) (v41 v42:Int) (o2:bq) (TU:List au) (OD:List aX) (uB:List au) (Dj:List aX) (OG:List au):Option (bq×Int):=dec (EN Q7) (hT 56 12 [] [(2,(.ptr 2 0)),(6,(.pv (.aW 1 (List.map (bD 2 aM.enc) yO)))),(7,(pC Co)),(8,(.ptr 8 0)),(40,(pC v40)),(41,(pI v41)),(42,(pI v42))] [(2,(.box 34 (List.map .pv (bq.enc o2)))),(8,(.box 34 [(.row 5624),(.pv (.aW 2 (List.map au.enc TU)))])),(5128,(.row 116 4 (List.map aX.enc OD))),(5129,(.row 155 2 (List.map au.enc uB))),(5624,(.row 116 4 (List.map aX.enc Dj))),(5625,(.row 155 2 (List.map au.enc OG)))])
abbrev f460 (s0:List Int):Option (List Int):=dec (EN Q24) (Rn 57 [(pN s0)] [])
abbrev f484 (s10 s21:List Int):Option Bool:=dec (EN Q0) (Rn 58 [(pN s10),(pN s21)] [])
abbrev Iw (s10 s21:List Int) (v12 rB:Int):Option Bool:=dec (EN Q0) (hT 58 4 [] [(0,(pN s10)),(1,(pN s21)),(12,(pI v12)),(13,(pI rB))] [])
abbrev BQ.T:Type:=Unit×(List Int)×(List Int)×(List (List aF))
def BQ (aG:List aX) (aV:List au):BQ.T→Out:=(fun x:Unit×(List Int)×(List Int)×(List (List aF))=>((Q18 x.1,[(10000,(.box 98 [(.pv (.aW 4 (List.map aX.enc aG))),(.pv (.aW 2 (List.map au.enc aV))),(.row 20001),(.row 20002),(.row 20003)])),(20001, .row 3 1 (List.map (aD .i64) x.2.1)),(20002, .row 3 1 (List.map (aD .i64) x.2.2.1)),(20003, .row 50 1 (List.map (bD 2 aF.enc) x.2.2.2))]):Out))
instance (aG:List aX) (aV:List au):cQ (BQ aG aV):=⟨fun a b h=>by
  obtain ⟨a0,a1,a2,a3⟩:=a
  obtain ⟨b0,b1,b2,b3⟩:=b
  simp only [BQ,Prod.mk.injEq,List.cons.injEq,Ob.row.injEq,Ob.mp.injEq,Ob.lp.injEq,Ob.box.injEq,and_true,true_and] at h
  have h0:a0=b0:=rfl
  obtain ⟨h1,h2,h3⟩:=h
  rw [h0,map_inj cQ.inj _ _ h1,map_inj cQ.inj _ _ h2,map_inj cQ.inj _ _ h3]⟩
abbrev f442 (l1:List Node) (aG:List aX) (aV:List au) (dw dz:List Int) (dJ:List (List aF)):Option (Unit×(List Int)×(List Int)×(List (List aF))):=dec (BQ aG aV) (Rn 59 [(.ptr 10000 0),(.pv (.aW 2 (List.map Node.enc l1)))] [(10000,(.box 98 [(.pv (.aW 4 (List.map aX.enc aG))),(.pv (.aW 2 (List.map au.enc aV))),(.row 20001),(.row 20002),(.row 20003)])),(20001,(oI dw)),(20002,(oI dz)),(20003,(.row 50 1 (List.map (bD 2 aF.enc) dJ)))])
abbrev DR (v4:Int) (od:List Node) (nM v17:Int) (ak:List aX) (aq:List au) (c4 bn:List Int) (aS:List (List aF)):Option (Unit×(List Int)×(List Int)×(List (List aF))):=dec (BQ ak aq) (hT 59 2 [10000,20001,20002,20003] [(0,(.ptr 10000 0)),(4,(pI v4)),(15,(.pv (.aW 2 (List.map Node.enc od)))),(16,(pI nM)),(17,(pI v17))] [(10000,(.box 98 [(.pv (.aW 4 (List.map aX.enc ak))),(.pv (.aW 2 (List.map au.enc aq))),(.row 20001),(.row 20002),(.row 20003)])),(20001,(oI c4)),(20002,(oI bn)),(20003,(.row 50 1 (List.map (bD 2 aF.enc) aS)))])
abbrev Ir (v4:Int) (od:List Node) (nM v17:Int) (v46:List aF) (v47 v48:Int) (o6:Node) (o7:List aF) (ak:List aX) (aq:List au) (c4 bn:List Int) (aS:List (List aF)):Option (Unit×(List Int)×(List Int)×(List (List aF))):=dec (BQ ak aq) (hT 59 8 [10000,20001,20002,20003] [(0,(.ptr 10000 0)),(4,(pI v4)),(7,(.row 7)),(15,(.pv (.aW 2 (List.map Node.enc od)))),(16,(pI nM)),(17,(pI v17)),(46,(.pv (.aW 2 (List.map aF.enc v46)))),(47,(pI v47)),(48,(pI v48))] [(6,(.box 52 (List.map .pv (Node.enc o6)))),(7,(.row 54 2 (List.map aF.enc o7))),(10000,(.box 98 [(.pv (.aW 4 (List.map aX.enc ak))),(.pv (.aW 2 (List.map au.enc aq))),(.row 20001),(.row 20002),(.row 20003)])),(20001,(oI c4)),(20002,(oI bn)),(20003,(.row 50 1 (List.map (bD 2 aF.enc) aS)))])
abbrev tZ.T:Type:=Bool×(List Int)×(List Int)×(List (List aF))
def tZ (aG:List aX) (aV:List au):tZ.T→Out:=(fun x:Bool×(List Int)×(List Int)×(List (List aF))=>((Q0 x.1,[(10000,(.box 98 [(.pv (.aW 4 (List.map aX.enc aG))),(.pv (.aW 2 (List.map au.enc aV))),(.row 20001),(.row 20002),(.row 20003)])),(20001, .row 3 1 (List.map (aD .i64) x.2.1)),(20002, .row 3 1 (List.map (aD .i64) x.2.2.1)),(20003, .row 50 1 (List.map (bD 2 aF.enc) x.2.2.2))]):Out))
instance (aG:List aX) (aV:List au):cQ (tZ aG aV):=⟨fun a b h=>by
  obtain ⟨a0,a1,a2,a3⟩:=a
  obtain ⟨b0,b1,b2,b3⟩:=b
  simp only [tZ,Prod.mk.injEq,List.cons.injEq,Ob.row.injEq,Ob.mp.injEq,Ob.lp.injEq,Ob.box.injEq,and_true,true_and] at h
  obtain ⟨h0,h1,h2,h3⟩:=h
  rw [cQ.inj _ _ h0,map_inj cQ.inj _ _ h1,map_inj cQ.inj _ _ h2,map_inj cQ.inj _ _ h3]⟩
abbrev f443 (a1 b2:Int) (aG:List aX) (aV:List au) (dw dz:List Int) (dJ:List (List aF)):Option (Bool×(List Int)×(List Int)×(List (List aF))):=dec (tZ aG aV) (Rn 60 [(.ptr 10000 0),(pI a1),(pI b2)] [(10000,(.box 98 [(.pv (.aW 4 (List.map aX.enc aG))),(.pv (.aW 2 (List.map au.enc aV))),(.row 20001),(.row 20002),(.row 20003)])),(20001,(oI dw)),(20002,(oI dz)),(20003,(.row 50 1 (List.map (bD 2 aF.enc) dJ)))])
abbrev tD (fZ js:List aT) (ak:List aX) (aq:List au) (c4 bn:List Int) (aS:List (List aF)):Option (Bool×(List Int)×(List Int)×(List (List aF))):=dec (tZ ak aq) (hT 60 3 [10000,20001,20002,20003] [(3,(.ptr 3 0)),(7,(.ptr 7 0)),(8,(.cl 88 [.p 3, .p 7]))] [(3,(.box 95 [(.ptr 10000 0)])),(7,(.box 138 [(.row 15)])),(15,(.row 137 2 (List.map aT.enc fZ))),(5112,(.row 137 2 (List.map aT.enc js))),(10000,(.box 98 [(.pv (.aW 4 (List.map aX.enc ak))),(.pv (.aW 2 (List.map au.enc aq))),(.row 20001),(.row 20002),(.row 20003)])),(20001,(oI c4)),(20002,(oI bn)),(20003,(.row 50 1 (List.map (bD 2 aF.enc) aS)))])
abbrev Aj.T:Type:=FSt×(List Int)×(List Int)×(List (List aF))
def Aj (aG:List aX) (aV:List au):Aj.T→Out:=(fun x:FSt×(List Int)×(List Int)×(List (List aF))=>((Q3 x.1,[(10000,(.box 98 [(.pv (.aW 4 (List.map aX.enc aG))),(.pv (.aW 2 (List.map au.enc aV))),(.row 20001),(.row 20002),(.row 20003)])),(20001, .row 3 1 (List.map (aD .i64) x.2.1)),(20002, .row 3 1 (List.map (aD .i64) x.2.2.1)),(20003, .row 50 1 (List.map (bD 2 aF.enc) x.2.2.2))]):Out))
instance (aG:List aX) (aV:List au):cQ (Aj aG aV):=⟨fun a b h=>by
  obtain ⟨a0,a1,a2,a3⟩:=a
  obtain ⟨b0,b1,b2,b3⟩:=b
  simp only [Aj,Prod.mk.injEq,List.cons.injEq,Ob.row.injEq,Ob.mp.injEq,Ob.lp.injEq,Ob.box.injEq,and_true,true_and] at h
  obtain ⟨h0,h1,h2,h3⟩:=h
  rw [cQ.inj _ _ h0,map_inj cQ.inj _ _ h1,map_inj cQ.inj _ _ h2,map_inj cQ.inj _ _ h3]⟩
abbrev f444 (jE:Int) (aG:List aX) (aV:List au) (dw dz:List Int) (dJ:List (List aF)):Option (FSt×(List Int)×(List Int)×(List (List aF))):=dec (Aj aG aV) (Rn 61 [(.ptr 10000 0),(pI jE)] [(10000,(.box 98 [(.pv (.aW 4 (List.map aX.enc aG))),(.pv (.aW 2 (List.map au.enc aV))),(.row 20001),(.row 20002),(.row 20003)])),(20001,(oI dw)),(20002,(oI dz)),(20003,(.row 50 1 (List.map (bD 2 aF.enc) dJ)))])
abbrev DS (jE nM v17:Int) (o4:FSt) (WX bU:List Int) (ak:List aX) (aq:List au) (c4 bn:List Int) (aS:List (List aF)):Option (FSt×(List Int)×(List Int)×(List (List aF))):=dec (Aj ak aq) (hT 61 3 [10000,20001,20002,20003] [(1,(pI jE)),(2,(.ptr 2 0)),(4,(.ptr 4 0)),(5,(.ptr 5 0)),(16,(pI nM)),(17,(pI v17))] [(2,(.box 95 [(.ptr 10000 0)])),(4,(.box 24 (List.map .pv (FSt.enc o4)))),(5,(.box 60 [(.row 14)])),(14,(oI WX)),(5080,(oI bU)),(10000,(.box 98 [(.pv (.aW 4 (List.map aX.enc ak))),(.pv (.aW 2 (List.map au.enc aq))),(.row 20001),(.row 20002),(.row 20003)])),(20001,(oI c4)),(20002,(oI bn)),(20003,(.row 50 1 (List.map (bD 2 aF.enc) aS)))])
abbrev f468 (l0:List aF) (pX:Int):Option Int:=dec (EN Q5) (Rn 62 [(.pv (.aW 2 (List.map aF.enc l0))),(pI pX)] [])
abbrev Iu (l0:List aF) (pX i5:Int):Option Int:=dec (EN Q5) (hT 62 2 [] [(0,(.pv (.aW 2 (List.map aF.enc l0)))),(1,(pI pX)),(5,(pI i5))] [])
abbrev f432 (f0:FSt):Option (List Int):=dec (EN Q15) (Rn 70 [(.pv (.agg (FSt.enc f0)))] [])
abbrev DQ (i4:Int) (o1:FSt) (M0:List Int):Option (List Int):=dec (EN Q15) (hT 70 3 [] [(1,(.ptr 1 0)),(3,(.row 10)),(4,(pI i4))] [(1,(.box 24 (List.map .pv (FSt.enc o1)))),(10,(oI M0))])
abbrev Io (i4:Int) (l5:List aF) (k6:Int) (o1:FSt) (M0:List Int):Option (List Int):=dec (EN Q15) (hT 70 8 [] [(1,(.ptr 1 0)),(3,(.row 10)),(4,(pI i4)),(5,(.pv (.aW 2 (List.map aF.enc l5)))),(6,(pI k6))] [(1,(.box 24 (List.map .pv (FSt.enc o1)))),(10,(oI M0))])
abbrev E461r.T:Type:=Bool×(List Int)×(List Int)
abbrev f63 (a0 b1:List Int):Option Bool:=dec (EN Q0) (Rn 78 [(pU a0),(pU b1)] [])
abbrev f454 (l0:List aF) (n1:Int):Option Int:=dec (EN Q5) (Rn 79 [(.pv (.aW 2 (List.map aF.enc l0))),(pI n1)] [])
abbrev DT (l0:List aF) (n1 i5:Int):Option Int:=dec (EN Q5) (hT 79 2 [] [(0,(.pv (.aW 2 (List.map aF.enc l0)))),(1,(pI n1)),(5,(pI i5))] [])
abbrev DU (l0:List aF) (n1 i5 k6:Int):Option Int:=dec (EN Q5) (hT 79 7 [] [(0,(.pv (.aW 2 (List.map aF.enc l0)))),(1,(pI n1)),(5,(pI i5)),(6,(pI k6))] [])
abbrev BR.T:Type:=Unit×(List Int)×(List Int)
def BR (aG:List Node):BR.T→Out:=(fun x:Unit×(List Int)×(List Int)=>((Q18 x.1,[(10000,(.box 133 [(.pv (.aW 2 (List.map Node.enc aG))),(.row 20001),(.row 20002)])),(20001, .row 3 1 (List.map (aD .i64) x.2.1)),(20002, .row 3 1 (List.map (aD .i64) x.2.2))]):Out))
instance (aG:List Node):cQ (BR aG):=⟨fun a b h=>by
  obtain ⟨a0,a1,a2⟩:=a
  obtain ⟨b0,b1,b2⟩:=b
  simp only [BR,Prod.mk.injEq,List.cons.injEq,Ob.row.injEq,Ob.mp.injEq,Ob.lp.injEq,Ob.box.injEq,and_true,true_and] at h
  have h0:a0=b0:=rfl
  obtain ⟨h1,h2⟩:=h
  rw [h0,map_inj cQ.inj _ _ h1,map_inj cQ.inj _ _ h2]⟩
abbrev f455 (n1:Int) (aG:List Node) (dw dz:List Int):Option (Unit×(List Int)×(List Int)):=dec (BR aG) (Rn 80 [(.ptr 10000 0),(pI n1)] [(10000,(.box 133 [(.pv (.aW 2 (List.map Node.enc aG))),(.row 20001),(.row 20002)])),(20001,(oI dw)),(20002,(oI dz))])
abbrev DV (l4:List aF) (i5:Int) (ak:List Node) (c4 bn:List Int):Option (Unit×(List Int)×(List Int)):=dec (BR ak) (hT 80 4 [10000,20001,20002] [(0,(.ptr 10000 0)),(4,(.pv (.aW 2 (List.map aF.enc l4)))),(5,(pI i5))] [(10000,(.box 133 [(.pv (.aW 2 (List.map Node.enc ak))),(.row 20001),(.row 20002)])),(20001,(oI c4)),(20002,(oI bn))])
abbrev f463 (l0:List aF):Option (List aF):=dec (EN Q28) (Rn 81 [(.pv (.aW 2 (List.map aF.enc l0)))] [])
abbrev tE (l0:List aF) (i4:Int) (o3:List aF):Option (List aF):=dec (EN Q28) (hT 81 3 [] [(0,(.pv (.aW 2 (List.map aF.enc l0)))),(3,(.row 3)),(4,(pI i4))] [(3,(.row 54 2 (List.map aF.enc o3)))])
abbrev BH (l0:List aF) (i4 v5:Int) (o3:List aF):Option (List aF):=dec (EN Q28) (hT 81 6 [] [(0,(.pv (.aW 2 (List.map aF.enc l0)))),(3,(.row 3)),(4,(pI i4)),(5,(pI v5))] [(3,(.row 54 2 (List.map aF.enc o3)))])
abbrev f459 (i0:Int):Option sB:=dec (EN Q20) (Rn 83 [(pI i0)] [])
abbrev f319 (d0:List aC):Option ((List au)×Int):=dec (EN Q17) (Rn 84 [(pT d0)] [])
abbrev HK (t4:Option table) (v20:List sB) (v21 v22:Int) (o6:List au):Option ((List au)×Int):=dec (EN Q17) (hT 84 6 [] [(4,(.pv (F4 table.enc t4))),(6,(.row 6)),(20,(pS v20)),(21,(pI v21)),(22,(pI v22))] [(6,(.row 155 2 (List.map au.enc o6)))])
abbrev f322 (d0:List aC):Option ((List (List aM))×Int):=dec (EN Q12) (Rn 85 [(pT d0)] [])
abbrev f14 (d0:List aC):Option ((List bR)×Int):=dec (EN Q13) (Rn 86 [(pT d0)] [])
abbrev f27 (l0:List bR) (i1:Int):Option (List Int):=dec (EN Q15) (Rn 87 [(pC l0),(pI i1)] [])
abbrev xz.T:Type:=Bool×(List aT)×(List Int)×(List Int)×(List (List aF))
def xz (bp:List aX) (bl:List au):xz.T→Out:=(fun x:Bool×(List aT)×(List Int)×(List Int)×(List (List aF))=>((Q0 x.1,[(10000,(.box 95 [(.ptr 10002 0)])),(10001,(.box 138 [(.row 20003)])),(10002,(.box 98 [(.pv (.aW 4 (List.map aX.enc bp))),(.pv (.aW 2 (List.map au.enc bl))),(.row 20004),(.row 20005),(.row 20006)])),(20003, .row 137 2 (List.map aT.enc x.2.1)),(20004, .row 3 1 (List.map (aD .i64) x.2.2.1)),(20005, .row 3 1 (List.map (aD .i64) x.2.2.2.1)),(20006, .row 50 1 (List.map (bD 2 aF.enc) x.2.2.2.2))]):Out))
instance (bp:List aX) (bl:List au):cQ (xz bp bl):=⟨fun a b h=>by
  obtain ⟨a0,a1,a2,a3,a4⟩:=a
  obtain ⟨b0,b1,b2,b3,b4⟩:=b
  simp only [xz,Prod.mk.injEq,List.cons.injEq,Ob.row.injEq,Ob.mp.injEq,Ob.lp.injEq,Ob.box.injEq,and_true,true_and] at h
  obtain ⟨h0,h1,h2,h3,h4⟩:=h
  rw [cQ.inj _ _ h0,map_inj cQ.inj _ _ h1,map_inj cQ.inj _ _ h2,map_inj cQ.inj _ _ h3,map_inj cQ.inj _ _ h4]⟩
abbrev f486 (a0 b1:Int) (bp:List aX) (bl:List au) (dJ:List aT) (gD ez:List Int) (fm:List (List aF)):Option (Bool×(List aT)×(List Int)×(List Int)×(List (List aF))):=dec (xz bp bl) (Rn 88 [(pI a0),(pI b1),(.ptr 10000 0),(.ptr 10001 0)] [(10000,(.box 95 [(.ptr 10002 0)])),(10001,(.box 138 [(.row 20003)])),(10002,(.box 98 [(.pv (.aW 4 (List.map aX.enc bp))),(.pv (.aW 2 (List.map au.enc bl))),(.row 20004),(.row 20005),(.row 20006)])),(20003,(.row 137 2 (List.map aT.enc dJ))),(20004,(oI gD)),(20005,(oI ez)),(20006,(.row 50 1 (List.map (bD 2 aF.enc) fm)))])
abbrev ja (a0:Int) (x9 y10 fS:List aF) (cz:List aX) (cC:List au) (aS:List aT) (bJ fc:List Int) (eu:List (List aF)):Option (Bool×(List aT)×(List Int)×(List Int)×(List (List aF))):=dec (xz cz cC) (hT 88 8 [10000,10001,10002,20003,20004,20005,20006] [(0,(pI a0)),(2,(.ptr 10000 0)),(3,(.ptr 10001 0)),(9,(.pv (.aW 2 (List.map aF.enc x9)))),(10,(.pv (.aW 2 (List.map aF.enc y10)))),(11,(.row 11))] [(11,(.row 54 2 (List.map aF.enc fS))),(10000,(.box 95 [(.ptr 10002 0)])),(10001,(.box 138 [(.row 20003)])),(10002,(.box 98 [(.pv (.aW 4 (List.map aX.enc cz))),(.pv (.aW 2 (List.map au.enc cC))),(.row 20004),(.row 20005),(.row 20006)])),(20003,(.row 137 2 (List.map aT.enc aS))),(20004,(oI bJ)),(20005,(oI fc)),(20006,(.row 50 1 (List.map (bD 2 aF.enc) eu)))])
abbrev f335 (h0:bq) (a1 b2:Int):Option (Int×Bool):=dec (EN Q19) (Rn 89 [(.pv (.agg (bq.enc h0))),(pI a1),(pI b2)] [])
abbrev EM.T:Type:=Int×(List Int)×(List Int)×(List (List aF))
def EM (aG:List aX) (aV:List au):EM.T→Out:=(fun x:Int×(List Int)×(List Int)×(List (List aF))=>((Q5 x.1,[(10000,(.box 98 [(.pv (.aW 4 (List.map aX.enc aG))),(.pv (.aW 2 (List.map au.enc aV))),(.row 20001),(.row 20002),(.row 20003)])),(20001, .row 3 1 (List.map (aD .i64) x.2.1)),(20002, .row 3 1 (List.map (aD .i64) x.2.2.1)),(20003, .row 50 1 (List.map (bD 2 aF.enc) x.2.2.2))]):Out))
instance (aG:List aX) (aV:List au):cQ (EM aG aV):=⟨fun a b h=>by
  obtain ⟨a0,a1,a2,a3⟩:=a
  obtain ⟨b0,b1,b2,b3⟩:=b
  simp only [EM,Prod.mk.injEq,List.cons.injEq,Ob.row.injEq,Ob.mp.injEq,Ob.lp.injEq,Ob.box.injEq,and_true,true_and] at h
  obtain ⟨h0,h1,h2,h3⟩:=h
  rw [cQ.inj _ _ h0,map_inj cQ.inj _ _ h1,map_inj cQ.inj _ _ h2,map_inj cQ.inj _ _ h3]⟩
abbrev f485 (n1:Int) (aG:List aX) (aV:List au) (dw dz:List Int) (dJ:List (List aF)):Option (Int×(List Int)×(List Int)×(List (List aF))):=dec (EM aG aV) (Rn 90 [(.ptr 10000 0),(pI n1)] [(10000,(.box 98 [(.pv (.aW 4 (List.map aX.enc aG))),(.pv (.aW 2 (List.map au.enc aV))),(.row 20001),(.row 20002),(.row 20003)])),(20001,(oI dw)),(20002,(oI dz)),(20003,(.row 50 1 (List.map (bD 2 aF.enc) dJ)))])
abbrev DW (n1:Int) (ak:List aX) (aq:List au) (c4 bn:List Int) (aS:List (List aF)):Option (Int×(List Int)×(List Int)×(List (List aF))):=dec (EM ak aq) (hT 90 1 [10000,20001,20002,20003] [(0,(.ptr 10000 0)),(1,(pI n1))] [(10000,(.box 98 [(.pv (.aW 4 (List.map aX.enc ak))),(.pv (.aW 2 (List.map au.enc aq))),(.row 20001),(.row 20002),(.row 20003)])),(20001,(oI c4)),(20002,(oI bn)),(20003,(.row 50 1 (List.map (bD 2 aF.enc) aS)))])
abbrev xA.T:Type:=Int×(List Int)×(List Node)×(List Int)×(List Int)×(List (List aF))
def xA (gP:List aX) (gQ:List au):xA.T→Out:=(fun x:Int×(List Int)×(List Node)×(List Int)×(List Int)×(List (List aF))=>((Q5 x.1,[(10000,(.box 95 [(.ptr 10004 0)])),(10001,(.box 60 [(.row 20005)])),(10002,(.box 24 [(.row 20006)])),(10003,(.box 139 [(.cl 91 [.p 10000, .p 10001, .p 10002, .p 10003])])),(10004,(.box 98 [(.pv (.aW 4 (List.map aX.enc gP))),(.pv (.aW 2 (List.map au.enc gQ))),(.row 20007),(.row 20008),(.row 20009)])),(20005, .row 3 1 (List.map (aD .i64) x.2.1)),(20006, .row 52 2 (List.map Node.enc x.2.2.1)),(20007, .row 3 1 (List.map (aD .i64) x.2.2.2.1)),(20008, .row 3 1 (List.map (aD .i64) x.2.2.2.2.1)),(20009, .row 50 1 (List.map (bD 2 aF.enc) x.2.2.2.2.2))]):Out))
instance (gP:List aX) (gQ:List au):cQ (xA gP gQ):=⟨fun a b h=>by
  obtain ⟨a0,a1,a2,a3,a4,a5⟩:=a
  obtain ⟨b0,b1,b2,b3,b4,b5⟩:=b
  simp only [xA,Prod.mk.injEq,List.cons.injEq,Ob.row.injEq,Ob.mp.injEq,Ob.lp.injEq,Ob.box.injEq,and_true,true_and] at h
  obtain ⟨h0,h1,h2,h3,h4,h5⟩:=h
  rw [cQ.inj _ _ h0,map_inj cQ.inj _ _ h1,map_inj cQ.inj _ _ h2,map_inj cQ.inj _ _ h3,map_inj cQ.inj _ _ h4,map_inj cQ.inj _ _ h5]⟩
abbrev f487 (n0:Int) (gP:List aX) (gQ:List au) (ez:List Int) (fm:List Node) (ID IE:List Int) (IF:List (List aF)):Option (Int×(List Int)×(List Node)×(List Int)×(List Int)×(List (List aF))):=dec (xA gP gQ) (Rn 91 [(pI n0),(.ptr 10000 0),(.ptr 10001 0),(.ptr 10002 0),(.ptr 10003 0)] [(10000,(.box 95 [(.ptr 10004 0)])),(10001,(.box 60 [(.row 20005)])),(10002,(.box 24 [(.row 20006)])),(10003,(.box 139 [(.cl 91 [.p 10000, .p 10001, .p 10002, .p 10003])])),(10004,(.box 98 [(.pv (.aW 4 (List.map aX.enc gP))),(.pv (.aW 2 (List.map au.enc gQ))),(.row 20007),(.row 20008),(.row 20009)])),(20005,(oI ez)),(20006,(.row 52 2 (List.map Node.enc fm))),(20007,(oI ID)),(20008,(oI IE)),(20009,(.row 50 1 (List.map (bD 2 aF.enc) IF)))])
abbrev Iy (v7:Int) (v49:List aF) (v50 v51:Int) (o8:List aF) (kF:List aX) (kG:List au) (fc:List Int) (eu:List Node) (zl zm:List Int) (zn:List (List aF)):Option (Int×(List Int)×(List Node)×(List Int)×(List Int)×(List (List aF))):=dec (xA kF kG) (hT 91 9 [10000,10001,10002,10003,10004,20005,20006,20007,20008,20009] [(3,(.ptr 10002 0)),(4,(.ptr 10003 0)),(7,(pI v7)),(8,(.row 8)),(49,(.pv (.aW 2 (List.map aF.enc v49)))),(50,(pI v50)),(51,(pI v51))] [(8,(.row 54 2 (List.map aF.enc o8))),(10000,(.box 95 [(.ptr 10004 0)])),(10001,(.box 60 [(.row 20005)])),(10002,(.box 24 [(.row 20006)])),(10003,(.box 139 [(.cl 91 [.p 10000, .p 10001, .p 10002, .p 10003])])),(10004,(.box 98 [(.pv (.aW 4 (List.map aX.enc kF))),(.pv (.aW 2 (List.map au.enc kG))),(.row 20007),(.row 20008),(.row 20009)])),(20005,(oI fc)),(20006,(.row 52 2 (List.map Node.enc eu))),(20007,(oI zl)),(20008,(oI zm)),(20009,(.row 50 1 (List.map (bD 2 aF.enc) zn)))])
abbrev E477r.T:Type:=Bool×(List Int)
abbrev f344 (d0:List aC):Option ((Option table)×Int):=dec (EN Q29) (Rn 120 [(pT d0)] [])
abbrev Nq (Cn:List bR) (v24:List aC) (v25 v26:Int) (o21:List (sB×Int)) (kH:List aC) (kI:List bR) (OE:List aC) (OF:List bR) (Kg:List sB) (Kh:List Int) (Ki:List (List aM)):Option ((Option table)×Int):=dec (EN Q29) (hT 120 6 [] [(4,(pC Cn)),(6,(.ptr 23 0)),(24,(pT v24)),(25,(pI v25)),(26,(pI v26))] [(21,(oM 9 3 V9 V3 o21)),(23,(oB kH kI 21 5355 5356 5357)),(5352,(.row 90 3 (List.map aC.enc OE))),(5353,(.row 112 2 (List.map bR.enc OF))),(5355,(oS Kg)),(5356,(oI Kh)),(5357,(oA Ki))])
abbrev E47r.T:Type:=Unit×(List bR)
abbrev f24 (l0:List bR) (i1 j2:Int):Option Bool:=dec (EN Q0) (Rn 136 [(pC l0),(pI i1),(pI j2)] [])
abbrev K3.T:Type:=Bool
def K3 (dH:Int) (bp:List aC) (bl:List bR) (bP:List (sB×Int)) (bM:List sB) (cF:List Int) (cG:List (List aM)):K3.T→Out:=(fun x:Bool=>((Q0 x,[(10000,(.box 166 [(.ptr 10002 0)])),(10001,(.box 3 [(pI dH)])),(10002,(oB bp bl 10003 10004 10005 10006)),(10003,(oM 9 3 V9 V3 bP)),(10004,(oS bM)),(10005,(oI cF)),(10006,(oA cG))]):Out))
instance (dH:Int) (bp:List aC) (bl:List bR) (bP:List ((List UInt8)×Int)) (bM:List (List UInt8)) (cF:List Int) (cG:List (List aM)):cQ (K3 dH bp bl bP bM cF cG):=⟨fun a b h=>by
  simp only [K3,Prod.mk.injEq,and_true] at h
  exact cQ.inj _ _ h⟩
abbrev XP (s0:List Int) (dH:Int) (bp:List aC) (bl:List bR) (bP:List (sB×Int)) (bM:List sB) (cF:List Int) (cG:List (List aM)):Option Bool:=dec (K3 dH bp bl bP bM cF cG) (Rn 138 [(pN s0),(.cl 226 [.p 10000, .p 10001])] [(10000,(.box 166 [(.ptr 10002 0)])),(10001,(.box 3 [(pI dH)])),(10002,(oB bp bl 10003 10004 10005 10006)),(10003,(oM 9 3 V9 V3 bP)),(10004,(oS bM)),(10005,(oI cF)),(10006,(oA cG))])
abbrev f29 (a0 b1:List Int):Option (List Int):=dec (EN Q21) (Rn 139 [(pU a0),(pU b1)] [])
abbrev f336 (h0:bq) (a1 b2:Int):Option (Int×Bool):=dec (EN Q19) (Rn 162 [(.pv (.agg (bq.enc h0))),(pI a1),(pI b2)] [])
abbrev E488r.T:Type:=Unit×(List Int)×(List (Int×Int))
abbrev f366 (s0:List bR) (um:aC):Option Int:=dec (EN Q5) (Rn 171 [(pC s0),(.pv (.fn 172 [(.ref (aC.enc um))]))] [])
abbrev jw.T:Type:=Int×(List ((List UInt8)×Int))×(List (List UInt8))×(List Int)×(List (List aM))
def jw (aG:List aC) (aV:List bR):jw.T→Out:=(fun x:Int×(List (sB×Int))×(List sB)×(List Int)×(List (List aM))=>((Q5 x.1,[(10000,(oB aG aV 10001 20002 20003 20004)),(10001, .mp 9 3 (bW V9 V3 x.2.1).1 (bW V9 V3 x.2.1).2),(20002, .row 9 1 (List.map eX x.2.2.1)),(20003, .row 3 1 (List.map (aD .i64) x.2.2.2.1)),(20004, .row 114 1 (List.map (bD 2 aM.enc) x.2.2.2.2))]):Out))
instance (aG:List aC) (aV:List bR):cQ (jw aG aV):=⟨fun a b h=>by
  obtain ⟨a0,a1,a2,a3,a4⟩:=a
  obtain ⟨b0,b1,b2,b3,b4⟩:=b
  simp only [jw,Prod.mk.injEq,List.cons.injEq,Ob.row.injEq,Ob.mp.injEq,Ob.lp.injEq,Ob.box.injEq,and_true,true_and] at h
  obtain ⟨h0,h1,h2,h3,h4⟩:=h
  rw [cQ.inj _ _ h0,mM (K:=V9) (V:=V3) h1.1 h1.2,map_inj cQ.inj _ _ h2,map_inj cQ.inj _ _ h3,map_inj cQ.inj _ _ h4]⟩
abbrev f367 (aG:List aC) (aV:List bR) (dP:List (sB×Int)) (dz:List sB) (dJ:List Int) (gD:List (List aM)):Option (Int×(List (sB×Int))×(List sB)×(List Int)×(List (List aM))):=dec (jw aG aV) (Rn 173 [(.ptr 10000 0)] [(10000,(oB aG aV 10001 20002 20003 20004)),(10001,(oM 9 3 V9 V3 dP)),(20002,(oS dz)),(20003,(oI dJ)),(20004,(oA gD))])
abbrev HN (Uo:List aC) (v20 v21:Int) (fZ:List (sB×Bool)) (ak:List aC) (aq:List bR) (bF:List (sB×Int)) (bn:List sB) (aS:List Int) (bJ:List (List aM)):Option (Int×(List (sB×Int))×(List sB)×(List Int)×(List (List aM))):=dec (jw ak aq) (hT 173 3 [10000,10001,20002,20003,20004] [(0,(.ptr 10000 0)),(3,(.row 15)),(19,(pT Uo)),(20,(pI v20)),(21,(pI v21))] [(15,(oM 9 4 V9 V4 fZ)),(10000,(oB ak aq 10001 20002 20003 20004)),(10001,(oM 9 3 V9 V3 bF)),(20002,(oS bn)),(20003,(oI aS)),(20004,(oA bJ))])
abbrev HO (Uo:List aC) (v20 v21:Int) (v26:List aK) (v27 v28:Int) (o5:aC) (fZ:List (sB×Bool)) (ak:List aC) (aq:List bR) (bF:List (sB×Int)) (bn:List sB) (aS:List Int) (bJ:List (List aM)):Option (Int×(List (sB×Int))×(List sB)×(List Int)×(List (List aM))):=dec (jw ak aq) (hT 173 6 [10000,10001,20002,20003,20004] [(0,(.ptr 10000 0)),(3,(.row 15)),(19,(pT Uo)),(20,(pI v20)),(21,(pI v21)),(26,(pF v26)),(27,(pI v27)),(28,(pI v28))] [(5,(.box 90 (List.map .pv (aC.enc o5)))),(15,(oM 9 4 V9 V4 fZ)),(10000,(oB ak aq 10001 20002 20003 20004)),(10001,(oM 9 3 V9 V3 bF)),(20002,(oS bn)),(20003,(oI aS)),(20004,(oA bJ))])
abbrev BC (yM:List aC) (v44 v45:Int) (fZ:List (sB×Bool)) (ak:List aC) (aq:List bR) (bF:List (sB×Int)) (bn:List sB) (aS:List Int) (bJ:List (List aM)):Option (Int×(List (sB×Int))×(List sB)×(List Int)×(List (List aM))):=dec (jw ak aq) (hT 173 14 [10000,10001,20002,20003,20004] [(0,(.ptr 10000 0)),(3,(.row 15)),(43,(pT yM)),(44,(pI v44)),(45,(pI v45))] [(15,(oM 9 4 V9 V4 fZ)),(10000,(oB ak aq 10001 20002 20003 20004)),(10001,(oM 9 3 V9 V3 bF)),(20002,(oS bn)),(20003,(oI aS)),(20004,(oA bJ))])
abbrev BD (yM:List aC) (v44 v45:Int) (v50:List aK) (v51 OW:Int) (o9:aC) (fZ:List (sB×Bool)) (ak:List aC) (aq:List bR) (bF:List (sB×Int)) (bn:List sB) (aS:List Int) (bJ:List (List aM)):Option (Int×(List (sB×Int))×(List sB)×(List Int)×(List (List aM))):=dec (jw ak aq) (hT 173 17 [10000,10001,20002,20003,20004] [(0,(.ptr 10000 0)),(3,(.row 15)),(9,(.ptr 9 0)),(43,(pT yM)),(44,(pI v44)),(45,(pI v45)),(50,(pF v50)),(51,(pI v51)),(52,(pI OW))] [(9,(.box 90 (List.map .pv (aC.enc o9)))),(15,(oM 9 4 V9 V4 fZ)),(10000,(oB ak aq 10001 20002 20003 20004)),(10001,(oM 9 3 V9 V3 bF)),(20002,(oS bn)),(20003,(oI aS)),(20004,(oA bJ))])
abbrev f368 (aG:List aC) (aV:List bR) (dP:List (sB×Int)) (dz:List sB) (dJ:List Int) (gD:List (List aM)):Option (Int×(List (sB×Int))×(List sB)×(List Int)×(List (List aM))):=dec (jw aG aV) (Rn 174 [(.ptr 10000 0)] [(10000,(oB aG aV 10001 20002 20003 20004)),(10001,(oM 9 3 V9 V3 dP)),(20002,(oS dz)),(20003,(oI dJ)),(20004,(oA gD))])
abbrev HP (v11 v12:Int) (ak:List aC) (aq:List bR) (bF:List (sB×Int)) (bn:List sB) (aS:List Int) (bJ:List (List aM)):Option (Int×(List (sB×Int))×(List sB)×(List Int)×(List (List aM))):=dec (jw ak aq) (hT 174 2 [10000,10001,20002,20003,20004] [(1,(.ptr 1 0)),(10,(.row 20002)),(11,(pI v11)),(12,(pI v12))] [(1,(.box 166 [(.ptr 10000 0)])),(10000,(oB ak aq 10001 20002 20003 20004)),(10001,(oM 9 3 V9 V3 bF)),(20002,(oS bn)),(20003,(oI aS)),(20004,(oA bJ))])
abbrev f369 (aG:List aC) (aV:List bR) (dP:List (sB×Int)) (dz:List sB) (dJ:List Int) (gD:List (List aM)):Option (Int×(List (sB×Int))×(List sB)×(List Int)×(List (List aM))):=dec (jw aG aV) (Rn 175 [(.ptr 10000 0)] [(10000,(oB aG aV 10001 20002 20003 20004)),(10001,(oM 9 3 V9 V3 dP)),(20002,(oS dz)),(20003,(oI dJ)),(20004,(oA gD))])
abbrev Nr (od nM:Int) (ak:List aC) (aq:List bR) (bF:List (sB×Int)) (bn:List sB) (aS:List Int) (bJ:List (List aM)):Option (Int×(List (sB×Int))×(List sB)×(List Int)×(List (List aM))):=dec (jw ak aq) (hT 175 2 [10000,10001,20002,20003,20004] [(0,(.ptr 10000 0)),(15,(pI od)),(16,(pI nM))] [(10000,(oB ak aq 10001 20002 20003 20004)),(10001,(oM 9 3 V9 V3 bF)),(20002,(oS bn)),(20003,(oI aS)),(20004,(oA bJ))])
abbrev DJ (wq:List (sB×(List Int))) (od nM v26 v27:Int) (o4:List aM) (ak:List aC) (aq:List bR) (bF:List (sB×Int)) (bn:List sB) (aS:List Int) (bJ:List (List aM)):Option (Int×(List (sB×Int))×(List sB)×(List Int)×(List (List aM))):=dec (jw ak aq) (hT 175 7 [10000,10001,20002,20003,20004] [(0,(.ptr 10000 0)),(4,(.row 4)),(5,(.pv (.mp (bW V9 jx wq).1 (bW V9 jx wq).2))),(15,(pI od)),(16,(pI nM)),(25,(.row 20002)),(26,(pI v26)),(27,(pI v27))] [(4,(.row 128 2 (List.map aM.enc o4))),(10000,(oB ak aq 10001 20002 20003 20004)),(10001,(oM 9 3 V9 V3 bF)),(20002,(oS bn)),(20003,(oI aS)),(20004,(oA bJ))])
abbrev E80r.T:Type:=Unit×(List (List UInt8))
abbrev E84r.T:Type:=Unit×(List ((List UInt8)×Bool))×(List (List Int))
abbrev BN.T:Type:=Int
def BN (aG:List Int) (bp:List aC) (bl:List bR) (bP:List (sB×Int)) (bM:List sB) (cF:List Int) (cG:List (List aM)):BN.T→Out:=(fun x:Int=>((Q5 x,[(10000,(.box 60 [(pN aG)])),(10001,(.box 166 [(.ptr 10002 0)])),(10002,(oB bp bl 10003 10004 10005 10006)),(10003,(oM 9 3 V9 V3 bP)),(10004,(oS bM)),(10005,(oI cF)),(10006,(oA cG))]):Out))
instance (aG:List Int) (bp:List aC) (bl:List bR) (bP:List ((List UInt8)×Int)) (bM:List (List UInt8)) (cF:List Int) (cG:List (List aM)):cQ (BN aG bp bl bP bM cF cG):=⟨fun a b h=>by
  simp only [BN,Prod.mk.injEq,and_true] at h
  exact cQ.inj _ _ h⟩
abbrev pL.T:Type:=Int
def pL (dH:Int) (bp:List aC) (bl:List bR) (bP:List (sB×Int)) (bM:List sB) (cF:List Int) (cG:List (List aM)):pL.T→Out:=(fun x:Int=>((Q5 x,[(10000,(.box 166 [(.ptr 10002 0)])),(10001,(.box 3 [(pI dH)])),(10002,(oB bp bl 10003 10004 10005 10006)),(10003,(oM 9 3 V9 V3 bP)),(10004,(oS bM)),(10005,(oI cF)),(10006,(oA cG))]):Out))
instance (dH:Int) (bp:List aC) (bl:List bR) (bP:List ((List UInt8)×Int)) (bM:List (List UInt8)) (cF:List Int) (cG:List (List aM)):cQ (pL dH bp bl bP bM cF cG):=⟨fun a b h=>by
  simp only [pL,Prod.mk.injEq,and_true] at h
  exact cQ.inj _ _ h⟩
abbrev RX (s0 aG:List Int) (bp:List aC) (bl:List bR) (bP:List (sB×Int)) (bM:List sB) (cF:List Int) (cG:List (List aM)):Option Int:=dec (BN aG bp bl bP bM cF cG) (Rn 201 [(pN s0),(.cl 225 [.p 10000, .p 10001])] [(10000,(.box 60 [(pN aG)])),(10001,(.box 166 [(.ptr 10002 0)])),(10002,(oB bp bl 10003 10004 10005 10006)),(10003,(oM 9 3 V9 V3 bP)),(10004,(oS bM)),(10005,(oI cF)),(10006,(oA cG))])
abbrev RY (s0:List Int) (dH:Int) (bp:List aC) (bl:List bR) (bP:List (sB×Int)) (bM:List sB) (cF:List Int) (cG:List (List aM)):Option Int:=dec (pL dH bp bl bP bM cF cG) (Rn 201 [(pN s0),(.cl 226 [.p 10000, .p 10001])] [(10000,(.box 166 [(.ptr 10002 0)])),(10001,(.box 3 [(pI dH)])),(10002,(oB bp bl 10003 10004 10005 10006)),(10003,(oM 9 3 V9 V3 bP)),(10004,(oS bM)),(10005,(oI cF)),(10006,(oA cG))])
abbrev HI (s0:List Int) (v7 v8:Int) (ak:List Int) (cz:List aC) (cC:List bR) (cW:List (sB×Int)) (cZ:List sB) (gT:List Int) (gU:List (List aM)):Option Int:=dec (BN ak cz cC cW cZ gT gU) (hT 201 2 [10000,10001,10002,10003,10004,10005,10006] [(0,(pN s0)),(1,(.cl 225 [.p 10000, .p 10001])),(7,(pI v7)),(8,(pI v8))] [(10000,(.box 60 [(pN ak)])),(10001,(.box 166 [(.ptr 10002 0)])),(10002,(oB cz cC 10003 10004 10005 10006)),(10003,(oM 9 3 V9 V3 cW)),(10004,(oS cZ)),(10005,(oI gT)),(10006,(oA gU))])
abbrev HJ (s0:List Int) (v7 v8 kE:Int) (cz:List aC) (cC:List bR) (cW:List (sB×Int)) (cZ:List sB) (gT:List Int) (gU:List (List aM)):Option Int:=dec (pL kE cz cC cW cZ gT gU) (hT 201 2 [10000,10001,10002,10003,10004,10005,10006] [(0,(pN s0)),(1,(.cl 226 [.p 10000, .p 10001])),(7,(pI v7)),(8,(pI v8))] [(10000,(.box 166 [(.ptr 10002 0)])),(10001,(.box 3 [(pI kE)])),(10002,(oB cz cC 10003 10004 10005 10006)),(10003,(oM 9 3 V9 V3 cW)),(10004,(oS cZ)),(10005,(oI gT)),(10006,(oA gU))])
abbrev f380 (s0:List UInt8):Option Bool:=dec (EN Q0) (Rn 221 [(.pv (.str s0))] [])
abbrev Ai.T:Type:=Bool
def Ai (dW:aK):Ai.T→Out:=(fun x:Bool=>((Q0 x,[(10000,(.box 93 (List.map .pv (aK.enc dW))))]):Out))
instance (dW:aK):cQ (Ai dW):=⟨fun a b h=>by
  simp only [Ai,Prod.mk.injEq,and_true] at h
  exact cQ.inj _ _ h⟩
abbrev f381 (s0:List aK) (dW:aK):Option Bool:=dec (Ai dW) (Rn 222 [(pF s0),(.cl 223 [.p 10000])] [(10000,(.box 93 (List.map .pv (aK.enc dW))))])
abbrev RZ (s0:List aK) (um:List UInt8):Option Bool:=dec (EN Q0) (Rn 222 [(pF s0),(.pv (.fn 263 [(.ref [(.str um)])]))] [])
abbrev f388 (y0 dW:aK):Option Bool:=dec (Ai dW) (Rn 223 [(.pv (.agg (aK.enc y0))),(.ptr 10000 0)] [(10000,(.box 93 (List.map .pv (aK.enc dW))))])
abbrev BO.T:Type:=List Int
def BO (aG:List aC) (aV:List bR) (dP:List (sB×Int)) (fK:List sB) (bP:List Int) (bM:List (List aM)):BO.T→Out:=(fun x:List Int=>((Q15 x,[(10000,(oB aG aV 10001 10002 10003 10004)),(10001,(oM 9 3 V9 V3 dP)),(10002,(oS fK)),(10003,(oI bP)),(10004,(oA bM))]):Out))
instance (aG:List aC) (aV:List bR) (dP:List ((List UInt8)×Int)) (fK:List (List UInt8)) (bP:List Int) (bM:List (List aM)):cQ (BO aG aV dP fK bP bM):=⟨fun a b h=>by
  simp only [BO,Prod.mk.injEq,and_true] at h
  exact cQ.inj _ _ h⟩
abbrev f376 (pX:List UInt8) (aG:List aC) (aV:List bR) (dP:List (sB×Int)) (fK:List sB) (bP:List Int) (bM:List (List aM)):Option (List Int):=dec (BO aG aV dP fK bP bM) (Rn 224 [(.ptr 10000 0),(.pv (.str pX))] [(10000,(oB aG aV 10001 10002 10003 10004)),(10001,(oM 9 3 V9 V3 dP)),(10002,(oS fK)),(10003,(oI bP)),(10004,(oA bM))])
abbrev DK (Cy:List UInt8) (v11:List aC) (v12 rB:Int) (o5:List Int) (ak:List aC) (aq:List bR) (bF:List (sB×Int)) (eN:List sB) (cW:List Int) (cZ:List (List aM)):Option (List Int):=dec (BO ak aq bF eN cW cZ) (hT 224 3 [10000,10001,10002,10003,10004] [(0,(.ptr 10000 0)),(3,(.cp [(.str Cy)])),(5,(.row 5)),(11,(pT v11)),(12,(pI v12)),(13,(pI rB))] [(5,(oI o5)),(10000,(oB ak aq 10001 10002 10003 10004)),(10001,(oM 9 3 V9 V3 bF)),(10002,(oS eN)),(10003,(oI cW)),(10004,(oA cZ))])
abbrev EJ.T:Type:=Bool
def EJ (aG:List Int) (bp:List aC) (bl:List bR) (bP:List (sB×Int)) (bM:List sB) (cF:List Int) (cG:List (List aM)):EJ.T→Out:=(fun x:Bool=>((Q0 x,[(10000,(.box 60 [(pN aG)])),(10001,(.box 166 [(.ptr 10002 0)])),(10002,(oB bp bl 10003 10004 10005 10006)),(10003,(oM 9 3 V9 V3 bP)),(10004,(oS bM)),(10005,(oI cF)),(10006,(oA cG))]):Out))
instance (aG:List Int) (bp:List aC) (bl:List bR) (bP:List ((List UInt8)×Int)) (bM:List (List UInt8)) (cF:List Int) (cG:List (List aM)):cQ (EJ aG bp bl bP bM cF cG):=⟨fun a b h=>by
  simp only [EJ,Prod.mk.injEq,and_true] at h
  exact cQ.inj _ _ h⟩
abbrev f382 (a0:Int) (aG:List Int) (bp:List aC) (bl:List bR) (bP:List (sB×Int)) (bM:List sB) (cF:List Int) (cG:List (List aM)):Option Bool:=dec (EJ aG bp bl bP bM cF cG) (Rn 225 [(pI a0),(.ptr 10000 0),(.ptr 10001 0)] [(10000,(.box 60 [(pN aG)])),(10001,(.box 166 [(.ptr 10002 0)])),(10002,(oB bp bl 10003 10004 10005 10006)),(10003,(oM 9 3 V9 V3 bP)),(10004,(oS bM)),(10005,(oI cF)),(10006,(oA cG))])
abbrev f390 (b0 dH:Int) (bp:List aC) (bl:List bR) (bP:List (sB×Int)) (bM:List sB) (cF:List Int) (cG:List (List aM)):Option Bool:=dec (K3 dH bp bl bP bM cF cG) (Rn 226 [(pI b0),(.ptr 10000 0),(.ptr 10001 0)] [(10000,(.box 166 [(.ptr 10002 0)])),(10001,(.box 3 [(pI dH)])),(10002,(oB bp bl 10003 10004 10005 10006)),(10003,(oM 9 3 V9 V3 bP)),(10004,(oS bM)),(10005,(oI cF)),(10006,(oA cG))])
abbrev xy.T:Type:=List ((List UInt8)×(List Int))
def xy (aG:List aC) (aV:List bR) (dP:List (sB×Int)) (fK:List sB) (bP:List Int) (bM:List (List aM)):xy.T→Out:=(fun x:List (sB×(List Int))=>((Q36 x,[(10000,(oB aG aV 10001 10002 10003 10004)),(10001,(oM 9 3 V9 V3 dP)),(10002,(oS fK)),(10003,(oI bP)),(10004,(oA bM))]):Out))
instance (aG:List aC) (aV:List bR) (dP:List ((List UInt8)×Int)) (fK:List (List UInt8)) (bP:List Int) (bM:List (List aM)):cQ (xy aG aV dP fK bP bM):=⟨fun a b h=>by
  simp only [xy,Prod.mk.injEq,and_true] at h
  exact cQ.inj _ _ h⟩
abbrev f377 (i1:Int) (aG:List aC) (aV:List bR) (dP:List (sB×Int)) (fK:List sB) (bP:List Int) (bM:List (List aM)):Option (List (sB×(List Int))):=dec (xy aG aV dP fK bP bM) (Rn 227 [(.ptr 10000 0),(pI i1)] [(10000,(oB aG aV 10001 10002 10003 10004)),(10001,(oM 9 3 V9 V3 dP)),(10002,(oS fK)),(10003,(oI bP)),(10004,(oA bM))])
abbrev HQ (i1:Int) (nM:List aC) (v17 DZ:Int) (fS:List (sB×(List Int))) (ak:List aC) (aq:List bR) (bF:List (sB×Int)) (eN:List sB) (cW:List Int) (cZ:List (List aM)):Option (List (sB×(List Int))):=dec (xy ak aq bF eN cW cZ) (hT 227 4 [10000,10001,10002,10003,10004] [(1,(pI i1)),(2,(.ptr 2 0)),(5,(.ptr 5 0)),(6,(.cl 264 [.p 2, .p 5])),(16,(pT nM)),(17,(pI v17)),(18,(pI DZ))] [(2,(.box 166 [(.ptr 10000 0)])),(5,(.box 256 [(.row 11)])),(11,(oM 9 110 V9 jx fS)),(10000,(oB ak aq 10001 10002 10003 10004)),(10001,(oM 9 3 V9 V3 bF)),(10002,(oS eN)),(10003,(oI cW)),(10004,(oA cZ))])
abbrev HR (i1:Int) (nM:List aC) (v17 DZ:Int) (v36:List aK) (v37 v38:Int) (o8:aC) (fS:List (sB×(List Int))) (ak:List aC) (aq:List bR) (bF:List (sB×Int)) (eN:List sB) (cW:List Int) (cZ:List (List aM)):Option (List (sB×(List Int))):=dec (xy ak aq bF eN cW cZ) (hT 227 8 [10000,10001,10002,10003,10004] [(1,(pI i1)),(2,(.ptr 2 0)),(5,(.ptr 5 0)),(6,(.cl 264 [.p 2, .p 5])),(16,(pT nM)),(17,(pI v17)),(18,(pI DZ)),(36,(pF v36)),(37,(pI v37)),(38,(pI v38))] [(2,(.box 166 [(.ptr 10000 0)])),(5,(.box 256 [(.row 11)])),(8,(.box 90 (List.map .pv (aC.enc o8)))),(11,(oM 9 110 V9 jx fS)),(10000,(oB ak aq 10001 10002 10003 10004)),(10001,(oM 9 3 V9 V3 bF)),(10002,(oS eN)),(10003,(oI cW)),(10004,(oA cZ))])
abbrev f18 (l0:List bR) (ZT:List Int):Option Int:=dec (EN Q5) (Rn 228 [(pC l0),(pU ZT)] [])
abbrev E117r.T:Type:=Nat×(List (List UInt8))
abbrev BP.T:Type:=Int
def BP (dW:aK):BP.T→Out:=(fun x:Int=>((Q5 x,[(10000,(.box 93 (List.map .pv (aK.enc dW))))]):Out))
instance (dW:aK):cQ (BP dW):=⟨fun a b h=>by
  simp only [BP,Prod.mk.injEq,and_true] at h
  exact cQ.inj _ _ h⟩
abbrev f384 (s0:List aK) (dW:aK):Option Int:=dec (BP dW) (Rn 262 [(pF s0),(.cl 223 [.p 10000])] [(10000,(.box 93 (List.map .pv (aK.enc dW))))])
abbrev R1 (s0:List aK) (um:List UInt8):Option Int:=dec (EN Q5) (Rn 262 [(pF s0),(.pv (.fn 263 [(.ref [(.str um)])]))] [])
abbrev HS (s0:List aK) (v7 v8:Int) (fQ:aK):Option Int:=dec (BP fQ) (hT 262 2 [10000] [(0,(pF s0)),(1,(.cl 223 [.p 10000])),(7,(pI v7)),(8,(pI v8))] [(10000,(.box 93 (List.map .pv (aK.enc fQ))))])
abbrev BE (s0:List aK) (um:List UInt8) (v7 v8:Int):Option Int:=dec (EN Q5) (hT 262 2 [] [(0,(pF s0)),(1,(.pv (.fn 263 [(.ref [(.str um)])]))),(7,(pI v7)),(8,(pI v8))] [])
abbrev f389 (f0:aK) (a1:List UInt8):Option Bool:=dec (EN Q0) (Rn 263 [(.pv (.agg (aK.enc f0))),(.pv (.ref [(.str a1)]))] [])
abbrev EL.T:Type:=Unit×(List ((List UInt8)×(List Int)))
def EL (bp:List aC) (bl:List bR) (bM:List (sB×Int)) (cF:List sB) (cG:List Int) (nu:List (List aM)):EL.T→Out:=(fun x:Unit×(List (sB×(List Int)))=>((Q18 x.1,[(10000,(.box 166 [(.ptr 10002 0)])),(10001,(.box 256 [(.row 10003)])),(10002,(oB bp bl 10004 10005 10006 10007)),(10003, .mp 9 110 (bW V9 jx x.2).1 (bW V9 jx x.2).2),(10004,(oM 9 3 V9 V3 bM)),(10005,(oS cF)),(10006,(oI cG)),(10007,(oA nu))]):Out))
instance (bp:List aC) (bl:List bR) (bM:List ((List UInt8)×Int)) (cF:List (List UInt8)) (cG:List Int) (nu:List (List aM)):cQ (EL bp bl bM cF cG nu):=⟨fun a b h=>by
  obtain ⟨a0,a1⟩:=a
  obtain ⟨b0,b1⟩:=b
  simp only [EL,Prod.mk.injEq,List.cons.injEq,Ob.row.injEq,Ob.mp.injEq,Ob.lp.injEq,Ob.box.injEq,and_true,true_and] at h
  have h0:a0=b0:=rfl
  have h1:=h
  rw [h0,mM (K:=V9) (V:=jx) h1.1 h1.2]⟩
abbrev f385 (f0:aK) (bp:List aC) (bl:List bR) (bP:List (sB×(List Int))) (bM:List (sB×Int)) (cF:List sB) (cG:List Int) (nu:List (List aM)):Option (Unit×(List (sB×(List Int)))):=dec (EL bp bl bM cF cG nu) (Rn 264 [(.pv (.agg (aK.enc f0))),(.ptr 10000 0),(.ptr 10001 0)] [(10000,(.box 166 [(.ptr 10002 0)])),(10001,(.box 256 [(.row 10003)])),(10002,(oB bp bl 10004 10005 10006 10007)),(10003,(oM 9 110 V9 jx bP)),(10004,(oM 9 3 V9 V3 bM)),(10005,(oS cF)),(10006,(oI cG)),(10007,(oA nu))])
abbrev EK.T:Type:=List Int
def EK (aG:List aC) (aV:List bR) (dP:List (sB×Int)) (fK:List sB) (bP:List Int) (bM:List (List aM)):EK.T→Out:=(fun x:List Int=>((Q21 x,[(10000,(oB aG aV 10001 10002 10003 10004)),(10001,(oM 9 3 V9 V3 dP)),(10002,(oS fK)),(10003,(oI bP)),(10004,(oA bM))]):Out))
instance (aG:List aC) (aV:List bR) (dP:List ((List UInt8)×Int)) (fK:List (List UInt8)) (bP:List Int) (bM:List (List aM)):cQ (EK aG aV dP fK bP bM):=⟨fun a b h=>by
  simp only [EK,Prod.mk.injEq,and_true] at h
  exact cQ.inj _ _ h⟩
abbrev f383 (name1:List UInt8) (aG:List aC) (aV:List bR) (dP:List (sB×Int)) (fK:List sB) (bP:List Int) (bM:List (List aM)):Option (List Int):=dec (EK aG aV dP fK bP bM) (Rn 265 [(.ptr 10000 0),(.pv (.str name1))] [(10000,(oB aG aV 10001 10002 10003 10004)),(10001,(oM 9 3 V9 V3 dP)),(10002,(oS fK)),(10003,(oI bP)),(10004,(oA bM))])
end
end Go.Proofs.YthppjmoncapdfaaGreatDoor.cl
