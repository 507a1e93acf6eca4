/- The functions and loops as plain ones, by program (decomp4.p. -/
import Derived.Test.YtmidjldjkbljjaaGreatDoorClT
set_option linter.unusedVariables false
set_option linter.unusedSimpArgs false
set_option maxRecDepth 100000
namespace Go.Proofs.YtmidjldjkbljjaaGreatDoor.cl
noncomputable section
open Go Go.AM
def f300 (d0:List af):Option Bool:=dec (EN Q0) (Rn 3 [(pT d0)] [])
def f301 (d0:List af):Option Bool:=dec (EN Q0) (Rn 4 [(pT d0)] [])
def f302 (d0:List af):Option Bool:=dec (EN Q0) (Rn 5 [(pT d0)] [])
def f303 (v0:List (List ai)):Option Bool:=dec (EN Q0) (Rn 6 [(.pv (.bS 1 (List.map (bf 2 ai.enc) v0)))] [])
def uF (v0:List (List ai)) (v11 v12:Int):Option Bool:=dec (EN Q0) (hT 6 4 [] [(0,(.pv (.bS 1 (List.map (bf 2 ai.enc) v0)))),(11,(pI v11)),(12,(pI v12))] [])
def By (v0:List (List ai)) (v11 v12:Int) (v25:List ai) (v26 v27:Int):Option Bool:=dec (EN Q0) (hT 6 9 [] [(0,(.pv (.bS 1 (List.map (bf 2 ai.enc) v0)))),(11,(pI v11)),(12,(pI v12)),(25,(pP v25)),(26,(pI v26)),(27,(pI v27))] [])
def f304 (d0:List af):Option Bool:=dec (EN Q0) (Rn 7 [(pT d0)] [])
def x4 (l3:List ak) (f4:List aF) (v5:List (List ai)) (v33 gB:Int):Option Bool:=dec (EN Q0) (hT 7 7 [] [(3,(pC l3)),(4,(.pv (.bS 2 (List.map aF.enc f4)))),(5,(.pv (.bS 1 (List.map (bf 2 ai.enc) v5)))),(33,(pI v33)),(34,(pI gB))] [])
def td (l3:List ak) (f4:List aF) (v5:List (List ai)) (t7 v33 gB v38 v39:Int):Option Bool:=dec (EN Q0) (hT 7 10 [] [(3,(pC l3)),(4,(.pv (.bS 2 (List.map aF.enc f4)))),(5,(.pv (.bS 1 (List.map (bf 2 ai.enc) v5)))),(7,(pI t7)),(33,(pI v33)),(34,(pI gB)),(38,(pI v38)),(39,(pI v39))] [])
def mQ (l3:List ak) (f4:List aF) (v5:List (List ai)) (t7 i8 x9:Int) (vo:Bool) (v33 gB v38 v39 v93 Tn:Int):Option Bool:=dec (EN Q0) (hT 7 16 [] [(3,(pC l3)),(4,(.pv (.bS 2 (List.map aF.enc f4)))),(5,(.pv (.bS 1 (List.map (bf 2 ai.enc) v5)))),(7,(pI t7)),(8,(pI i8)),(9,(pI x9)),(10,(.pv (.bool vo))),(33,(pI v33)),(34,(pI gB)),(38,(pI v38)),(39,(pI v39)),(93,(pI v93)),(94,(pI Tn))] [])
def f305 (d0:List af):Option Bool:=dec (EN Q0) (Rn 8 [(pT d0)] [])
def x5 (d0:List af) (l3:List ak) (f4:List aF) (v5:List (List ai)) (v39 v40:Int) (kK:List Bool):Option Bool:=dec (EN Q0) (hT 8 8 [] [(0,(pT d0)),(3,(pC l3)),(4,(.pv (.bS 2 (List.map aF.enc f4)))),(5,(.pv (.bS 1 (List.map (bf 2 ai.enc) v5)))),(7,(.row 37)),(39,(pI v39)),(40,(pI v40))] [(37,(.row 4 1 (List.map dS kK)))])
def jb (d0:List af) (l3:List ak) (f4:List aF) (v5:List (List ai)) (t9 v39 v40:Int) (v54:List aq) (v55 IB:Int) (kK:List Bool):Option Bool:=dec (EN Q0) (hT 8 12 [] [(0,(pT d0)),(3,(pC l3)),(4,(.pv (.bS 2 (List.map aF.enc f4)))),(5,(.pv (.bS 1 (List.map (bf 2 ai.enc) v5)))),(7,(.row 37)),(9,(pI t9)),(39,(pI v39)),(40,(pI v40)),(54,(pF v54)),(55,(pI v55)),(56,(pI IB))] [(37,(.row 4 1 (List.map dS kK)))])
def tf (f4:List aF) (v131 wF:Int) (kK:List Bool):Option Bool:=dec (EN Q0) (hT 8 25 [] [(4,(.pv (.bS 2 (List.map aF.enc f4)))),(7,(.row 37)),(131,(pI v131)),(132,(pI wF))] [(37,(.row 4 1 (List.map dS kK)))])
def f306 (d0:List af):Option Bool:=dec (EN Q0) (Rn 9 [(pT d0)] [])
def uG (d0:List af) (v17 jA:Int) (o3:List af):Option Bool:=dec (EN Q0) (hT 9 5 [] [(0,(pT d0)),(3,(.row 3)),(17,(pI v17)),(18,(pI jA))] [(3,(.row 52 3 (List.map af.enc o3)))])
def wk (v9:List (List ai)) (v83 v84:Int):Option Bool:=dec (EN Q0) (hT 9 15 [] [(9,(.pv (.bS 1 (List.map (bf 2 ai.enc) v9)))),(83,(pI v83)),(84,(pI v84))] [])
def f315 (d0:List af):Option Bool:=dec (EN Q0) (Rn 19 [(pT d0)] [])
def f316 :Option Bool:=dec (EN Q0) (Rn 20 [] [])
def f317 (d0:List af):Option Int:=dec (EN Q1) (Rn 21 [(pT d0)] [])
def f318 (d0:List af):Option Int:=dec (EN Q1) (Rn 22 [(pT d0)] [])
def zL (d0:List af) (l3:List ak) (f5:List sB) (i7:Int):Option Int:=dec (EN Q1) (hT 22 11 [] [(0,(pT d0)),(3,(pC l3)),(5,(pS f5)),(7,(pI i7))] [])
def wm (d0:List af) (l3:List ak) (f5:List sB) (t10:Int):Option Int:=dec (EN Q1) (hT 22 17 [] [(0,(pT d0)),(3,(pC l3)),(5,(pS f5)),(10,(pI t10))] [])
def wq (d0:List af) (l3:List ak) (f5:List sB) (t10 i11:Int):Option Int:=dec (EN Q1) (hT 22 20 [] [(0,(pT d0)),(3,(pC l3)),(5,(pS f5)),(10,(pI t10)),(11,(pI i11))] [])
def f319 (d0:List af):Option ((List aF)×Int):=dec (EN Q2) (Rn 23 [(pT d0)] [])
def x6 (t4:Option table) (v20:List sB) (v21 v22:Int) (o6:List aF):Option ((List aF)×Int):=dec (EN Q2) (hT 23 6 [] [(4,(.pv (zl table.enc t4))),(6,(.row 6)),(20,(pS v20)),(21,(pI v21)),(22,(pI v22))] [(6,(.row 45 2 (List.map aF.enc o6)))])
def f320 (d0:List af):Option ((List aF)×Int):=dec (EN Q2) (Rn 24 [(pT d0)] [])
def Bz (d0:List af) (l5:List ak) (f7:List sB) (i9:Int) (o8:List aF):Option ((List aF)×Int):=dec (EN Q2) (hT 24 8 [] [(0,(pT d0)),(5,(pC l5)),(7,(pS f7)),(8,(.row 8)),(9,(pI i9))] [(8,(.row 45 2 (List.map aF.enc o8)))])
def f321 (a0 b1:List aF):Option Bool:=dec (EN Q0) (Rn 25 [(.pv (.bS 2 (List.map aF.enc a0))),(.pv (.bS 2 (List.map aF.enc b1)))] [])
def FC (a0 b1:List aF) (i5:Int):Option Bool:=dec (EN Q0) (hT 25 4 [] [(0,(.pv (.bS 2 (List.map aF.enc a0)))),(1,(.pv (.bS 2 (List.map aF.enc b1)))),(5,(pI i5))] [])
def f322 (d0:List af):Option ((List (List ai))×Int):=dec (EN Q3) (Rn 26 [(pT d0)] [])
def f323 (d0:List af):Option ((List (List ai))×Int):=dec (EN Q3) (Rn 27 [(pT d0)] [])
def x7 (d0:List af) (l5:List ak) (f7:List sB) (t9:Int) (o8:List (List ai)):Option ((List (List ai))×Int):=dec (EN Q3) (hT 27 8 [] [(0,(pT d0)),(5,(pC l5)),(7,(pS f7)),(8,(.row 8)),(9,(pI t9))] [(8,(oA o8))])
def tg (d0:List af) (l5:List ak) (f7:List sB) (t9 i11:Int) (o8:List (List ai)) (fT:List ai):Option ((List (List ai))×Int):=dec (EN Q3) (hT 27 12 [] [(0,(pT d0)),(5,(pC l5)),(7,(pS f7)),(8,(.row 8)),(9,(pI t9)),(10,(.row 10)),(11,(pI i11))] [(8,(oA o8)),(10,(.row 37 2 (List.map ai.enc fT)))])
def f324 (a0 b1:List (List ai)):Option Bool:=dec (EN Q0) (Rn 28 [(.pv (.bS 1 (List.map (bf 2 ai.enc) a0))),(.pv (.bS 1 (List.map (bf 2 ai.enc) b1)))] [])
def FD (a0 b1:List (List ai)) (i5:Int):Option Bool:=dec (EN Q0) (hT 28 4 [] [(0,(.pv (.bS 1 (List.map (bf 2 ai.enc) a0)))),(1,(.pv (.bS 1 (List.map (bf 2 ai.enc) b1)))),(5,(pI i5))] [])
def f347 (v0:List (List ai)):Option Bool:=dec (EN Q0) (Rn 29 [(.pv (.bS 1 (List.map (bf 2 ai.enc) v0)))] [])
def BE (v0:List (List ai)) (v9 v10:Int) (o7:List (Int×Bool)):Option Bool:=dec (EN Q0) (hT 29 3 [] [(0,(.pv (.bS 1 (List.map (bf 2 ai.enc) v0)))),(3,(.ptr 3 0)),(9,(pI v9)),(10,(pI v10))] [(3,(.box 104 [(.row 7)])),(7,(oM 3 4 V3 V4 o7))])
def x8 (v0:List (List ai)) (gf:Bool) (o7:List (Int×Bool)):Option Bool:=dec (EN Q0) (hT 29 8 [] [(0,(.pv (.bS 1 (List.map (bf 2 ai.enc) v0)))),(3,(.ptr 3 0)),(5,(.pv (.bool gf)))] [(3,(.box 104 [(.row 7)])),(7,(oM 3 4 V3 V4 o7))])
def oz (v0:List (List ai)) (gf:Bool) (jA j0:Int) (o7:List (Int×Bool)):Option Bool:=dec (EN Q0) (hT 29 11 [] [(0,(.pv (.bS 1 (List.map (bf 2 ai.enc) v0)))),(3,(.ptr 3 0)),(5,(.pv (.bool gf))),(18,(pI jA)),(19,(pI j0))] [(3,(.box 104 [(.row 7)])),(7,(oM 3 4 V3 V4 o7))])
def f348 (v0:List (List ai)):Option Bool:=dec (EN Q0) (Rn 30 [(.pv (.bS 1 (List.map (bf 2 ai.enc) v0)))] [])
def uI (v0:List (List ai)) (n4:Int) (lX:Bool) (fB:List Bool):Option Bool:=dec (EN Q0) (hT 30 4 [] [(0,(.pv (.bS 1 (List.map (bf 2 ai.enc) v0)))),(3,(.row 11)),(4,(pI n4)),(5,(.pv (.bool lX)))] [(11,(.row 4 1 (List.map dS fB)))])
def sD (v0:List (List ai)) (n4:Int) (lX:Bool) (i6:Int) (fB:List Bool):Option Bool:=dec (EN Q0) (hT 30 7 [] [(0,(.pv (.bS 1 (List.map (bf 2 ai.enc) v0)))),(3,(.row 11)),(4,(pI n4)),(5,(.pv (.bool lX))),(6,(pI i6))] [(11,(.row 4 1 (List.map dS fB)))])
def wu (v0:List (List ai)) (n4:Int) (lX:Bool) (i6:Int) (Of:Bool) (k8:Int) (fB:List Bool):Option Bool:=dec (EN Q0) (hT 30 11 [] [(0,(.pv (.bS 1 (List.map (bf 2 ai.enc) v0)))),(3,(.row 11)),(4,(pI n4)),(5,(.pv (.bool lX))),(6,(pI i6)),(7,(.pv (.bool Of))),(8,(pI k8))] [(11,(.row 4 1 (List.map dS fB)))])
def f325 (d0:List af):Option ((List ak)×(List aF)×(List (List ai))×Bool):=dec (EN Q4) (Rn 31 [(pT d0)] [])
def f360 (l0:List ai) (f1:Int):Option (Int×Bool):=dec (EN Q8) (Rn 32 [(pP l0),(pI f1)] [])
def BH (f1:Int) (v8:List ai) (v9 v10:Int):Option (Int×Bool):=dec (EN Q8) (hT 32 2 [] [(1,(pI f1)),(8,(pP v8)),(9,(pI v9)),(10,(pI v10))] [])
def f24 (l0:List ak) (i1 j2:Int):Option Bool:=dec (EN Q0) (Rn 33 [(pC l0),(pI i1),(pI j2)] [])
def f349 (l0:List ak) (bW:List UInt8):Option Int:=dec (EN Q1) (Rn 34 [(pC l0),(.pv (.str bW))] [])
def BF (l0:List ak) (bW:List UInt8) (v7 v8:Int):Option Int:=dec (EN Q1) (hT 34 2 [] [(0,(pC l0)),(1,(.pv (.str bW))),(7,(pI v7)),(8,(pI v8))] [])
def f361 (l0:List aF) (bW:List UInt8):Option Int:=dec (EN Q1) (Rn 35 [(.pv (.bS 2 (List.map aF.enc l0))),(.pv (.str bW))] [])
def BI (l0:List aF) (bW:List UInt8) (v7 v8:Int):Option Int:=dec (EN Q1) (hT 35 2 [] [(0,(.pv (.bS 2 (List.map aF.enc l0)))),(1,(.pv (.str bW))),(7,(pI v7)),(8,(pI v8))] [])
def f14 (d0:List af):Option ((List ak)×Int):=dec (EN Q10) (Rn 36 [(pT d0)] [])
def qN (d0:List af) (fO:List sB) (dm gB:List (List Int)) (v35 v36:Int) (o9:List ak):Option ((List ak)×Int):=dec (EN Q10) (hT 36 10 [] [(0,(pT d0)),(5,(pS fO)),(6,(.pv (.bS 1 (List.map (bf 1 (aD .u64)) dm)))),(9,(.row 9)),(34,(.pv (.bS 1 (List.map (bf 1 (aD .u64)) gB)))),(35,(pI v35)),(36,(pI v36))] [(9,(.row 108 2 (List.map ak.enc o9)))])
def xZ (d0:List af) (fO:List sB) (dm gB:List (List Int)) (v35 v36:Int) (v53:List Int) (v54 v55:Int) (o9:List ak) (zw:ak) (ux:List sB):Option ((List ak)×Int):=dec (EN Q10) (hT 36 18 [] [(0,(pT d0)),(5,(pS fO)),(6,(.pv (.bS 1 (List.map (bf 1 (aD .u64)) dm)))),(9,(.row 9)),(12,(.ptr 12 0)),(14,(.row 14)),(34,(.pv (.bS 1 (List.map (bf 1 (aD .u64)) gB)))),(35,(pI v35)),(36,(pI v36)),(53,(pN v53)),(54,(pI v54)),(55,(pI v55))] [(9,(.row 108 2 (List.map ak.enc o9))),(12,(.box 108 (List.map .pv (ak.enc zw)))),(14,(oS ux))])
def f391 (L6 Fv:List UInt8) (jM:List sB):Option af:=dec (EN Q12) (Rn 37 [(.pv (.str L6)),(.pv (.str Fv)),(pS jM)] [])
def BN (jM:List sB) (i8:Int) (o6:af) (KE:List UInt8) (KF Dj:List sB) (Dk:List aq) (Dl:List sB) (rZ:List aq):Option af:=dec (EN Q12) (hT 37 3 [] [(2,(pS jM)),(6,(.ptr 6 0)),(7,(.ptr 7 0)),(8,(pI i8))] [(6,(.box 52 (List.map .pv (af.enc o6)))),(7,(.box 52 [(.pv (.str KE)),(pS KF),(.row 5194)])),(5113,(oS Dj)),(5114,(.row 54 2 (List.map aq.enc Dk))),(5193,(oS Dl)),(5194,(.row 54 2 (List.map aq.enc rZ)))])
def f15 (d0:List af):Option ((List ak)×Int):=dec (EN Q10) (Rn 63 [(pT d0)] [])
def HZ (d0:List af) (jX:List sB) (i7:Int) (o6:List (List Int)):Option ((List ak)×Int):=dec (EN Q10) (hT 63 7 [] [(0,(pT d0)),(5,(pS jX)),(6,(.row 6)),(7,(pI i7))] [(6,(.row 74 1 (List.map (bf 1 (aD .u64)) o6)))])
def qO (d0:List af) (jX:List sB) (dm f8:List (List Int)) (cW:List ak) (i10:Int):Option ((List ak)×Int):=dec (EN Q10) (hT 63 15 [] [(0,(pT d0)),(5,(pS jX)),(6,(.pv (.bS 1 (List.map (bf 1 (aD .u64)) dm)))),(8,(.pv (.bS 1 (List.map (bf 1 (aD .u64)) f8)))),(9,(pC cW)),(10,(pI i10))] [])
def Bx (d0:List af) (jX:List sB) (dm f8:List (List Int)) (cW:List ak) (i10 v12:Int) (fB:ak):Option ((List ak)×Int):=dec (EN Q10) (hT 63 19 [] [(0,(pT d0)),(5,(pS jX)),(6,(.pv (.bS 1 (List.map (bf 1 (aD .u64)) dm)))),(8,(.pv (.bS 1 (List.map (bf 1 (aD .u64)) f8)))),(9,(pC cW)),(10,(pI i10)),(11,(.ptr 11 0)),(12,(pI v12))] [(11,(.box 108 (List.map .pv (ak.enc fB))))])
def f29 (a0 b1:List Int):Option (List Int):=dec (EN Q11) (Rn 64 [(pU a0),(pU b1)] [])
def DF (a0 b1:List Int) (rq gG:Int) (zw:List Int):Option (List Int):=dec (EN Q11) (hT 64 3 [] [(0,(pU a0)),(1,(pU b1)),(5,(.row 12)),(14,(pI rq)),(15,(pI gG))] [(12,(.row 134 1 (List.map (aD .u64) zw)))])
def f31 (a0 b1:List Int):Option Bool:=dec (EN Q0) (Rn 66 [(pU a0),(pU b1)] [])
def f38 (d0:List af):Option Bool:=dec (EN Q0) (Rn 69 [(pT d0)] [])
def Mn (d0:List af) (i3:Int):Option Bool:=dec (EN Q0) (hT 69 4 [] [(0,(pT d0)),(3,(pI i3))] [])
def f344 (d0:List af):Option ((Option table)×Int):=dec (EN Q13) (Rn 70 [(pT d0)] [])
def uH (Ac:List ak) (v24:List af) (v25 v26:Int) (YV:List (sB×Int)) (jw:List af) (jx:List ak) (Me:List af) (Mf:List ak) (Hw:List sB) (Hx:List Int) (Hy:List (List ai)):Option ((Option table)×Int):=dec (EN Q13) (hT 70 6 [] [(4,(pC Ac)),(6,(.ptr 23 0)),(24,(pT v24)),(25,(pI v25)),(26,(pI v26))] [(21,(oM 9 3 V9 V3 YV)),(23,(oB jw jx 21 5355 5356 5357)),(5352,(.row 52 3 (List.map af.enc Me))),(5353,(.row 108 2 (List.map ak.enc Mf))),(5355,(oS Hw)),(5356,(oI Hx)),(5357,(oA Hy))])
def f345 (d0:List af):Option (List sB):=dec (EN Q14) (Rn 71 [(pT d0)] [])
def BB (d0:List af) (r6:List sB) (i4:Int):Option (List sB):=dec (EN Q14) (hT 71 3 [] [(0,(pT d0)),(3,(pS r6)),(4,(pI i4))] [])
def FE (d0:List af) (r6:List sB) (i4 k5:Int):Option (List sB):=dec (EN Q14) (hT 71 6 [] [(0,(pT d0)),(3,(pS r6)),(4,(pI i4)),(5,(pI k5))] [])
def f346 (d0:List af):Option Int:=dec (EN Q1) (Rn 72 [(pT d0)] [])
def BC (d0:List af) (rB:List sB) (i4:Int):Option Int:=dec (EN Q1) (hT 72 3 [] [(0,(pT d0)),(3,(pS rB)),(4,(pI i4))] [])
def BD (d0:List af) (rB:List sB) (i4:Int) (l5:List aq) (k6:Int):Option Int:=dec (EN Q1) (hT 72 7 [] [(0,(pT d0)),(3,(pS rB)),(4,(pI i4)),(5,(pF l5)),(6,(pI k6))] [])
def zM (d0:List af) (rB:List sB) (i4:Int) (l5:List aq) (k6 m7:Int):Option Int:=dec (EN Q1) (hT 72 12 [] [(0,(pT d0)),(3,(pS rB)),(4,(pI i4)),(5,(pF l5)),(6,(pI k6)),(7,(pI m7))] [])
def f357 (d0:List af) (fH:List UInt8):Option (sB×Bool):=dec (EN Q15) (Rn 73 [(pT d0),(.pv (.str fH))] [])
def BG (d0:List af) (fH:List UInt8) (yh:List sB) (i7:Int):Option (sB×Bool):=dec (EN Q15) (hT 73 3 [] [(0,(pT d0)),(1,(.pv (.str fH))),(6,(pS yh)),(7,(pI i7))] [])
def f370 (d0:List af) (l1:List ak) (t2:Int) (iq:List UInt8):Option ((List Int)×Bool):=dec (EN Q19) (Rn 74 [(pT d0),(pC l1),(pI t2),(.pv (.str iq))] [])
def yb (d0:List af) (l1:List ak) (t2:Int) (iq:List UInt8) (vo:Bool) (ua:List Int) (i12:Int):Option ((List Int)×Bool):=dec (EN Q19) (hT 74 4 [] [(0,(pT d0)),(1,(pC l1)),(2,(pI t2)),(3,(.pv (.str iq))),(10,(.pv (.bool vo))),(11,(pU ua)),(12,(pI i12))] [])
def f358 (l0:List ak) (bW:List UInt8):Option Int:=dec (EN Q1) (Rn 75 [(pC l0),(.pv (.str bW))] [])
def FF (l0:List ak) (bW:List UInt8) (i5:Int):Option Int:=dec (EN Q1) (hT 75 2 [] [(0,(pC l0)),(1,(.pv (.str bW))),(5,(pI i5))] [])
def f19 (l0:List ak) (b1:List Int):Option Int:=dec (EN Q1) (Rn 76 [(pC l0),(pU b1)] [])
def Ml (l0:List ak) (n5:List Int) (i6:Int):Option Int:=dec (EN Q1) (hT 76 3 [] [(0,(pC l0)),(5,(pU n5)),(6,(pI i6))] [])
def f359 (a0 b1:List ai):Option Bool:=dec (EN Q0) (Rn 77 [(pP a0),(pP b1)] [])
def FG (a0 b1:List ai) (i5:Int):Option Bool:=dec (EN Q0) (hT 77 4 [] [(0,(pP a0)),(1,(pP b1)),(5,(pI i5))] [])
abbrev yq.T:Type:=Bool
def yq (bF:List (Int×Bool)):yq.T→Out:=(fun x:Bool=>((Q0 x,[(10000,(.box 104 [(.row 10001)])),(10001,(oM 3 4 V3 V4 bF))]):Out))
instance (bF:List (Int×Bool)):c4 (yq bF):=⟨fun a b h=>by
  simp only [yq,Prod.mk.injEq,and_true] at h
  exact c4.inj _ _ h⟩
def f378 (s0:List ai) (bF:List (Int×Bool)):Option Bool:=dec (yq bF) (Rn 78 [(pP s0),(.cl 79 [.p 10000])] [(10000,(.box 104 [(.row 10001)])),(10001,(oM 3 4 V3 V4 bF))])
def f386 (a0:ai) (bF:List (Int×Bool)):Option Bool:=dec (yq bF) (Rn 79 [(.pv (.agg (ai.enc a0))),(.ptr 10000 0)] [(10000,(.box 104 [(.row 10001)])),(10001,(oM 3 4 V3 V4 bF))])
def f63 (a0 b1:List Int):Option Bool:=dec (EN Q0) (Rn 80 [(pU a0),(pU b1)] [])
def Ij (b1 v7:List Int) (v8 v9:Int):Option Bool:=dec (EN Q0) (hT 80 2 [] [(1,(pU b1)),(7,(pU v7)),(8,(pI v8)),(9,(pI v9))] [])
def f39 (d0:List af):Option Int:=dec (EN Q1) (Rn 81 [(pT d0)] [])
def yc (d0:List af) (DQ:Int) (v20:List af) (v21 v22:Int):Option Int:=dec (EN Q1) (hT 81 11 [] [(0,(pT d0)),(5,(pI DQ)),(20,(pT v20)),(21,(pI v21)),(22,(pI v22))] [])
def f40 (d0:List af):Option ((List sB)×(List (List Int))):=dec (EN Q16) (Rn 82 [(pT d0)] [])
def DG (d0 gG:List af) (jR v17:Int) (o4:List sB):Option ((List sB)×(List (List Int))):=dec (EN Q16) (hT 82 3 [] [(0,(pT d0)),(4,(.row 4)),(15,(pT gG)),(16,(pI jR)),(17,(pI v17))] [(4,(oS o4))])
def uM (d0:List af) (v33 gB:Int) (o4:List sB) (Di:List (List Int)):Option ((List sB)×(List (List Int))):=dec (EN Q16) (hT 82 10 [] [(0,(pT d0)),(4,(.row 4)),(7,(.row 31)),(32,(.row 4)),(33,(pI v33)),(34,(pI gB))] [(4,(oS o4)),(31,(.row 74 1 (List.map (bf 1 (aD .u64)) Di)))])
def yd (d0:List af) (i8 v33 gB:Int) (v41:List sB) (v42 BU:Int) (o4:List sB) (fT:List Int) (Di:List (List Int)):Option ((List sB)×(List (List Int))):=dec (EN Q16) (hT 82 14 [] [(0,(pT d0)),(4,(.row 4)),(7,(.row 31)),(8,(pI i8)),(10,(.row 10)),(32,(.row 4)),(33,(pI v33)),(34,(pI gB)),(41,(pS v41)),(42,(pI v42)),(43,(pI BU))] [(4,(oS o4)),(10,(oI fT)),(31,(.row 74 1 (List.map (bf 1 (aD .u64)) Di)))])
def f41 (gi:List (List Int)):Option ((List (List Int))×Bool):=dec (EN Q17) (Rn 83 [(.pv (.bS 1 (List.map (bf 1 (aD .u64)) gi)))] [])
def H7 (kH:List (List Int)) (rq gG:Int) (fB:List (sB×Bool)) (fS:List (List Int)):Option ((List (List Int))×Bool):=dec (EN Q17) (hT 83 5 [] [(5,(.ptr 5 0)),(6,(.cl 139 [.p 4, .p 5])),(13,(.pv (.bS 1 (List.map (bf 1 (aD .u64)) kH)))),(14,(pI rq)),(15,(pI gG))] [(4,(.box 151 [(.row 11)])),(5,(.box 109 [(.row 5080)])),(11,(oM 9 4 V9 V4 fB)),(5080,(.row 74 1 (List.map (bf 1 (aD .u64)) fS)))])
def yf (i9:Int) (fB:List (sB×Bool)) (fS:List (List Int)):Option ((List (List Int))×Bool):=dec (EN Q17) (hT 83 10 [] [(5,(.ptr 5 0)),(6,(.cl 139 [.p 4, .p 5])),(9,(pI i9))] [(4,(.box 151 [(.row 11)])),(5,(.box 109 [(.row 5080)])),(11,(oM 9 4 V9 V4 fB)),(5080,(.row 74 1 (List.map (bf 1 (aD .u64)) fS)))])
def FJ (i9 k10:Int) (fB:List (sB×Bool)) (fS:List (List Int)):Option ((List (List Int))×Bool):=dec (EN Q17) (hT 83 13 [] [(5,(.ptr 5 0)),(6,(.cl 139 [.p 4, .p 5])),(9,(pI i9)),(10,(pI k10))] [(4,(.box 151 [(.row 11)])),(5,(.box 109 [(.row 5080)])),(11,(oM 9 4 V9 V4 fB)),(5080,(.row 74 1 (List.map (bf 1 (aD .u64)) fS)))])
def f42 (l0:List (List Int)) (gO:List Int):Option Int:=dec (EN Q1) (Rn 84 [(.pv (.bS 1 (List.map (bf 1 (aD .u64)) l0))),(.pv (.fn 85 [(.ref [(.bS 1 (List.map (aD .u64) gO))])]))] [])
def H8 (gO:List Int) (v7:List (List Int)) (v8 v9:Int):Option Int:=dec (EN Q1) (hT 84 2 [] [(1,(.pv (.fn 85 [(.ref [(.bS 1 (List.map (aD .u64) gO))])]))),(7,(.pv (.bS 1 (List.map (bf 1 (aD .u64)) v7)))),(8,(pI v8)),(9,(pI v9))] [])
def f43 (c0 a1:List Int):Option Bool:=dec (EN Q0) (Rn 85 [(pU c0),(.pv (.ref [(.bS 1 (List.map (aD .u64) a1))]))] [])
def f44 (b0:List Int):Option (List Int):=dec (EN Q9) (Rn 86 [(pU b0)] [])
def H9 (v6:List Int) (v7 v8:Int) (o3:List Int):Option (List Int):=dec (EN Q9) (hT 86 3 [] [(3,(.row 3)),(6,(pU v6)),(7,(pI v7)),(8,(pI v8))] [(3,(oI o3))])
def Ia (i4 w5:Int) (v6:List Int) (v7 v8:Int) (o3:List Int):Option (List Int):=dec (EN Q9) (hT 86 5 [] [(3,(.row 3)),(4,(pI i4)),(5,(.pv (.int .u64 w5))),(6,(pU v6)),(7,(pI v7)),(8,(pI v8))] [(3,(oI o3))])
def f45 (U8:List sB) (sep1:List UInt8):Option sB:=dec (EN Q22) (Rn 87 [(pS U8),(.pv (.str sep1))] [])
def f46 (d0:List af) (EH:List sB):Option (List sB):=dec (EN Q14) (Rn 88 [(pT d0),(pS EH)] [])
def BO (l5:List sB) (R3:List (sB×(List sB))) (v17:List sB) (jA j0:Int) (o7:List sB):Option (List sB):=dec (EN Q14) (hT 88 5 [] [(5,(pS l5)),(6,(.pv (.mp (aH V9 jI R3).1 (aH V9 jI R3).2))),(7,(.row 7)),(17,(pS v17)),(18,(pI jA)),(19,(pI j0))] [(7,(oS o7))])
abbrev IP.T:Type:=Unit×(List ak)
def IP:IP.T→Out:=(fun x:Unit×(List ak)=>((Q20 x.1,[(10000, .row 108 2 (List.map ak.enc x.2))]):Out))
instance:c4 IP:=⟨fun a b h=>by
  obtain ⟨a0,a1⟩:=a
  obtain ⟨b0,b1⟩:=b
  simp only [IP,Prod.mk.injEq,List.cons.injEq,Ob.row.injEq,Ob.mp.injEq,and_true,true_and] at h
  have h0:a0=b0:=rfl
  have h1:=h
  rw [h0,map_inj c4.inj _ _ h1]⟩
def f47 (cC:List ak):Option (Unit×(List ak)):=dec IP (Rn 89 [(.row 10000),(.pv (.fn 90 []))] [(10000,(.row 108 2 (List.map ak.enc cC)))])
def f57 (a0 b1:List Int):Option Bool:=dec (EN Q0) (Rn 99 [(pU a0),(pU b1)] [])
def Mq (a0 b1:List Int) (i5:Int):Option Bool:=dec (EN Q0) (hT 99 4 [] [(0,(pU a0)),(1,(pU b1)),(5,(pI i5))] [])
def f61 (a0 b1:List Int):Option (List Int):=dec (EN Q11) (Rn 104 [(pU a0),(pU b1)] [])
def Ii (a0 b1:List Int) (i6:Int) (o5:List Int):Option (List Int):=dec (EN Q11) (hT 104 3 [] [(0,(pU a0)),(1,(pU b1)),(5,(.row 5)),(6,(pI i6))] [(5,(.row 134 1 (List.map (aD .u64) o5)))])
def f65 (a0 b1:List Int):Option Bool:=dec (EN Q0) (Rn 107 [(pU a0),(pU b1)] [])
def f32 (d0:List af):Option Int:=dec (EN Q1) (Rn 108 [(pT d0)] [])
def BA (d0:List af) (n6 i7:Int):Option Int:=dec (EN Q1) (hT 108 12 [] [(0,(pT d0)),(6,(pI n6)),(7,(pI i7))] [])
def f52 (d0:List af):Option (List sB):=dec (EN Q14) (Rn 109 [(pT d0)] [])
def Mo (d0:List af) (r6:List sB) (i4:Int):Option (List sB):=dec (EN Q14) (hT 109 3 [] [(0,(pT d0)),(3,(pS r6)),(4,(pI i4))] [])
def f53 (d0:List af) (jq:List sB) (L7:List UInt8):Option (List Int):=dec (EN Q11) (Rn 110 [(pT d0),(pS jq),(.pv (.str L7))] [])
def DH (jq Hg:List sB) (i9:Int) (o8:List Int):Option (List Int):=dec (EN Q11) (hT 110 4 [] [(1,(pS jq)),(7,(pS Hg)),(8,(.row 8)),(9,(pI i9))] [(8,(oI o8))])
def f54 (gi:List (List Int)):Option (List (List Int)):=dec (EN Q18) (Rn 111 [(.pv (.bS 1 (List.map (bf 1 (aD .u64)) gi)))] [])
def BP (i4:Int) (o7:List (List Int)):Option (List (List Int)):=dec (EN Q18) (hT 111 3 [] [(3,(.row 7)),(4,(pI i4))] [(7,(.row 74 1 (List.map (bf 1 (aD .u64)) o7)))])
def BQ (i4 k5:Int) (o7:List (List Int)):Option (List (List Int)):=dec (EN Q18) (hT 111 6 [] [(3,(.row 7)),(4,(pI i4)),(5,(pI k5))] [(7,(.row 74 1 (List.map (bf 1 (aD .u64)) o7)))])
def f55 (d0:List af) (jq:List sB) (kR:List (List Int)) (b3:List Int):Option sB:=dec (EN Q22) (Rn 112 [(pT d0),(pS jq),(.pv (.bS 1 (List.map (bf 1 (aD .u64)) kR))),(pU b3)] [])
def DI (d0:List af) (jq:List sB) (kR:List (List Int)) (b3:List Int) (i10:Int) (o9:List sB):Option sB:=dec (EN Q22) (hT 112 3 [] [(0,(pT d0)),(1,(pS jq)),(2,(.pv (.bS 1 (List.map (bf 1 (aD .u64)) kR)))),(3,(pU b3)),(9,(.row 9)),(10,(pI i10))] [(9,(oS o9))])
def sF (l9:List sB) (s11:List UInt8) (i12:Int):Option sB:=dec (EN Q22) (hT 112 12 [] [(9,(pS l9)),(11,(.pv (.str s11))),(12,(pI i12))] [])
def f56 (a0 b1:ak):Option Bool:=dec (EN Q0) (Rn 113 [(.pv (.agg (ak.enc a0))),(.pv (.agg (ak.enc b1)))] [])
def f68 (b0:List Int):Option (List Int):=dec (EN Q11) (Rn 114 [(pU b0)] [])
def Il (b0:List Int) (n3:Int):Option (List Int):=dec (EN Q11) (hT 114 2 [] [(0,(pU b0)),(3,(pI n3))] [])
def f18 (l0:List ak) (Li:List Int):Option Int:=dec (EN Q1) (Rn 116 [(pC l0),(pU Li)] [])
def f366 (s0:List ak) (eo:af):Option Int:=dec (EN Q1) (Rn 117 [(pC s0),(.pv (.fn 118 [(.ref (af.enc eo))]))] [])
def BJ (s0:List ak) (eo:af) (v7 v8:Int):Option Int:=dec (EN Q1) (hT 117 2 [] [(0,(pC s0)),(1,(.pv (.fn 118 [(.ref (af.enc eo))]))),(7,(pI v7)),(8,(pI v8))] [])
def f375 (c0:ak) (a1:af):Option Bool:=dec (EN Q0) (Rn 118 [(.pv (.agg (ak.enc c0))),(.pv (.ref (af.enc a1)))] [])
abbrev gN.T:Type:=Int×(List ((List UInt8)×Int))×(List (List UInt8))×(List Int)×(List (List ai))
def gN (aL:List af) (bp:List ak):gN.T→Out:=(fun x:Int×(List (sB×Int))×(List sB)×(List Int)×(List (List ai))=>((Q1 x.1,[(10000,(oB aL bp 10001 20002 20003 20004)),(10001, .mp 9 3 (aH V9 V3 x.2.1).1 (aH V9 V3 x.2.1).2),(20002, .row 9 1 (List.map au x.2.2.1)),(20003, .row 3 1 (List.map (aD .i64) x.2.2.2.1)),(20004, .row 35 1 (List.map (bf 2 ai.enc) x.2.2.2.2))]):Out))
instance (aL:List af) (bp:List ak):c4 (gN aL bp):=⟨fun a b h=>by
  obtain ⟨a0,a1,a2,a3,a4⟩:=a
  obtain ⟨b0,b1,b2,b3,b4⟩:=b
  simp only [gN,Prod.mk.injEq,List.cons.injEq,Ob.row.injEq,Ob.mp.injEq,and_true,true_and] at h
  obtain ⟨h0,h1,h2,h3,h4⟩:=h
  rw [c4.inj _ _ h0,iI (K:=V9) (V:=V3) h1.1 h1.2,map_inj c4.inj _ _ h2,map_inj c4.inj _ _ h3,map_inj c4.inj _ _ h4]⟩
def f367 (aL:List af) (bp:List ak) (bF:List (sB×Int)) (fm:List sB) (dz:List Int) (gA:List (List ai)):Option (Int×(List (sB×Int))×(List sB)×(List Int)×(List (List ai))):=dec (gN aL bp) (Rn 119 [(.ptr 10000 0)] [(10000,(oB aL bp 10001 20002 20003 20004)),(10001,(oM 9 3 V9 V3 bF)),(20002,(oS fm)),(20003,(oI dz)),(20004,(oA gA))])
def uJ (j0:List af) (v20 v21:Int) (iO:List (sB×Bool)) (aC:List af) (aG:List ak) (aW:List (sB×Int)) (bE:List sB) (bI:List Int) (bM:List (List ai)):Option (Int×(List (sB×Int))×(List sB)×(List Int)×(List (List ai))):=dec (gN aC aG) (hT 119 3 [10000,10001,20002,20003,20004] [(0,(.ptr 10000 0)),(3,(.row 15)),(19,(pT j0)),(20,(pI v20)),(21,(pI v21))] [(15,(oM 9 4 V9 V4 iO)),(10000,(oB aC aG 10001 20002 20003 20004)),(10001,(oM 9 3 V9 V3 aW)),(20002,(oS bE)),(20003,(oI bI)),(20004,(oA bM))])
def BK (j0:List af) (v20 v21:Int) (v26:List aq) (v27 v28:Int) (o5:af) (iO:List (sB×Bool)) (aC:List af) (aG:List ak) (aW:List (sB×Int)) (bE:List sB) (bI:List Int) (bM:List (List ai)):Option (Int×(List (sB×Int))×(List sB)×(List Int)×(List (List ai))):=dec (gN aC aG) (hT 119 6 [10000,10001,20002,20003,20004] [(0,(.ptr 10000 0)),(3,(.row 15)),(19,(pT j0)),(20,(pI v20)),(21,(pI v21)),(26,(pF v26)),(27,(pI v27)),(28,(pI v28))] [(5,(.box 52 (List.map .pv (af.enc o5)))),(15,(oM 9 4 V9 V4 iO)),(10000,(oB aC aG 10001 20002 20003 20004)),(10001,(oM 9 3 V9 V3 aW)),(20002,(oS bE)),(20003,(oI bI)),(20004,(oA bM))])
def tj (BU:List af) (v44 v45:Int) (iO:List (sB×Bool)) (aC:List af) (aG:List ak) (aW:List (sB×Int)) (bE:List sB) (bI:List Int) (bM:List (List ai)):Option (Int×(List (sB×Int))×(List sB)×(List Int)×(List (List ai))):=dec (gN aC aG) (hT 119 14 [10000,10001,20002,20003,20004] [(0,(.ptr 10000 0)),(3,(.row 15)),(43,(pT BU)),(44,(pI v44)),(45,(pI v45))] [(15,(oM 9 4 V9 V4 iO)),(10000,(oB aC aG 10001 20002 20003 20004)),(10001,(oM 9 3 V9 V3 aW)),(20002,(oS bE)),(20003,(oI bI)),(20004,(oA bM))])
def wv (BU:List af) (v44 v45:Int) (v50:List aq) (v51 Mx:Int) (o9:af) (iO:List (sB×Bool)) (aC:List af) (aG:List ak) (aW:List (sB×Int)) (bE:List sB) (bI:List Int) (bM:List (List ai)):Option (Int×(List (sB×Int))×(List sB)×(List Int)×(List (List ai))):=dec (gN aC aG) (hT 119 17 [10000,10001,20002,20003,20004] [(0,(.ptr 10000 0)),(3,(.row 15)),(9,(.ptr 9 0)),(43,(pT BU)),(44,(pI v44)),(45,(pI v45)),(50,(pF v50)),(51,(pI v51)),(52,(pI Mx))] [(9,(.box 52 (List.map .pv (af.enc o9)))),(15,(oM 9 4 V9 V4 iO)),(10000,(oB aC aG 10001 20002 20003 20004)),(10001,(oM 9 3 V9 V3 aW)),(20002,(oS bE)),(20003,(oI bI)),(20004,(oA bM))])
def f368 (aL:List af) (bp:List ak) (bF:List (sB×Int)) (fm:List sB) (dz:List Int) (gA:List (List ai)):Option (Int×(List (sB×Int))×(List sB)×(List Int)×(List (List ai))):=dec (gN aL bp) (Rn 120 [(.ptr 10000 0)] [(10000,(oB aL bp 10001 20002 20003 20004)),(10001,(oM 9 3 V9 V3 bF)),(20002,(oS fm)),(20003,(oI dz)),(20004,(oA gA))])
def ya (v11 v12:Int) (aC:List af) (aG:List ak) (aW:List (sB×Int)) (bE:List sB) (bI:List Int) (bM:List (List ai)):Option (Int×(List (sB×Int))×(List sB)×(List Int)×(List (List ai))):=dec (gN aC aG) (hT 120 2 [10000,10001,20002,20003,20004] [(1,(.ptr 1 0)),(10,(.row 20002)),(11,(pI v11)),(12,(pI v12))] [(1,(.box 91 [(.ptr 10000 0)])),(10000,(oB aC aG 10001 20002 20003 20004)),(10001,(oM 9 3 V9 V3 aW)),(20002,(oS bE)),(20003,(oI bI)),(20004,(oA bM))])
def f369 (aL:List af) (bp:List ak) (bF:List (sB×Int)) (fm:List sB) (dz:List Int) (gA:List (List ai)):Option (Int×(List (sB×Int))×(List sB)×(List Int)×(List (List ai))):=dec (gN aL bp) (Rn 121 [(.ptr 10000 0)] [(10000,(oB aL bp 10001 20002 20003 20004)),(10001,(oM 9 3 V9 V3 bF)),(20002,(oS fm)),(20003,(oI dz)),(20004,(oA gA))])
def uK (gG jR:Int) (aC:List af) (aG:List ak) (aW:List (sB×Int)) (bE:List sB) (bI:List Int) (bM:List (List ai)):Option (Int×(List (sB×Int))×(List sB)×(List Int)×(List (List ai))):=dec (gN aC aG) (hT 121 2 [10000,10001,20002,20003,20004] [(0,(.ptr 10000 0)),(15,(pI gG)),(16,(pI jR))] [(10000,(oB aC aG 10001 20002 20003 20004)),(10001,(oM 9 3 V9 V3 aW)),(20002,(oS bE)),(20003,(oI bI)),(20004,(oA bM))])
def sE (oH:List (sB×(List Int))) (gG jR v26 v27:Int) (o4:List ai) (aC:List af) (aG:List ak) (aW:List (sB×Int)) (bE:List sB) (bI:List Int) (bM:List (List ai)):Option (Int×(List (sB×Int))×(List sB)×(List Int)×(List (List ai))):=dec (gN aC aG) (hT 121 7 [10000,10001,20002,20003,20004] [(0,(.ptr 10000 0)),(4,(.row 4)),(5,(.pv (.mp (aH V9 oZ oH).1 (aH V9 oZ oH).2))),(15,(pI gG)),(16,(pI jR)),(25,(.row 20002)),(26,(pI v26)),(27,(pI v27))] [(4,(.row 37 2 (List.map ai.enc o4))),(10000,(oB aC aG 10001 20002 20003 20004)),(10001,(oM 9 3 V9 V3 aW)),(20002,(oS bE)),(20003,(oI bI)),(20004,(oA bM))])
def f98 (l0:List sB) (s1:List UInt8):Option (List sB):=dec (EN Q14) (Rn 122 [(pS l0),(.pv (.str s1))] [])
def Mv (l0:List sB) (s1:List UInt8) (v6:Int) (o5:List sB):Option (List sB):=dec (EN Q14) (hT 122 3 [] [(0,(pS l0)),(1,(.pv (.str s1))),(5,(.row 5)),(6,(pI v6))] [(5,(oS o5))])
def f372 (s0:List UInt8):Option Bool:=dec (EN Q0) (Rn 123 [(.pv (.str s0))] [])
def f37 (l0:List sB) (s1:List UInt8):Option Bool:=dec (EN Q0) (Rn 124 [(pS l0),(.pv (.str s1))] [])
def Mm (l0:List sB) (s1:List UInt8) (i5:Int):Option Bool:=dec (EN Q0) (hT 124 2 [] [(0,(pS l0)),(1,(.pv (.str s1))),(5,(pI i5))] [])
def f373 (x0:af) (fH:List UInt8):Option (sB×Bool):=dec (EN Q15) (Rn 125 [(.pv (.agg (af.enc x0))),(.pv (.str fH))] [])
def FH (fH:List UInt8) (i6:Int) (o2:af):Option (sB×Bool):=dec (EN Q15) (hT 125 2 [] [(1,(.pv (.str fH))),(2,(.ptr 2 0)),(6,(pI i6))] [(2,(.box 52 (List.map .pv (af.enc o2))))])
def f104 (d0:List af) (l1:List sB):Option (List sB):=dec (EN Q14) (Rn 126 [(pT d0),(pS l1)] [])
def uE (d0:List af) (nQ:List sB) (i7:Int) (o5:List sB):Option (List sB):=dec (EN Q14) (hT 126 4 [] [(0,(pT d0)),(5,(.row 5)),(6,(pS nQ)),(7,(pI i7))] [(5,(oS o5))])
def xU (d0:List af) (nQ:List sB) (i7:Int) (WE:List sB) (GB:Bool) (k10:Int) (o5:List sB):Option (List sB):=dec (EN Q14) (hT 126 9 [] [(0,(pT d0)),(5,(.row 5)),(6,(pS nQ)),(7,(pI i7)),(8,(pS WE)),(9,(.pv (.bool GB))),(10,(pI k10))] [(5,(oS o5))])
def f25 (l0:List ak) (i1 j2:Int):Option Bool:=dec (EN Q0) (Rn 127 [(pC l0),(pI i1),(pI j2)] [])
def f60 (b0:List Int):Option (List Int):=dec (EN Q11) (Rn 128 [(pU b0)] [])
def Ie (b0:List Int) (n3:Int):Option (List Int):=dec (EN Q11) (hT 128 2 [] [(0,(pU b0)),(3,(pI n3))] [])
abbrev yt.T:Type:=Int
def yt (bF:List (Int×Bool)):yt.T→Out:=(fun x:Int=>((Q1 x,[(10000,(.box 104 [(.row 10001)])),(10001,(oM 3 4 V3 V4 bF))]):Out))
instance (bF:List (Int×Bool)):c4 (yt bF):=⟨fun a b h=>by
  simp only [yt,Prod.mk.injEq,and_true] at h
  exact c4.inj _ _ h⟩
def f379 (s0:List ai) (bF:List (Int×Bool)):Option Int:=dec (yt bF) (Rn 129 [(pP s0),(.cl 79 [.p 10000])] [(10000,(.box 104 [(.row 10001)])),(10001,(oM 3 4 V3 V4 bF))])
def BL (s0:List ai) (v7 v8:Int) (aW:List (Int×Bool)):Option Int:=dec (yt aW) (hT 129 2 [10000,10001] [(0,(pP s0)),(1,(.cl 79 [.p 10000])),(7,(pI v7)),(8,(pI v8))] [(10000,(.box 104 [(.row 10001)])),(10001,(oM 3 4 V3 V4 aW))])
def f107 (b0:List Int) (i1:Int):Option Int:=dec (EN Q21) (Rn 130 [(pU b0),(pI i1)] [])
def f76 (d0:List af):Option Bool:=dec (EN Q0) (Rn 131 [(pT d0)] [])
def f77 (d0:List af):Option Int:=dec (EN Q1) (Rn 132 [(pT d0)] [])
def DJ (v9:List af) (v10 v11:Int) (o8:List (sB×Bool)):Option Int:=dec (EN Q1) (hT 132 3 [] [(3,(.row 8)),(9,(pT v9)),(10,(pI v10)),(11,(pI v11))] [(8,(oM 9 4 V9 V4 o8))])
def f78 (d0:List af):Option Int:=dec (EN Q1) (Rn 133 [(pT d0)] [])
def DK (eE:List (sB×(List sB))) (v12:List af) (kH rq:Int):Option Int:=dec (EN Q1) (hT 133 3 [] [(3,(.pv (.mp (aH V9 jI eE).1 (aH V9 jI eE).2))),(12,(pT v12)),(13,(pI kH)),(14,(pI rq))] [])
def Iq (eE:List (sB×(List sB))) (v12:List af) (kH rq:Int) (j0:List sB) (v20 v21:Int) (o5:af):Option Int:=dec (EN Q1) (hT 133 6 [] [(3,(.pv (.mp (aH V9 jI eE).1 (aH V9 jI eE).2))),(5,(.ptr 5 0)),(12,(pT v12)),(13,(pI kH)),(14,(pI rq)),(19,(pS j0)),(20,(pI v20)),(21,(pI v21))] [(5,(.box 52 (List.map .pv (af.enc o5))))])
def f79 (d0:List af):Option (List sB):=dec (EN Q14) (Rn 134 [(pT d0)] [])
def DL (jA:List af) (j0 v20:Int) (o5:List sB) (jG:List (sB×Int)) (Dh:List (sB×Option (List sB))):Option (List sB):=dec (EN Q14) (hT 134 5 [] [(3,(.row 16)),(4,(.row 17)),(5,(.row 5)),(18,(pT jA)),(19,(pI j0)),(20,(pI v20))] [(5,(oS o5)),(16,(oM 9 3 V9 V3 jG)),(17,(.mr 9 9 1 (c5 V9 C9 Dh).1 (c5 V9 C9 Dh).2))])
def sG (jA:List af) (j0 v20:Int) (v40:List sB) (v41 v42:Int) (o5:List sB) (o7:af) (jG:List (sB×Int)) (Dh:List (sB×Option (List sB))):Option (List sB):=dec (EN Q14) (hT 134 11 [] [(3,(.row 16)),(4,(.row 17)),(5,(.row 5)),(7,(.ptr 7 0)),(18,(pT jA)),(19,(pI j0)),(20,(pI v20)),(40,(pS v40)),(41,(pI v41)),(42,(pI v42))] [(5,(oS o5)),(7,(.box 52 (List.map .pv (af.enc o7)))),(16,(oM 9 3 V9 V3 jG)),(17,(.mr 9 9 1 (c5 V9 C9 Dh).1 (c5 V9 C9 Dh).2))])
def qR (di:List (sB×(List sB))) (o5 fT:List sB) (jG:List (sB×Int)):Option (List sB):=dec (EN Q14) (hT 134 17 [] [(3,(.row 16)),(4,(.pv (.mp (aH V9 jI di).1 (aH V9 jI di).2))),(5,(.row 5)),(10,(.row 10))] [(5,(oS o5)),(10,(oS fT)),(16,(oM 9 3 V9 V3 jG))])
def gL (di:List (sB×(List sB))) (DS:List sB) (v72 v73:Int) (o5 fT:List sB) (jG:List (sB×Int)):Option (List sB):=dec (EN Q14) (hT 134 22 [] [(3,(.row 16)),(4,(.pv (.mp (aH V9 jI di).1 (aH V9 jI di).2))),(5,(.row 5)),(10,(.row 10)),(71,(pS DS)),(72,(pI v72)),(73,(pI v73))] [(5,(oS o5)),(10,(oS fT)),(16,(oM 9 3 V9 V3 jG))])
abbrev MD.T:Type:=Unit×(List (List UInt8))
def MD:MD.T→Out:=(fun x:Unit×(List sB)=>((Q20 x.1,[(10000, .row 9 1 (List.map au x.2))]):Out))
instance:c4 MD:=⟨fun a b h=>by
  obtain ⟨a0,a1⟩:=a
  obtain ⟨b0,b1⟩:=b
  simp only [MD,Prod.mk.injEq,List.cons.injEq,Ob.row.injEq,Ob.mp.injEq,and_true,true_and] at h
  have h0:a0=b0:=rfl
  have h1:=h
  rw [h0,map_inj c4.inj _ _ h1]⟩
def f80 (cC:List sB):Option (Unit×(List sB)):=dec MD (Rn 135 [(.row 10000)] [(10000,(oS cC))])
def f81 (d0:List af) (bW:List UInt8):Option (List sB):=dec (EN Q14) (Rn 136 [(pT d0),(.pv (.str bW))] [])
def DM (bW:List UInt8) (gG:List af) (jR v17:Int) (ux:List (sB×Option (List sB))):Option (List sB):=dec (EN Q14) (hT 136 3 [] [(1,(.pv (.str bW))),(5,(.row 14)),(15,(pT gG)),(16,(pI jR)),(17,(pI v17))] [(14,(.mr 9 9 1 (c5 V9 C9 ux).1 (c5 V9 C9 ux).2))])
def wB (bW:List UInt8) (gG:List af) (jR v17:Int) (gB:List sB) (v35 v36:Int) (o7:af) (ux:List (sB×Option (List sB))):Option (List sB):=dec (EN Q14) (hT 136 9 [] [(1,(.pv (.str bW))),(5,(.row 14)),(7,(.ptr 7 0)),(15,(pT gG)),(16,(pI jR)),(17,(pI v17)),(34,(pS gB)),(35,(pI v35)),(36,(pI v36))] [(7,(.box 52 (List.map .pv (af.enc o7)))),(14,(.mr 9 9 1 (c5 V9 C9 ux).1 (c5 V9 C9 ux).2))])
def f82 (x0:List sB) (gM:List UInt8):Option (Int×Bool):=dec (EN Q8) (Rn 137 [(pS x0),(.pv (.str gM))] [])
def DN (x0:List sB) (gM:List UInt8) (n6 i7 j8:Int):Option (Int×Bool):=dec (EN Q8) (hT 137 3 [] [(0,(pS x0)),(1,(.pv (.str gM))),(6,(pI n6)),(7,(pI i7)),(8,(pI j8))] [])
def f83 (l0:List Int):Option ((List Int)×Int):=dec (EN Q24) (Rn 138 [(pN l0)] [])
def Ir (l0:List Int) (pX:Int) (v10:List Int) (v11 v12:Int):Option ((List Int)×Int):=dec (EN Q24) (hT 138 3 [] [(0,(pN l0)),(4,(pI pX)),(10,(pN v10)),(11,(pI v11)),(12,(pI v12))] [])
def uN (v30:List Int) (v31 v32:Int) (Hv:List Int):Option ((List Int)×Int):=dec (EN Q24) (hT 138 11 [] [(7,(.row 29)),(30,(pN v30)),(31,(pI v31)),(32,(pI v32))] [(29,(.row 134 1 (List.map (aD .u64) Hv)))])
abbrev FT.T:Type:=Unit×(List ((List UInt8)×Bool))×(List (List Int))
def FT:FT.T→Out:=(fun x:Unit×(List (sB×Bool))×(List (List Int))=>((Q20 x.1,[(10000,(.box 151 [(.row 10002)])),(10001,(.box 109 [(.row 20003)])),(10002, .mp 9 4 (aH V9 V4 x.2.1).1 (aH V9 V4 x.2.1).2),(20003, .row 74 1 (List.map (bf 1 (aD .u64)) x.2.2))]):Out))
instance:c4 FT:=⟨fun a b h=>by
  obtain ⟨a0,a1,a2⟩:=a
  obtain ⟨b0,b1,b2⟩:=b
  simp only [FT,Prod.mk.injEq,List.cons.injEq,Ob.row.injEq,Ob.mp.injEq,and_true,true_and] at h
  have h0:a0=b0:=rfl
  obtain ⟨h1,h2⟩:=h
  rw [h0,iI (K:=V9) (V:=V4) h1.1 h1.2,map_inj c4.inj _ _ h2]⟩
def f84 (b0:List Int) (cV:List (sB×Bool)) (dz:List (List Int)):Option (Unit×(List (sB×Bool))×(List (List Int))):=dec FT (Rn 139 [(pU b0),(.ptr 10000 0),(.ptr 10001 0)] [(10000,(.box 151 [(.row 10002)])),(10001,(.box 109 [(.row 20003)])),(10002,(oM 9 4 V9 V4 cV)),(20003,(.row 74 1 (List.map (bf 1 (aD .u64)) dz)))])
def f85 (b0:List Int):Option sB:=dec (EN Q22) (Rn 140 [(pU b0)] [])
def It (v11:List Int) (v12 kH:Int) (fT:List Int):Option sB:=dec (EN Q22) (hT 140 3 [] [(3,(.row 10)),(11,(pU v11)),(12,(pI v12)),(13,(pI kH))] [(10,(.row 5 1 (List.map (aD .u8) fT)))])
def Iu (w5 k6:Int) (v11:List Int) (v12 kH:Int) (fT:List Int):Option sB:=dec (EN Q22) (hT 140 6 [] [(3,(.row 10)),(5,(.pv (.int .u64 w5))),(6,(pI k6)),(11,(pU v11)),(12,(pI v12)),(13,(pI kH))] [(10,(.row 5 1 (List.map (aD .u8) fT)))])
def f86 (x0:Int):Option Int:=dec (EN Q1) (Rn 141 [(.pv (.int .u64 x0))] [])
def f90 (d0:List af) (l1:List sB):Option (List sB):=dec (EN Q14) (Rn 145 [(pT d0),(pS l1)] [])
def BR (oN:List (sB×(List sB))) (kH:List sB) (rq gG:Int) (o6:List sB):Option (List sB):=dec (EN Q14) (hT 145 4 [] [(5,(.pv (.mp (aH V9 jI oN).1 (aH V9 jI oN).2))),(6,(.row 6)),(13,(pS kH)),(14,(pI rq)),(15,(pI gG))] [(6,(oS o6))])
def f75 (d0:List af):Option (List (sB×(List sB))):=dec (EN Q23) (Rn 146 [(pT d0)] [])
def Ip (v9:List af) (v10 v11:Int) (o8:List (sB×(List sB))):Option (List (sB×(List sB))):=dec (EN Q23) (hT 146 3 [] [(3,(.row 8)),(9,(pT v9)),(10,(pI v10)),(11,(pI v11))] [(8,(oM 9 49 V9 jI o8))])
def f74 (sH:List (sB×(List sB))) (bW:List UInt8):Option (List sB):=dec (EN Q14) (Rn 147 [(.pv (.mp (aH V9 jI sH).1 (aH V9 jI sH).2)),(.pv (.str bW))] [])
def Io (sH:List (sB×(List sB))) (i9:Int) (FO:List (sB×Bool)) (pZ:List sB):Option (List sB):=dec (EN Q14) (hT 147 7 [] [(0,(.pv (.mp (aH V9 jI sH).1 (aH V9 jI sH).2))),(7,(.row 20)),(8,(.row 24)),(9,(pI i9))] [(20,(oM 9 4 V9 V4 FO)),(24,(oS pZ))])
def nN (sH:List (sB×(List sB))) (i9:Int) (v36:List sB) (v37 v38:Int) (FO:List (sB×Bool)) (pZ:List sB):Option (List sB):=dec (EN Q14) (hT 147 10 [] [(0,(.pv (.mp (aH V9 jI sH).1 (aH V9 jI sH).2))),(7,(.row 20)),(8,(.row 24)),(9,(pI i9)),(36,(pS v36)),(37,(pI v37)),(38,(pI v38))] [(20,(oM 9 4 V9 V4 FO)),(24,(oS pZ))])
def f91 (x0 a1:List UInt8) (a2:List sB):Option Bool:=dec (EN Q0) (Rn 148 [(.pv (.str x0)),(.pv (.ref [(.str a1)])),(.pv (.ref [(.bS 1 (List.map au a2))]))] [])
def f92 (s0:List sB) (v1:List UInt8):Option Bool:=dec (EN Q0) (Rn 149 [(pS s0),(.pv (.str v1))] [])
def f93 (s0:List sB) (eo:List UInt8) (rL:List sB):Option Bool:=dec (EN Q0) (Rn 150 [(pS s0),(.pv (.fn 148 [(.ref [(.str eo)]),(.ref [(.bS 1 (List.map au rL))])]))] [])
def f97 (x0:List UInt8):Option Bool:=dec (EN Q0) (Rn 154 [(.pv (.str x0))] [])
abbrev FR.T:Type:=Bool
def FR (cN:Int) (bq:List af) (bh:List ak) (bu:List (sB×Int)) (br:List sB) (bY:List Int) (bZ:List (List ai)):FR.T→Out:=(fun x:Bool=>((Q0 x,[(10000,(.box 91 [(.ptr 10002 0)])),(10001,(.box 3 [(pI cN)])),(10002,(oB bq bh 10003 10004 10005 10006)),(10003,(oM 9 3 V9 V3 bu)),(10004,(oS br)),(10005,(oI bY)),(10006,(oA bZ))]):Out))
instance (cN:Int) (bq:List af) (bh:List ak) (bu:List ((List UInt8)×Int)) (br:List (List UInt8)) (bY:List Int) (bZ:List (List ai)):c4 (FR cN bq bh bu br bY bZ):=⟨fun a b h=>by
  simp only [FR,Prod.mk.injEq,and_true] at h
  exact c4.inj _ _ h⟩
def Vc (s0:List Int) (cN:Int) (bq:List af) (bh:List ak) (bu:List (sB×Int)) (br:List sB) (bY:List Int) (bZ:List (List ai)):Option Bool:=dec (FR cN bq bh bu br bY bZ) (Rn 156 [(pN s0),(.cl 177 [.p 10000, .p 10001])] [(10000,(.box 91 [(.ptr 10002 0)])),(10001,(.box 3 [(pI cN)])),(10002,(oB bq bh 10003 10004 10005 10006)),(10003,(oM 9 3 V9 V3 bu)),(10004,(oS br)),(10005,(oI bY)),(10006,(oA bZ))])
def f106 (b0:List Int) (i1:Int):Option Int:=dec (EN Q21) (Rn 157 [(pU b0),(pI i1)] [])
def f108 (a0 b1:List Int):Option (List Int):=dec (EN Q11) (Rn 158 [(pU a0),(pU b1)] [])
def Bq (a0 b1:List Int) (i6:Int) (o5:List Int):Option (List Int):=dec (EN Q11) (hT 158 3 [] [(0,(pU a0)),(1,(pU b1)),(5,(.row 5)),(6,(pI i6))] [(5,(.row 134 1 (List.map (aD .u64) o5)))])
def f70 (d0:List af):Option Int:=dec (EN Q1) (Rn 159 [(pT d0)] [])
def Mr (d0:List af) (i3:Int):Option Int:=dec (EN Q1) (hT 159 4 [] [(0,(pT d0)),(3,(pI i3))] [])
def f71 (d0:List af):Option Int:=dec (EN Q1) (Rn 160 [(pT d0)] [])
def Ms (d0:List af) (i3:Int):Option Int:=dec (EN Q1) (hT 160 2 [] [(0,(pT d0)),(3,(pI i3))] [])
def f72 (d0:List af):Option Int:=dec (EN Q1) (Rn 161 [(pT d0)] [])
def Im (d0:List af) (i3:Int):Option Int:=dec (EN Q1) (hT 161 2 [] [(0,(pT d0)),(3,(pI i3))] [])
def Mt (d0:List af) (i3:Int) (l4:List sB) (k5:Int):Option Int:=dec (EN Q1) (hT 161 6 [] [(0,(pT d0)),(3,(pI i3)),(4,(pS l4)),(5,(pI k5))] [])
def f73 (d0:List af):Option (List sB):=dec (EN Q14) (Rn 162 [(pT d0)] [])
def zb (d0:List af) (mE:Bool) (o3:List sB):Option (List sB):=dec (EN Q14) (hT 162 3 [] [(0,(pT d0)),(3,(.row 3)),(4,(.pv (.bool mE)))] [(3,(oS o3))])
def wA (d0:List af) (mE:Bool) (od:List UInt8) (i6:Int) (o3:List sB):Option (List sB):=dec (EN Q14) (hT 162 7 [] [(0,(pT d0)),(3,(.row 3)),(4,(.pv (.bool mE))),(5,(.pv (.str od))),(6,(pI i6))] [(3,(oS o3))])
def f99 (d0:List af) (bW:List UInt8):Option (List sB):=dec (EN Q14) (Rn 163 [(pT d0),(.pv (.str bW))] [])
def Iv (d0:List af) (i6:Int) (iO:List sB):Option (List sB):=dec (EN Q14) (hT 163 5 [] [(0,(pT d0)),(5,(.row 15)),(6,(pI i6))] [(15,(oS iO))])
def BS (d0:List af) (i6 k7:Int) (iO:List sB):Option (List sB):=dec (EN Q14) (hT 163 8 [] [(0,(pT d0)),(5,(.row 15)),(6,(pI i6)),(7,(pI k7))] [(15,(oS iO))])
def yg (Rx:List sB) (i9:Int) (iO:List sB):Option (List sB):=dec (EN Q14) (hT 163 14 [] [(5,(.row 15)),(8,(pS Rx)),(9,(pI i9))] [(15,(oS iO))])
def f100 (l0:List Int):Option ((List Int)×Int):=dec (EN Q24) (Rn 164 [(pN l0)] [])
def xT (l0:List Int) (i5:Int) (o6:List Int):Option ((List Int)×Int):=dec (EN Q24) (hT 164 3 [] [(0,(pN l0)),(4,(.row 6)),(5,(pI i5))] [(6,(.row 134 1 (List.map (aD .u64) o6)))])
def f101 (l0:List (List Int)) (b1:List Int):Option Bool:=dec (EN Q0) (Rn 165 [(.pv (.bS 1 (List.map (bf 1 (aD .u64)) l0))),(pU b1)] [])
def Fw (l0:List (List Int)) (b1:List Int) (i5:Int):Option Bool:=dec (EN Q0) (hT 165 2 [] [(0,(.pv (.bS 1 (List.map (bf 1 (aD .u64)) l0)))),(1,(pU b1)),(5,(pI i5))] [])
def f102 (a0 b1:List Int):Option Bool:=dec (EN Q0) (Rn 166 [(pU a0),(pU b1)] [])
def f103 (b0:List Int) (i1:Int):Option Bool:=dec (EN Q0) (Rn 167 [(pU b0),(pI i1)] [])
def f105 (b0:List Int):Option Int:=dec (EN Q1) (Rn 168 [(pU b0)] [])
def f58 (l0:List ak) (gO:List Int):Option Int:=dec (EN Q1) (Rn 169 [(pC l0),(.pv (.fn 170 [(.ref [(.bS 1 (List.map (aD .u64) gO))])]))] [])
def Ib (gO:List Int) (v7:List ak) (v8 v9:Int):Option Int:=dec (EN Q1) (hT 169 2 [] [(1,(.pv (.fn 170 [(.ref [(.bS 1 (List.map (aD .u64) gO))])]))),(7,(pC v7)),(8,(pI v8)),(9,(pI v9))] [])
def f59 (x0:ak) (a1:List Int):Option Bool:=dec (EN Q0) (Rn 170 [(.pv (.agg (ak.enc x0))),(.pv (.ref [(.bS 1 (List.map (aD .u64) a1))]))] [])
def f380 (s0:List UInt8):Option Bool:=dec (EN Q0) (Rn 171 [(.pv (.str s0))] [])
abbrev uQ.T:Type:=Bool
def uQ (cC:aq):uQ.T→Out:=(fun x:Bool=>((Q0 x,[(10000,(.box 54 (List.map .pv (aq.enc cC))))]):Out))
instance (cC:aq):c4 (uQ cC):=⟨fun a b h=>by
  simp only [uQ,Prod.mk.injEq,and_true] at h
  exact c4.inj _ _ h⟩
def f381 (s0:List aq) (cC:aq):Option Bool:=dec (uQ cC) (Rn 172 [(pF s0),(.cl 173 [.p 10000])] [(10000,(.box 54 (List.map .pv (aq.enc cC))))])
def O3 (s0:List aq) (eo:List UInt8):Option Bool:=dec (EN Q0) (Rn 172 [(pF s0),(.pv (.fn 213 [(.ref [(.str eo)])]))] [])
def f388 (y0 cC:aq):Option Bool:=dec (uQ cC) (Rn 173 [(.pv (.agg (aq.enc y0))),(.ptr 10000 0)] [(10000,(.box 54 (List.map .pv (aq.enc cC))))])
abbrev yp.T:Type:=List Int
def yp (aL:List af) (bp:List ak) (bF:List (sB×Int)) (cV:List sB) (bu:List Int) (br:List (List ai)):yp.T→Out:=(fun x:List Int=>((Q9 x,[(10000,(oB aL bp 10001 10002 10003 10004)),(10001,(oM 9 3 V9 V3 bF)),(10002,(oS cV)),(10003,(oI bu)),(10004,(oA br))]):Out))
instance (aL:List af) (bp:List ak) (bF:List ((List UInt8)×Int)) (cV:List (List UInt8)) (bu:List Int) (br:List (List ai)):c4 (yp aL bp bF cV bu br):=⟨fun a b h=>by
  simp only [yp,Prod.mk.injEq,and_true] at h
  exact c4.inj _ _ h⟩
def f376 (fH:List UInt8) (aL:List af) (bp:List ak) (bF:List (sB×Int)) (cV:List sB) (bu:List Int) (br:List (List ai)):Option (List Int):=dec (yp aL bp bF cV bu br) (Rn 174 [(.ptr 10000 0),(.pv (.str fH))] [(10000,(oB aL bp 10001 10002 10003 10004)),(10001,(oM 9 3 V9 V3 bF)),(10002,(oS cV)),(10003,(oI bu)),(10004,(oA br))])
def qP (iq:List UInt8) (v11:List af) (v12 kH:Int) (o5:List Int) (aC:List af) (aG:List ak) (aW:List (sB×Int)) (dF:List sB) (cv:List Int) (cz:List (List ai)):Option (List Int):=dec (yp aC aG aW dF cv cz) (hT 174 3 [10000,10001,10002,10003,10004] [(0,(.ptr 10000 0)),(3,(.cp [(.str iq)])),(5,(.row 5)),(11,(pT v11)),(12,(pI v12)),(13,(pI kH))] [(5,(oI o5)),(10000,(oB aC aG 10001 10002 10003 10004)),(10001,(oM 9 3 V9 V3 aW)),(10002,(oS dF)),(10003,(oI cv)),(10004,(oA cz))])
abbrev ym.T:Type:=Int
def ym (aL:List Int) (bq:List af) (bh:List ak) (bu:List (sB×Int)) (br:List sB) (bY:List Int) (bZ:List (List ai)):ym.T→Out:=(fun x:Int=>((Q1 x,[(10000,(.box 75 [(pN aL)])),(10001,(.box 91 [(.ptr 10002 0)])),(10002,(oB bq bh 10003 10004 10005 10006)),(10003,(oM 9 3 V9 V3 bu)),(10004,(oS br)),(10005,(oI bY)),(10006,(oA bZ))]):Out))
instance (aL:List Int) (bq:List af) (bh:List ak) (bu:List ((List UInt8)×Int)) (br:List (List UInt8)) (bY:List Int) (bZ:List (List ai)):c4 (ym aL bq bh bu br bY bZ):=⟨fun a b h=>by
  simp only [ym,Prod.mk.injEq,and_true] at h
  exact c4.inj _ _ h⟩
abbrev lK.T:Type:=Int
def lK (cN:Int) (bq:List af) (bh:List ak) (bu:List (sB×Int)) (br:List sB) (bY:List Int) (bZ:List (List ai)):lK.T→Out:=(fun x:Int=>((Q1 x,[(10000,(.box 91 [(.ptr 10002 0)])),(10001,(.box 3 [(pI cN)])),(10002,(oB bq bh 10003 10004 10005 10006)),(10003,(oM 9 3 V9 V3 bu)),(10004,(oS br)),(10005,(oI bY)),(10006,(oA bZ))]):Out))
instance (cN:Int) (bq:List af) (bh:List ak) (bu:List ((List UInt8)×Int)) (br:List (List UInt8)) (bY:List Int) (bZ:List (List ai)):c4 (lK cN bq bh bu br bY bZ):=⟨fun a b h=>by
  simp only [lK,Prod.mk.injEq,and_true] at h
  exact c4.inj _ _ h⟩
def OZ (s0 aL:List Int) (bq:List af) (bh:List ak) (bu:List (sB×Int)) (br:List sB) (bY:List Int) (bZ:List (List ai)):Option Int:=dec (ym aL bq bh bu br bY bZ) (Rn 175 [(pN s0),(.cl 176 [.p 10000, .p 10001])] [(10000,(.box 75 [(pN aL)])),(10001,(.box 91 [(.ptr 10002 0)])),(10002,(oB bq bh 10003 10004 10005 10006)),(10003,(oM 9 3 V9 V3 bu)),(10004,(oS br)),(10005,(oI bY)),(10006,(oA bZ))])
def O0 (s0:List Int) (cN:Int) (bq:List af) (bh:List ak) (bu:List (sB×Int)) (br:List sB) (bY:List Int) (bZ:List (List ai)):Option Int:=dec (lK cN bq bh bu br bY bZ) (Rn 175 [(pN s0),(.cl 177 [.p 10000, .p 10001])] [(10000,(.box 91 [(.ptr 10002 0)])),(10001,(.box 3 [(pI cN)])),(10002,(oB bq bh 10003 10004 10005 10006)),(10003,(oM 9 3 V9 V3 bu)),(10004,(oS br)),(10005,(oI bY)),(10006,(oA bZ))])
def wg (s0:List Int) (v7 v8:Int) (aC:List Int) (dW:List af) (dX:List ak) (cv:List (sB×Int)) (cz:List sB) (fP:List Int) (fQ:List (List ai)):Option Int:=dec (ym aC dW dX cv cz fP fQ) (hT 175 2 [10000,10001,10002,10003,10004,10005,10006] [(0,(pN s0)),(1,(.cl 176 [.p 10000, .p 10001])),(7,(pI v7)),(8,(pI v8))] [(10000,(.box 75 [(pN aC)])),(10001,(.box 91 [(.ptr 10002 0)])),(10002,(oB dW dX 10003 10004 10005 10006)),(10003,(oM 9 3 V9 V3 cv)),(10004,(oS cz)),(10005,(oI fP)),(10006,(oA fQ))])
def wh (s0:List Int) (v7 v8 jv:Int) (dW:List af) (dX:List ak) (cv:List (sB×Int)) (cz:List sB) (fP:List Int) (fQ:List (List ai)):Option Int:=dec (lK jv dW dX cv cz fP fQ) (hT 175 2 [10000,10001,10002,10003,10004,10005,10006] [(0,(pN s0)),(1,(.cl 177 [.p 10000, .p 10001])),(7,(pI v7)),(8,(pI v8))] [(10000,(.box 91 [(.ptr 10002 0)])),(10001,(.box 3 [(pI jv)])),(10002,(oB dW dX 10003 10004 10005 10006)),(10003,(oM 9 3 V9 V3 cv)),(10004,(oS cz)),(10005,(oI fP)),(10006,(oA fQ))])
abbrev CE.T:Type:=Bool
def CE (aL:List Int) (bq:List af) (bh:List ak) (bu:List (sB×Int)) (br:List sB) (bY:List Int) (bZ:List (List ai)):CE.T→Out:=(fun x:Bool=>((Q0 x,[(10000,(.box 75 [(pN aL)])),(10001,(.box 91 [(.ptr 10002 0)])),(10002,(oB bq bh 10003 10004 10005 10006)),(10003,(oM 9 3 V9 V3 bu)),(10004,(oS br)),(10005,(oI bY)),(10006,(oA bZ))]):Out))
instance (aL:List Int) (bq:List af) (bh:List ak) (bu:List ((List UInt8)×Int)) (br:List (List UInt8)) (bY:List Int) (bZ:List (List ai)):c4 (CE aL bq bh bu br bY bZ):=⟨fun a b h=>by
  simp only [CE,Prod.mk.injEq,and_true] at h
  exact c4.inj _ _ h⟩
def f382 (a0:Int) (aL:List Int) (bq:List af) (bh:List ak) (bu:List (sB×Int)) (br:List sB) (bY:List Int) (bZ:List (List ai)):Option Bool:=dec (CE aL bq bh bu br bY bZ) (Rn 176 [(pI a0),(.ptr 10000 0),(.ptr 10001 0)] [(10000,(.box 75 [(pN aL)])),(10001,(.box 91 [(.ptr 10002 0)])),(10002,(oB bq bh 10003 10004 10005 10006)),(10003,(oM 9 3 V9 V3 bu)),(10004,(oS br)),(10005,(oI bY)),(10006,(oA bZ))])
def f390 (b0 cN:Int) (bq:List af) (bh:List ak) (bu:List (sB×Int)) (br:List sB) (bY:List Int) (bZ:List (List ai)):Option Bool:=dec (FR cN bq bh bu br bY bZ) (Rn 177 [(pI b0),(.ptr 10000 0),(.ptr 10001 0)] [(10000,(.box 91 [(.ptr 10002 0)])),(10001,(.box 3 [(pI cN)])),(10002,(oB bq bh 10003 10004 10005 10006)),(10003,(oM 9 3 V9 V3 bu)),(10004,(oS br)),(10005,(oI bY)),(10006,(oA bZ))])
abbrev tw.T:Type:=List ((List UInt8)×(List Int))
def tw (aL:List af) (bp:List ak) (bF:List (sB×Int)) (cV:List sB) (bu:List Int) (br:List (List ai)):tw.T→Out:=(fun x:List (sB×(List Int))=>((Q25 x,[(10000,(oB aL bp 10001 10002 10003 10004)),(10001,(oM 9 3 V9 V3 bF)),(10002,(oS cV)),(10003,(oI bu)),(10004,(oA br))]):Out))
instance (aL:List af) (bp:List ak) (bF:List ((List UInt8)×Int)) (cV:List (List UInt8)) (bu:List Int) (br:List (List ai)):c4 (tw aL bp bF cV bu br):=⟨fun a b h=>by
  simp only [tw,Prod.mk.injEq,and_true] at h
  exact c4.inj _ _ h⟩
def f377 (i1:Int) (aL:List af) (bp:List ak) (bF:List (sB×Int)) (cV:List sB) (bu:List Int) (br:List (List ai)):Option (List (sB×(List Int))):=dec (tw aL bp bF cV bu br) (Rn 178 [(.ptr 10000 0),(pI i1)] [(10000,(oB aL bp 10001 10002 10003 10004)),(10001,(oM 9 3 V9 V3 bF)),(10002,(oS cV)),(10003,(oI bu)),(10004,(oA br))])
def qQ (i1:Int) (jR:List af) (v17 jA:Int) (fB:List (sB×(List Int))) (aC:List af) (aG:List ak) (aW:List (sB×Int)) (dF:List sB) (cv:List Int) (cz:List (List ai)):Option (List (sB×(List Int))):=dec (tw aC aG aW dF cv cz) (hT 178 4 [10000,10001,10002,10003,10004] [(1,(pI i1)),(2,(.ptr 2 0)),(5,(.ptr 5 0)),(6,(.cl 214 [.p 2, .p 5])),(16,(pT jR)),(17,(pI v17)),(18,(pI jA))] [(2,(.box 91 [(.ptr 10000 0)])),(5,(.box 179 [(.row 11)])),(11,(oM 9 74 V9 oZ fB)),(10000,(oB aC aG 10001 10002 10003 10004)),(10001,(oM 9 3 V9 V3 aW)),(10002,(oS dF)),(10003,(oI cv)),(10004,(oA cz))])
def uL (i1:Int) (jR:List af) (v17 jA:Int) (v36:List aq) (v37 v38:Int) (o8:af) (fB:List (sB×(List Int))) (aC:List af) (aG:List ak) (aW:List (sB×Int)) (dF:List sB) (cv:List Int) (cz:List (List ai)):Option (List (sB×(List Int))):=dec (tw aC aG aW dF cv cz) (hT 178 8 [10000,10001,10002,10003,10004] [(1,(pI i1)),(2,(.ptr 2 0)),(5,(.ptr 5 0)),(6,(.cl 214 [.p 2, .p 5])),(16,(pT jR)),(17,(pI v17)),(18,(pI jA)),(36,(pF v36)),(37,(pI v37)),(38,(pI v38))] [(2,(.box 91 [(.ptr 10000 0)])),(5,(.box 179 [(.row 11)])),(8,(.box 52 (List.map .pv (af.enc o8)))),(11,(oM 9 74 V9 oZ fB)),(10000,(oB aC aG 10001 10002 10003 10004)),(10001,(oM 9 3 V9 V3 aW)),(10002,(oS dF)),(10003,(oI cv)),(10004,(oA cz))])
def f140 (s0:List UInt8) (rD:Bool):Option Bool:=dec (EN Q0) (Rn 179 [(.pv (.str s0)),(.pv (.bool rD))] [])
def Bv (s0:List UInt8) (rD:Bool) (i5:Int):Option Bool:=dec (EN Q0) (hT 179 4 [] [(0,(.pv (.str s0))),(1,(.pv (.bool rD))),(5,(pI i5))] [])
def f137 (d0:List af) (l1:List sB):Option (List sB):=dec (EN Q14) (Rn 180 [(pT d0),(pS l1)] [])
def Bt (d0:List af) (l1 NI:List sB) (i6:Int):Option (List sB):=dec (EN Q14) (hT 180 3 [] [(0,(pT d0)),(1,(pS l1)),(5,(pS NI)),(6,(pI i6))] [])
def f138 (d0:List af) (bW:List UInt8):Option (List sB):=dec (EN Q14) (Rn 181 [(pT d0),(.pv (.str bW))] [])
def Bu (d0:List af) (i6:Int) (jG:List sB):Option (List sB):=dec (EN Q14) (hT 181 5 [] [(0,(pT d0)),(5,(.row 16)),(6,(pI i6))] [(16,(oS jG))])
def xW (d0:List af) (i6:Int) (l7:List sB) (k8:Int) (jG:List sB):Option (List sB):=dec (EN Q14) (hT 181 9 [] [(0,(pT d0)),(5,(.row 16)),(6,(pI i6)),(7,(pS l7)),(8,(pI k8))] [(16,(oS jG))])
def s8 (cW:List sB) (i10:Int) (jG:List sB):Option (List sB):=dec (EN Q14) (hT 181 15 [] [(5,(.row 16)),(9,(pS cW)),(10,(pI i10))] [(16,(oS jG))])
def f113 (s0:List af):Option Bool:=dec (EN Q0) (Rn 182 [(pT s0),(.pv (.fn 183 []))] [])
def f114 (x0:af):Option Bool:=dec (EN Q0) (Rn 183 [(.pv (.agg (af.enc x0)))] [])
def f115 (s0:List UInt8):Option Bool:=dec (EN Q0) (Rn 184 [(.pv (.str s0))] [])
def f116 (x0:List sB):Option sB:=dec (EN Q22) (Rn 185 [(pS x0)] [])
def FA (x0:List sB) (m3:List UInt8) (i4:Int):Option sB:=dec (EN Q22) (hT 185 5 [] [(0,(pS x0)),(3,(.pv (.str m3))),(4,(pI i4))] [])
abbrev lM.T:Type:=Nat×(List (List UInt8))
def lM:lM.T→Out:=(fun x:Nat×(List sB)=>((Q26 x.1,[(10000, .row 9 1 (List.map au x.2))]):Out))
instance:c4 lM:=⟨fun a b h=>by
  obtain ⟨a0,a1⟩:=a
  obtain ⟨b0,b1⟩:=b
  simp only [lM,Prod.mk.injEq,List.cons.injEq,Ob.row.injEq,Ob.mp.injEq,and_true,true_and] at h
  obtain ⟨h0,h1⟩:=h
  rw [c4.inj _ _ h0,map_inj c4.inj _ _ h1]⟩
def f117 (ki:List UInt8) (cC:List sB):Option (Nat×(List sB)):=dec lM (Rn 186 [(.row 10000),(.pv (.fn 187 [(.ref [(.str ki)])]))] [(10000,(oS cC))])
def xV (ki:List UInt8) (i5 j6:Int) (bU:List sB):Option (Nat×(List sB)):=dec lM (hT 186 5 [10000] [(0,(.row 10000)),(1,(.pv (.fn 187 [(.ref [(.str ki)])]))),(5,(pI i5)),(6,(pI j6))] [(10000,(oS bU))])
def f118 (s0 a1:List UInt8):Option Bool:=dec (EN Q0) (Rn 187 [(.pv (.str s0)),(.pv (.ref [(.str a1)]))] [])
def f120 (x0 y1:List UInt8):Option Bool:=dec (EN Q0) (Rn 189 [(.pv (.str x0)),(.pv (.str y1))] [])
def f121 (x0:List UInt8):Option Bool:=dec (EN Q0) (Rn 190 [(.pv (.str x0))] [])
def f124 (cC:List sB):Option (Nat×(List sB)):=dec lM (Rn 193 [(.row 10000)] [(10000,(oS cC))])
def FB (k3:Int) (bU:List sB):Option (Nat×(List sB)):=dec lM (hT 193 4 [10000] [(0,(.row 10000)),(3,(pI k3))] [(10000,(oS bU))])
def RM (k3:Int) (Y3 Y4:Nat) (k25:Int) (bU:List sB):Option (Nat×(List sB)):=dec lM (hT 193 9 [10000] [(0,(.row 10000)),(3,(pI k3)),(4,(.sub 10000 1 Y3 Y4)),(5,(pI k25))] [(10000,(oS bU))])
def f125 (s0:List sB) (v1:List UInt8):Option Int:=dec (EN Q1) (Rn 194 [(pS s0),(.pv (.str v1))] [])
def Br (s0:List sB) (v1:List UInt8) (v7 v8:Int):Option Int:=dec (EN Q1) (hT 194 2 [] [(0,(pS s0)),(1,(.pv (.str v1))),(7,(pI v7)),(8,(pI v8))] [])
def f126 (s0:List sB) (eo:List UInt8) (rL:List sB):Option Int:=dec (EN Q1) (Rn 195 [(pS s0),(.pv (.fn 148 [(.ref [(.str eo)]),(.ref [(.bS 1 (List.map au rL))])]))] [])
def O1 (s0:List sB) (eo:List UInt8):Option Int:=dec (EN Q1) (Rn 195 [(pS s0),(.pv (.fn 187 [(.ref [(.str eo)])]))] [])
def Bs (s0:List sB) (eo:List UInt8) (rL:List sB) (v7 v8:Int):Option Int:=dec (EN Q1) (hT 195 2 [] [(0,(pS s0)),(1,(.pv (.fn 148 [(.ref [(.str eo)]),(.ref [(.bS 1 (List.map au rL))])]))),(7,(pI v7)),(8,(pI v8))] [])
def wj (s0:List sB) (eo:List UInt8) (v7 v8:Int):Option Int:=dec (EN Q1) (hT 195 2 [] [(0,(pS s0)),(1,(.pv (.fn 187 [(.ref [(.str eo)])]))),(7,(pI v7)),(8,(pI v8))] [])
def f110 (s0:List UInt8):Option Bool:=dec (EN Q0) (Rn 206 [(.pv (.str s0))] [])
def f111 (d0:List af) (bW:List UInt8):Option Int:=dec (EN Q1) (Rn 207 [(pT d0),(.pv (.str bW))] [])
def Fx (d0:List af) (bW:List UInt8) (i5:Int):Option Int:=dec (EN Q1) (hT 207 2 [] [(0,(pT d0)),(1,(.pv (.str bW))),(5,(pI i5))] [])
def f112 (x0:af) (tG:List sB):Option Bool:=dec (EN Q0) (Rn 208 [(.pv (.agg (af.enc x0))),(pS tG)] [])
def Fy (tG:List sB) (i5:Int) (o2:af):Option Bool:=dec (EN Q0) (hT 208 2 [] [(1,(pS tG)),(2,(.ptr 2 0)),(5,(pI i5))] [(2,(.box 52 (List.map .pv (af.enc o2))))])
def f139 (b0:List Int):Option (List Int):=dec (EN Q9) (Rn 209 [(pU b0)] [])
def xX (b0:List Int) (i4:Int) (o3:List Int):Option (List Int):=dec (EN Q9) (hT 209 3 [] [(0,(pU b0)),(3,(.row 3)),(4,(pI i4))] [(3,(oI o3))])
def f142 (s0:List UInt8):Option Bool:=dec (EN Q0) (Rn 210 [(.pv (.str s0)),(.pv (.fn 219 []))] [])
def O2 (s0:List UInt8):Option Bool:=dec (EN Q0) (Rn 210 [(.pv (.str s0)),(.pv (.fn 211 []))] [])
def xY (gx:List UInt8) (fK:Nat):Option Bool:=dec (EN Q0) (hT 210 4 [] [(1,(.pv (.fn 219 []))),(16,(.ptr 16 0))] [(16,(.it gx fK))])
def s9 (gx:List UInt8) (fK:Nat):Option Bool:=dec (EN Q0) (hT 210 4 [] [(1,(.pv (.fn 211 []))),(16,(.ptr 16 0))] [(16,(.it gx fK))])
def f387 (c0:Int):Option Bool:=dec (EN Q0) (Rn 211 [(.pv (.int .i32 c0))] [])
abbrev yu.T:Type:=Int
def yu (cC:aq):yu.T→Out:=(fun x:Int=>((Q1 x,[(10000,(.box 54 (List.map .pv (aq.enc cC))))]):Out))
instance (cC:aq):c4 (yu cC):=⟨fun a b h=>by
  simp only [yu,Prod.mk.injEq,and_true] at h
  exact c4.inj _ _ h⟩
def f384 (s0:List aq) (cC:aq):Option Int:=dec (yu cC) (Rn 212 [(pF s0),(.cl 173 [.p 10000])] [(10000,(.box 54 (List.map .pv (aq.enc cC))))])
def O4 (s0:List aq) (eo:List UInt8):Option Int:=dec (EN Q1) (Rn 212 [(pF s0),(.pv (.fn 213 [(.ref [(.str eo)])]))] [])
def BM (s0:List aq) (v7 v8:Int) (bU:aq):Option Int:=dec (yu bU) (hT 212 2 [10000] [(0,(pF s0)),(1,(.cl 173 [.p 10000])),(7,(pI v7)),(8,(pI v8))] [(10000,(.box 54 (List.map .pv (aq.enc bU))))])
def wz (s0:List aq) (eo:List UInt8) (v7 v8:Int):Option Int:=dec (EN Q1) (hT 212 2 [] [(0,(pF s0)),(1,(.pv (.fn 213 [(.ref [(.str eo)])]))),(7,(pI v7)),(8,(pI v8))] [])
def f389 (f0:aq) (a1:List UInt8):Option Bool:=dec (EN Q0) (Rn 213 [(.pv (.agg (aq.enc f0))),(.pv (.ref [(.str a1)]))] [])
abbrev CG.T:Type:=Unit×(List ((List UInt8)×(List Int)))
def CG (bq:List af) (bh:List ak) (br:List (sB×Int)) (bY:List sB) (bZ:List Int) (lq:List (List ai)):CG.T→Out:=(fun x:Unit×(List (sB×(List Int)))=>((Q20 x.1,[(10000,(.box 91 [(.ptr 10002 0)])),(10001,(.box 179 [(.row 10003)])),(10002,(oB bq bh 10004 10005 10006 10007)),(10003, .mp 9 74 (aH V9 oZ x.2).1 (aH V9 oZ x.2).2),(10004,(oM 9 3 V9 V3 br)),(10005,(oS bY)),(10006,(oI bZ)),(10007,(oA lq))]):Out))
instance (bq:List af) (bh:List ak) (br:List ((List UInt8)×Int)) (bY:List (List UInt8)) (bZ:List Int) (lq:List (List ai)):c4 (CG bq bh br bY bZ lq):=⟨fun a b h=>by
  obtain ⟨a0,a1⟩:=a
  obtain ⟨b0,b1⟩:=b
  simp only [CG,Prod.mk.injEq,List.cons.injEq,Ob.row.injEq,Ob.mp.injEq,and_true,true_and] at h
  have h0:a0=b0:=rfl
  have h1:=h
  rw [h0,iI (K:=V9) (V:=oZ) h1.1 h1.2]⟩
def f385 (f0:aq) (bq:List af) (bh:List ak) (bu:List (sB×(List Int))) (br:List (sB×Int)) (bY:List sB) (bZ:List Int) (lq:List (List ai)):Option (Unit×(List (sB×(List Int)))):=dec (CG bq bh br bY bZ lq) (Rn 214 [(.pv (.agg (aq.enc f0))),(.ptr 10000 0),(.ptr 10001 0)] [(10000,(.box 91 [(.ptr 10002 0)])),(10001,(.box 179 [(.row 10003)])),(10002,(oB bq bh 10004 10005 10006 10007)),(10003,(oM 9 74 V9 oZ bu)),(10004,(oM 9 3 V9 V3 br)),(10005,(oS bY)),(10006,(oI bZ)),(10007,(oA lq))])
abbrev CF.T:Type:=List Int
def CF (aL:List af) (bp:List ak) (bF:List (sB×Int)) (cV:List sB) (bu:List Int) (br:List (List ai)):CF.T→Out:=(fun x:List Int=>((Q11 x,[(10000,(oB aL bp 10001 10002 10003 10004)),(10001,(oM 9 3 V9 V3 bF)),(10002,(oS cV)),(10003,(oI bu)),(10004,(oA br))]):Out))
instance (aL:List af) (bp:List ak) (bF:List ((List UInt8)×Int)) (cV:List (List UInt8)) (bu:List Int) (br:List (List ai)):c4 (CF aL bp bF cV bu br):=⟨fun a b h=>by
  simp only [CF,Prod.mk.injEq,and_true] at h
  exact c4.inj _ _ h⟩
def f383 (bW:List UInt8) (aL:List af) (bp:List ak) (bF:List (sB×Int)) (cV:List sB) (bu:List Int) (br:List (List ai)):Option (List Int):=dec (CF aL bp bF cV bu br) (Rn 215 [(.ptr 10000 0),(.pv (.str bW))] [(10000,(oB aL bp 10001 10002 10003 10004)),(10001,(oM 9 3 V9 V3 bF)),(10002,(oS cV)),(10003,(oI bu)),(10004,(oA br))])
def f159 (c0:Int):Option Bool:=dec (EN Q0) (Rn 216 [(.pv (.int .u8 c0))] [])
def f160 (c0:Int) (rD:Bool):Option Bool:=dec (EN Q0) (Rn 217 [(.pv (.int .u8 c0)),(.pv (.bool rD))] [])
def f141 (s0:List af):Option Int:=dec (EN Q1) (Rn 218 [(pT s0),(.pv (.fn 183 []))] [])
def Bw (s0:List af) (v7 v8:Int):Option Int:=dec (EN Q1) (hT 218 2 [] [(0,(pT s0)),(1,(.pv (.fn 183 []))),(7,(pI v7)),(8,(pI v8))] [])
def f143 (c0:Int):Option Bool:=dec (EN Q0) (Rn 219 [(.pv (.int .i32 c0))] [])
def f161 (c0:Int):Option Bool:=dec (EN Q0) (Rn 235 [(.pv (.int .i32 c0))] [])
def f166 (c0:Int):Option Bool:=dec (EN Q0) (Rn 236 [(.pv (.int .u8 c0))] [])
def f167 (c0:Int):Option Bool:=dec (EN Q0) (Rn 237 [(.pv (.int .u8 c0))] [])
end
end Go.Proofs.YtmidjldjkbljjaaGreatDoor.cl
