/- The functions and loops as plain ones, by program (decomp4.p. -/
import Derived.Test.YtmidjldjkbljjaaGreatDoorClT
set_option linter.unusedVariables false
set_option linter.unusedSimpArgs false
set_option maxRecDepth 100000
namespace Go.Proofs.YtmidjldjkbljjaaGreatDoor.cl
noncomputable section
open Go Go.AM
def f307 (nW:List sB) (fe:Int):Option Bool:=dec (EN Q0) (Rn 11 [(pS nW),(.pv (.int .u8 fe))] [])
def yZ (fe:Int) (p5:List af) (v25:List sB) (v26 v27:Int) (LO:List af):Option Bool:=dec (EN Q0) (hT 11 8 [] [(1,(.pv (.int .u8 fe))),(5,(pT p5)),(6,(.row 22)),(25,(pS v25)),(26,(pI v26)),(27,(pI v27))] [(22,(.row 52 3 (List.map af.enc LO)))])
def f308 (d0:List af):Option Bool:=dec (EN Q0) (Rn 12 [(pT d0)] [])
def f318 (d0:List af):Option Int:=dec (EN Q1) (Rn 22 [(pT d0)] [])
def AJ (d0:List af) (l3:List aq) (f5:List sB) (i7:Int):Option Int:=dec (EN Q1) (hT 22 11 [] [(0,(pT d0)),(3,(pC l3)),(5,(pS f5)),(7,(pI i7))] [])
def xz (d0:List af) (l3:List aq) (f5:List sB) (t10:Int):Option Int:=dec (EN Q1) (hT 22 17 [] [(0,(pT d0)),(3,(pC l3)),(5,(pS f5)),(10,(pI t10))] [])
def xA (d0:List af) (l3:List aq) (f5:List sB) (t10 i11:Int):Option Int:=dec (EN Q1) (hT 22 20 [] [(0,(pT d0)),(3,(pC l3)),(5,(pS f5)),(10,(pI t10)),(11,(pI i11))] [])
def f319 (d0:List af):Option ((List aJ)×Int):=dec (EN Q2) (Rn 23 [(pT d0)] [])
def y5 (t4:Option table) (v20:List sB) (v21 v22:Int) (o6:List aJ):Option ((List aJ)×Int):=dec (EN Q2) (hT 23 6 [] [(4,(.pv (Ai table.enc t4))),(6,(.row 6)),(20,(pS v20)),(21,(pI v21)),(22,(pI v22))] [(6,(.row 45 2 (List.map aJ.enc o6)))])
def f320 (d0:List af):Option ((List aJ)×Int):=dec (EN Q2) (Rn 24 [(pT d0)] [])
def Cw (d0:List af) (l5:List aq) (f7:List sB) (i9:Int) (o8:List aJ):Option ((List aJ)×Int):=dec (EN Q2) (hT 24 8 [] [(0,(pT d0)),(5,(pC l5)),(7,(pS f7)),(8,(.row 8)),(9,(pI i9))] [(8,(.row 45 2 (List.map aJ.enc o8)))])
def f321 (a0 b1:List aJ):Option Bool:=dec (EN Q0) (Rn 25 [(.pv (.cm 2 (List.map aJ.enc a0))),(.pv (.cm 2 (List.map aJ.enc b1)))] [])
def GG (a0 b1:List aJ) (i5:Int):Option Bool:=dec (EN Q0) (hT 25 4 [] [(0,(.pv (.cm 2 (List.map aJ.enc a0)))),(1,(.pv (.cm 2 (List.map aJ.enc b1)))),(5,(pI i5))] [])
def f322 (d0:List af):Option ((List (List au))×Int):=dec (EN Q3) (Rn 26 [(pT d0)] [])
def f323 (d0:List af):Option ((List (List au))×Int):=dec (EN Q3) (Rn 27 [(pT d0)] [])
def y6 (d0:List af) (l5:List aq) (f7:List sB) (t9:Int) (o8:List (List au)):Option ((List (List au))×Int):=dec (EN Q3) (hT 27 8 [] [(0,(pT d0)),(5,(pC l5)),(7,(pS f7)),(8,(.row 8)),(9,(pI t9))] [(8,(oA o8))])
def uf (d0:List af) (l5:List aq) (f7:List sB) (t9 i11:Int) (o8:List (List au)) (gd:List au):Option ((List (List au))×Int):=dec (EN Q3) (hT 27 12 [] [(0,(pT d0)),(5,(pC l5)),(7,(pS f7)),(8,(.row 8)),(9,(pI t9)),(10,(.row 10)),(11,(pI i11))] [(8,(oA o8)),(10,(.row 37 2 (List.map au.enc gd)))])
def f24 (l0:List aq) (i1 j2:Int):Option Bool:=dec (EN Q0) (Rn 33 [(pC l0),(pI i1),(pI j2)] [])
def f14 (d0:List af):Option ((List aq)×Int):=dec (EN Q10) (Rn 36 [(pT d0)] [])
def rL (d0:List af) (fA:List sB) (dA mD:List (List Int)) (v35 v36:Int) (o9:List aq):Option ((List aq)×Int):=dec (EN Q10) (hT 36 10 [] [(0,(pT d0)),(5,(pS fA)),(6,(.pv (.cm 1 (List.map (bS 1 (aB .u64)) dA)))),(9,(.row 9)),(34,(.pv (.cm 1 (List.map (bS 1 (aB .u64)) mD)))),(35,(pI v35)),(36,(pI v36))] [(9,(.row 108 2 (List.map aq.enc o9)))])
def yY (d0:List af) (fA:List sB) (dA mD:List (List Int)) (v35 v36:Int) (v53:List Int) (v54 v55:Int) (o9:List aq) (sj:aq) (rq:List sB):Option ((List aq)×Int):=dec (EN Q10) (hT 36 18 [] [(0,(pT d0)),(5,(pS fA)),(6,(.pv (.cm 1 (List.map (bS 1 (aB .u64)) dA)))),(9,(.row 9)),(12,(.ptr 12 0)),(14,(.row 14)),(34,(.pv (.cm 1 (List.map (bS 1 (aB .u64)) mD)))),(35,(pI v35)),(36,(pI v36)),(53,(pN v53)),(54,(pI v54)),(55,(pI v55))] [(9,(.row 108 2 (List.map aq.enc o9))),(12,(.box 108 (List.map .pv (aq.enc sj)))),(14,(oS rq))])
def f326 :Option (List af):=dec (EN Q5) (Rn 38 [] [])
def f328 (a0 b1:List af):Option Bool:=dec (EN Q0) (Rn 39 [(pT a0),(pT b1)] [])
def Cx (a0 b1:List af) (i5:Int):Option Bool:=dec (EN Q0) (hT 39 4 [] [(0,(pT a0)),(1,(pT b1)),(5,(pI i5))] [])
def GH (a0 b1:List af) (i5 k6:Int):Option Bool:=dec (EN Q0) (hT 39 9 [] [(0,(pT a0)),(1,(pT b1)),(5,(pI i5)),(6,(pI k6))] [])
def f327 :Option (List af):=dec (EN Q5) (Rn 40 [] [])
def f329 :Option Bool:=dec (EN Q0) (Rn 41 [] [])
def y7 (yu iK:List sB) (v41 v42:Int) (o1:ak):Option Bool:=dec (EN Q0) (hT 41 7 [] [(1,(.ptr 1 0)),(3,(pS yu)),(4,(pS iK)),(41,(pI v41)),(42,(pI v42))] [(1,(.box 65 (List.map .pv (ak.enc o1))))])
def pz (iK:List sB) (v68 v69:Int) (o1:ak):Option Bool:=dec (EN Q0) (hT 41 13 [] [(1,(.ptr 1 0)),(4,(pS iK)),(68,(pI v68)),(69,(pI v69))] [(1,(.box 65 (List.map .pv (ak.enc o1))))])
def f331 (d0:List af):Option (ak×Int):=dec (EN Q6) (Rn 42 [(pT d0)] [])
def ug (rQ:List (List au)) (uX v40:List aq) (v41 v42:Int) (o2:ak) (LQ:List aJ) (kW:List bu) (fJ:List aJ) (sY:List bu) (Et:List aJ):Option (ak×Int):=dec (EN Q6) (hT 42 12 [] [(2,(.ptr 2 0)),(6,(.pv (.cm 1 (List.map (bS 2 au.enc) rQ)))),(7,(pC uX)),(8,(.ptr 8 0)),(40,(pC v40)),(41,(pI v41)),(42,(pI v42))] [(2,(.box 65 (List.map .pv (ak.enc o2)))),(8,(.box 65 [(.row 5624),(.pv (.cm 2 (List.map aJ.enc LQ)))])),(5128,(.row 77 4 (List.map bu.enc kW))),(5129,(.row 45 2 (List.map aJ.enc fJ))),(5624,(.row 77 4 (List.map bu.enc sY))),(5625,(.row 45 2 (List.map aJ.enc Et)))])
def f332 (d0:List af):Option (ak×Int):=dec (EN Q6) (Rn 43 [(pT d0)] [])
def Cz (d0:List af) (v4:List (List au)) (l6:List aq) (i9:Int) (o2:ak) (kW:List bu) (fJ:List aJ):Option (ak×Int):=dec (EN Q6) (hT 43 7 [] [(0,(pT d0)),(2,(.ptr 2 0)),(4,(.pv (.cm 1 (List.map (bS 2 au.enc) v4)))),(6,(pC l6)),(8,(.ptr 8 0)),(9,(pI i9))] [(2,(.box 65 (List.map .pv (ak.enc o2)))),(8,(.box 65 [(.row 5128),(.row 5129)])),(5128,(.row 77 4 (List.map bu.enc kW))),(5129,(.row 45 2 (List.map aJ.enc fJ)))])
def f333 (a0 b1:ak):Option Bool:=dec (EN Q0) (Rn 44 [(.pv (.agg (ak.enc a0))),(.pv (.agg (ak.enc b1)))] [])
def GI (i5:Int) (o2 o3:ak):Option Bool:=dec (EN Q0) (hT 44 4 [] [(2,(.ptr 2 0)),(3,(.ptr 3 0)),(5,(pI i5))] [(2,(.box 65 (List.map .pv (ak.enc o2)))),(3,(.box 65 (List.map .pv (ak.enc o3))))])
def f330 (d0:List af):Option Bool:=dec (EN Q0) (Rn 45 [(pT d0)] [])
def f352 (h0:ak) (bE:List UInt8):Option Int:=dec (EN Q1) (Rn 47 [(.pv (.agg (ak.enc h0))),(.pv (.str bE))] [])
def f363 (h0:ak) (bE:List UInt8):Option Int:=dec (EN Q1) (Rn 48 [(.pv (.agg (ak.enc h0))),(.pv (.str bE))] [])
def CI (bE:List UInt8) (v8:List aJ) (v9 v10:Int) (o2:ak):Option Int:=dec (EN Q1) (hT 48 2 [] [(1,(.pv (.str bE))),(8,(.pv (.cm 2 (List.map aJ.enc v8)))),(9,(pI v9)),(10,(pI v10))] [(2,(.box 65 (List.map .pv (ak.enc o2))))])
def f335 (h0:ak) (a1 b2:Int):Option (Int×Bool):=dec (EN Q8) (Rn 51 [(.pv (.agg (ak.enc h0))),(pI a1),(pI b2)] [])
def f337 (h0:ak) (a1 b2:Int):Option Int:=dec (EN Q1) (Rn 53 [(.pv (.agg (ak.enc h0))),(pI a1),(pI b2)] [])
def oh (A9:List Int) (AY:Int) (v25:List bu) (v26 v27:Int) (o3:ak):Option Int:=dec (EN Q1) (hT 53 4 [] [(3,(.ptr 3 0)),(7,(pU A9)),(8,(pI AY)),(25,(.pv (.cm 4 (List.map bu.enc v25)))),(26,(pI v26)),(27,(pI v27))] [(3,(.box 65 (List.map .pv (ak.enc o3))))])
def f339 (h0:ak) (a1 b2:Int):Option Bool:=dec (EN Q0) (Rn 55 [(.pv (.agg (ak.enc h0))),(pI a1),(pI b2)] [])
def f26 (a0 b1:List Int):Option Bool:=dec (EN Q0) (Rn 57 [(pN a0),(pN b1)] [])
def NM (a0 b1:List Int) (i5:Int):Option Bool:=dec (EN Q0) (hT 57 4 [] [(0,(pN a0)),(1,(pN b1)),(5,(pI i5))] [])
def f341 (h0:ak) (t1:Int):Option (List Int):=dec (EN Q9) (Rn 58 [(.pv (.agg (ak.enc h0))),(pI t1)] [])
def vu (t1 v9 v10:Int) (o2:ak) (o5:List Int):Option (List Int):=dec (EN Q9) (hT 58 3 [] [(1,(pI t1)),(2,(.ptr 2 0)),(5,(.row 5)),(9,(pI v9)),(10,(pI v10))] [(2,(.box 65 (List.map .pv (ak.enc o2)))),(5,(oI o5))])
def f355 (h0:ak) (t1 f2:Int):Option (Int×Bool):=dec (EN Q8) (Rn 60 [(.pv (.agg (ak.enc h0))),(pI t1),(pI f2)] [])
def CG (f2:Int) (fh:List au) (jd v17:Int) (o3:ak):Option (Int×Bool):=dec (EN Q8) (hT 60 2 [] [(2,(pI f2)),(15,(pP fh)),(16,(pI jd)),(17,(pI v17))] [(3,(.box 65 (List.map .pv (ak.enc o3))))])
def f15 (d0:List af):Option ((List aq)×Int):=dec (EN Q10) (Rn 63 [(pT d0)] [])
def Jq (d0:List af) (ki:List sB) (i7:Int) (o6:List (List Int)):Option ((List aq)×Int):=dec (EN Q10) (hT 63 7 [] [(0,(pT d0)),(5,(pS ki)),(6,(.row 6)),(7,(pI i7))] [(6,(.row 74 1 (List.map (bS 1 (aB .u64)) o6)))])
def rM (d0:List af) (ki:List sB) (dA f8:List (List Int)) (c5:List aq) (i10:Int):Option ((List aq)×Int):=dec (EN Q10) (hT 63 15 [] [(0,(pT d0)),(5,(pS ki)),(6,(.pv (.cm 1 (List.map (bS 1 (aB .u64)) dA)))),(8,(.pv (.cm 1 (List.map (bS 1 (aB .u64)) f8)))),(9,(pC c5)),(10,(pI i10))] [])
def Cs (d0:List af) (ki:List sB) (dA f8:List (List Int)) (c5:List aq) (i10 v12:Int) (kn:aq):Option ((List aq)×Int):=dec (EN Q10) (hT 63 19 [] [(0,(pT d0)),(5,(pS ki)),(6,(.pv (.cm 1 (List.map (bS 1 (aB .u64)) dA)))),(8,(.pv (.cm 1 (List.map (bS 1 (aB .u64)) f8)))),(9,(pC c5)),(10,(pI i10)),(11,(.ptr 11 0)),(12,(pI v12))] [(11,(.box 108 (List.map .pv (aq.enc kn))))])
def f29 (a0 b1:List Int):Option (List Int):=dec (EN Q11) (Rn 64 [(pU a0),(pU b1)] [])
def EJ (a0 b1:List Int) (lU fh:Int) (sj:List Int):Option (List Int):=dec (EN Q11) (hT 64 3 [] [(0,(pU a0)),(1,(pU b1)),(5,(.row 12)),(14,(pI lU)),(15,(pI fh))] [(12,(.row 134 1 (List.map (aB .u64) sj)))])
def f30 (b0:List Int):Option Int:=dec (EN Q1) (Rn 65 [(pU b0)] [])
def tC (n3:Int) (v6:List Int) (v7 v8:Int):Option Int:=dec (EN Q1) (hT 65 3 [] [(3,(pI n3)),(6,(pU v6)),(7,(pI v7)),(8,(pI v8))] [])
def f31 (a0 b1:List Int):Option Bool:=dec (EN Q0) (Rn 66 [(pU a0),(pU b1)] [])
def f38 (d0:List af):Option Bool:=dec (EN Q0) (Rn 69 [(pT d0)] [])
def NO (d0:List af) (i3:Int):Option Bool:=dec (EN Q0) (hT 69 4 [] [(0,(pT d0)),(3,(pI i3))] [])
def f344 (d0:List af):Option ((Option table)×Int):=dec (EN Q13) (Rn 70 [(pT d0)] [])
def vv (Ba:List aq) (v24:List af) (v25 v26:Int) (o21:List (sB×Int)) (jy:List af) (jA:List aq) (ND:List af) (NF:List aq) (IU:List sB) (IV:List Int) (IW:List (List au)):Option ((Option table)×Int):=dec (EN Q13) (hT 70 6 [] [(4,(pC Ba)),(6,(.ptr 23 0)),(24,(pT v24)),(25,(pI v25)),(26,(pI v26))] [(21,(oM 9 3 V9 V3 o21)),(23,(oB jy jA 21 5355 5356 5357)),(5352,(.row 52 3 (List.map af.enc ND))),(5353,(.row 108 2 (List.map aq.enc NF))),(5355,(oS IU)),(5356,(oI IV)),(5357,(oA IW))])
def f345 (d0:List af):Option (List sB):=dec (EN Q14) (Rn 71 [(pT d0)] [])
def CB (d0:List af) (sZ:List sB) (i4:Int):Option (List sB):=dec (EN Q14) (hT 71 3 [] [(0,(pT d0)),(3,(pS sZ)),(4,(pI i4))] [])
def GJ (d0:List af) (sZ:List sB) (i4 k5:Int):Option (List sB):=dec (EN Q14) (hT 71 6 [] [(0,(pT d0)),(3,(pS sZ)),(4,(pI i4)),(5,(pI k5))] [])
def f346 (d0:List af):Option Int:=dec (EN Q1) (Rn 72 [(pT d0)] [])
def CC (d0:List af) (sk:List sB) (i4:Int):Option Int:=dec (EN Q1) (hT 72 3 [] [(0,(pT d0)),(3,(pS sk)),(4,(pI i4))] [])
def CD (d0:List af) (sk:List sB) (i4:Int) (l5:List aj) (k6:Int):Option Int:=dec (EN Q1) (hT 72 7 [] [(0,(pT d0)),(3,(pS sk)),(4,(pI i4)),(5,(pF l5)),(6,(pI k6))] [])
def AK (d0:List af) (sk:List sB) (i4:Int) (l5:List aj) (k6 m7:Int):Option Int:=dec (EN Q1) (hT 72 12 [] [(0,(pT d0)),(3,(pS sk)),(4,(pI i4)),(5,(pF l5)),(6,(pI k6)),(7,(pI m7))] [])
def f357 (d0:List af) (fO:List UInt8):Option (sB×Bool):=dec (EN Q15) (Rn 73 [(pT d0),(.pv (.str fO))] [])
def CH (d0:List af) (fO:List UInt8) (zh:List sB) (i7:Int):Option (sB×Bool):=dec (EN Q15) (hT 73 3 [] [(0,(pT d0)),(1,(.pv (.str fO))),(6,(pS zh)),(7,(pI i7))] [])
def f370 (d0:List af) (l1:List aq) (t2:Int) (iu:List UInt8):Option ((List Int)×Bool):=dec (EN Q19) (Rn 74 [(pT d0),(pC l1),(pI t2),(.pv (.str iu))] [])
def zb (d0:List af) (l1:List aq) (t2:Int) (iu:List UInt8) (OS:Bool) (uW:List Int) (i12:Int):Option ((List Int)×Bool):=dec (EN Q19) (hT 74 4 [] [(0,(pT d0)),(1,(pC l1)),(2,(pI t2)),(3,(.pv (.str iu))),(10,(.pv (.bool OS))),(11,(pU uW)),(12,(pI i12))] [])
def f358 (l0:List aq) (bE:List UInt8):Option Int:=dec (EN Q1) (Rn 75 [(pC l0),(.pv (.str bE))] [])
def GM (l0:List aq) (bE:List UInt8) (i5:Int):Option Int:=dec (EN Q1) (hT 75 2 [] [(0,(pC l0)),(1,(.pv (.str bE))),(5,(pI i5))] [])
def f19 (l0:List aq) (b1:List Int):Option Int:=dec (EN Q1) (Rn 76 [(pC l0),(pU b1)] [])
def NL (l0:List aq) (n5:List Int) (i6:Int):Option Int:=dec (EN Q1) (hT 76 3 [] [(0,(pC l0)),(5,(pU n5)),(6,(pI i6))] [])
def f359 (a0 b1:List au):Option Bool:=dec (EN Q0) (Rn 77 [(pP a0),(pP b1)] [])
def GN (a0 b1:List au) (i5:Int):Option Bool:=dec (EN Q0) (hT 77 4 [] [(0,(pP a0)),(1,(pP b1)),(5,(pI i5))] [])
abbrev Vc.T:Type:=Bool
def f63 (a0 b1:List Int):Option Bool:=dec (EN Q0) (Rn 80 [(pU a0),(pU b1)] [])
def Jy (b1 v7:List Int) (v8 v9:Int):Option Bool:=dec (EN Q0) (hT 80 2 [] [(1,(pU b1)),(7,(pU v7)),(8,(pI v8)),(9,(pI v9))] [])
def f39 (d0:List af):Option Int:=dec (EN Q1) (Rn 81 [(pT d0)] [])
def zd (d0:List af) (EY:Int) (v20:List af) (v21 v22:Int):Option Int:=dec (EN Q1) (hT 81 11 [] [(0,(pT d0)),(5,(pI EY)),(20,(pT v20)),(21,(pI v21)),(22,(pI v22))] [])
def f40 (d0:List af):Option ((List sB)×(List (List Int))):=dec (EN Q16) (Rn 82 [(pT d0)] [])
def EK (d0 fh:List af) (jd v17:Int) (o4:List sB):Option ((List sB)×(List (List Int))):=dec (EN Q16) (hT 82 3 [] [(0,(pT d0)),(4,(.row 4)),(15,(pT fh)),(16,(pI jd)),(17,(pI v17))] [(4,(oS o4))])
def vB (d0:List af) (v33 mD:Int) (o4:List sB) (BO:List (List Int)):Option ((List sB)×(List (List Int))):=dec (EN Q16) (hT 82 10 [] [(0,(pT d0)),(4,(.row 4)),(7,(.row 31)),(32,(.row 4)),(33,(pI v33)),(34,(pI mD))] [(4,(oS o4)),(31,(.row 74 1 (List.map (bS 1 (aB .u64)) BO)))])
def ze (d0:List af) (i8 v33 mD:Int) (v41:List sB) (v42 CS:Int) (o4:List sB) (gd:List Int) (BO:List (List Int)):Option ((List sB)×(List (List Int))):=dec (EN Q16) (hT 82 14 [] [(0,(pT d0)),(4,(.row 4)),(7,(.row 31)),(8,(pI i8)),(10,(.row 10)),(32,(.row 4)),(33,(pI v33)),(34,(pI mD)),(41,(pS v41)),(42,(pI v42)),(43,(pI CS))] [(4,(oS o4)),(10,(oI gd)),(31,(.row 74 1 (List.map (bS 1 (aB .u64)) BO)))])
def f41 (gq:List (List Int)):Option ((List (List Int))×Bool):=dec (EN Q17) (Rn 83 [(.pv (.cm 1 (List.map (bS 1 (aB .u64)) gq)))] [])
def Jr (eU:List (List Int)) (lU fh:Int) (kn:List (sB×Bool)) (ga:List (List Int)):Option ((List (List Int))×Bool):=dec (EN Q17) (hT 83 5 [] [(5,(.ptr 5 0)),(6,(.cl 139 [.p 4, .p 5])),(13,(.pv (.cm 1 (List.map (bS 1 (aB .u64)) eU)))),(14,(pI lU)),(15,(pI fh))] [(4,(.box 151 [(.row 11)])),(5,(.box 109 [(.row 5080)])),(11,(oM 9 4 V9 V4 kn)),(5080,(.row 74 1 (List.map (bS 1 (aB .u64)) ga)))])
def zf (i9:Int) (kn:List (sB×Bool)) (ga:List (List Int)):Option ((List (List Int))×Bool):=dec (EN Q17) (hT 83 10 [] [(5,(.ptr 5 0)),(6,(.cl 139 [.p 4, .p 5])),(9,(pI i9))] [(4,(.box 151 [(.row 11)])),(5,(.box 109 [(.row 5080)])),(11,(oM 9 4 V9 V4 kn)),(5080,(.row 74 1 (List.map (bS 1 (aB .u64)) ga)))])
def GX (i9 k10:Int) (kn:List (sB×Bool)) (ga:List (List Int)):Option ((List (List Int))×Bool):=dec (EN Q17) (hT 83 13 [] [(5,(.ptr 5 0)),(6,(.cl 139 [.p 4, .p 5])),(9,(pI i9)),(10,(pI k10))] [(4,(.box 151 [(.row 11)])),(5,(.box 109 [(.row 5080)])),(11,(oM 9 4 V9 V4 kn)),(5080,(.row 74 1 (List.map (bS 1 (aB .u64)) ga)))])
def f42 (l0:List (List Int)) (gT:List Int):Option Int:=dec (EN Q1) (Rn 84 [(.pv (.cm 1 (List.map (bS 1 (aB .u64)) l0))),(.pv (.fn 85 [(.ref [(.cm 1 (List.map (aB .u64) gT))])]))] [])
def Js (gT:List Int) (v7:List (List Int)) (v8 v9:Int):Option Int:=dec (EN Q1) (hT 84 2 [] [(1,(.pv (.fn 85 [(.ref [(.cm 1 (List.map (aB .u64) gT))])]))),(7,(.pv (.cm 1 (List.map (bS 1 (aB .u64)) v7)))),(8,(pI v8)),(9,(pI v9))] [])
def f43 (c0 a1:List Int):Option Bool:=dec (EN Q0) (Rn 85 [(pU c0),(.pv (.ref [(.cm 1 (List.map (aB .u64) a1))]))] [])
def f44 (b0:List Int):Option (List Int):=dec (EN Q9) (Rn 86 [(pU b0)] [])
def Jt (v6:List Int) (v7 v8:Int) (o3:List Int):Option (List Int):=dec (EN Q9) (hT 86 3 [] [(3,(.row 3)),(6,(pU v6)),(7,(pI v7)),(8,(pI v8))] [(3,(oI o3))])
def Ju (i4 w5:Int) (v6:List Int) (v7 v8:Int) (o3:List Int):Option (List Int):=dec (EN Q9) (hT 86 5 [] [(3,(.row 3)),(4,(pI i4)),(5,(.pv (.int .u64 w5))),(6,(pU v6)),(7,(pI v7)),(8,(pI v8))] [(3,(oI o3))])
def f45 (W5:List sB) (sep1:List UInt8):Option sB:=dec (EN Q22) (Rn 87 [(pS W5),(.pv (.str sep1))] [])
def f46 (d0:List af) (FQ:List sB):Option (List sB):=dec (EN Q14) (Rn 88 [(pT d0),(pS FQ)] [])
def CM (l5:List sB) (TU:List (sB×(List sB))) (v17:List sB) (pG ox:Int) (o7:List sB):Option (List sB):=dec (EN Q14) (hT 88 5 [] [(5,(pS l5)),(6,(.pv (.mp (aO V9 jM TU).1 (aO V9 jM TU).2))),(7,(.row 7)),(17,(pS v17)),(18,(pI pG)),(19,(pI ox))] [(7,(oS o7))])
abbrev JU.T:Type:=Unit×(List aq)
def JU:JU.T→Out:=(fun x:Unit×(List aq)=>((Q20 x.1,[(10000, .row 108 2 (List.map aq.enc x.2))]):Out))
instance:c6 JU:=⟨fun a b h=>by
  obtain ⟨a0,a1⟩:=a
  obtain ⟨b0,b1⟩:=b
  simp only [JU,Prod.mk.injEq,List.cons.injEq,Ob.row.injEq,Ob.mp.injEq,and_true,true_and] at h
  have h0:a0=b0:=rfl
  have h1:=h
  rw [h0,map_inj c6.inj _ _ h1]⟩
def f47 (cD:List aq):Option (Unit×(List aq)):=dec JU (Rn 89 [(.row 10000),(.pv (.fn 90 []))] [(10000,(.row 108 2 (List.map aq.enc cD)))])
def f350 (uH fe:List UInt8) (ek:List aj):Option af:=dec (EN Q12) (Rn 94 [(.pv (.str uH)),(.pv (.str fe)),(pF ek)] [])
def f362 (a0 b1:List sB):Option Bool:=dec (EN Q0) (Rn 95 [(pS a0),(pS b1)] [])
def GO (a0 b1:List sB) (i5:Int):Option Bool:=dec (EN Q0) (hT 95 4 [] [(0,(pS a0)),(1,(pS b1)),(5,(pI i5))] [])
def f351 (uH fe:List UInt8) (ek:List sB):Option af:=dec (EN Q12) (Rn 96 [(.pv (.str uH)),(.pv (.str fe)),(pS ek)] [])
def CE (ek:List sB) (i8:Int) (o6:af) (vk:List UInt8) (rq qy:List sB) (qz:List aj) (oT:List sB) (iQ:List aj):Option af:=dec (EN Q12) (hT 96 5 [] [(2,(pS ek)),(6,(.ptr 6 0)),(7,(.ptr 7 0)),(8,(pI i8))] [(6,(.box 52 (List.map .pv (af.enc o6)))),(7,(.box 52 [(.pv (.str vk)),(.row 14),(.row 5162)])),(14,(oS rq)),(5113,(oS qy)),(5114,(.row 54 2 (List.map aj.enc qz))),(5161,(oS oT)),(5162,(.row 54 2 (List.map aj.enc iQ)))])
def xB (ek:List sB) (i8:Int) (o6:af) (vk:List UInt8) (qy:List sB) (qz:List aj) (oT:List sB) (iQ:List aj):Option af:=dec (EN Q12) (hT 96 5 [] [(2,(pS ek)),(6,(.ptr 6 0)),(7,(.ptr 7 0)),(8,(pI i8))] [(6,(.box 52 (List.map .pv (af.enc o6)))),(7,(.box 52 [(.pv (.str vk)),(.row 5161),(.row 5162)])),(5113,(oS qy)),(5114,(.row 54 2 (List.map aj.enc qz))),(5161,(oS oT)),(5162,(.row 54 2 (List.map aj.enc iQ)))])
def f27 (l0:List aq) (i1:Int):Option (List Int):=dec (EN Q9) (Rn 97 [(pC l0),(pI i1)] [])
def z7 (i1 v12 eU:Int) (Ap:List aq) (o5 o6:List Int):Option (List Int):=dec (EN Q9) (hT 97 3 [] [(1,(pI i1)),(2,(.ptr 2 0)),(5,(.row 5)),(6,(.row 6)),(12,(pI v12)),(13,(pI eU))] [(2,(.box 39 [(pC Ap)])),(5,(oI o5)),(6,(oI o6))])
def Ct (l2:List aq) (v31 v32:Int) (o5 o6:List Int):Option (List Int):=dec (EN Q9) (hT 97 9 [] [(2,(.cp [(.cm 2 (List.map aq.enc l2))])),(5,(.row 5)),(6,(.row 6)),(30,(.row 5)),(31,(pI v31)),(32,(pI v32))] [(5,(oI o5)),(6,(oI o6))])
def f28 (l0:List aq) (i1:Int):Option (List Int):=dec (EN Q9) (Rn 98 [(pC l0),(pI i1)] [])
def xx (l0:List aq) (i1 k6:Int) (o5:List Int):Option (List Int):=dec (EN Q9) (hT 98 3 [] [(0,(pC l0)),(1,(pI i1)),(5,(.row 5)),(6,(pI k6))] [(5,(oI o5))])
def z8 (l0:List aq) (i1 k6:Int) (vR:Bool) (m8:Int) (o5:List Int):Option (List Int):=dec (EN Q9) (hT 98 8 [] [(0,(pC l0)),(1,(pI i1)),(5,(.row 5)),(6,(pI k6)),(7,(.pv (.bool vR))),(8,(pI m8))] [(5,(oI o5))])
def f57 (a0 b1:List Int):Option Bool:=dec (EN Q0) (Rn 99 [(pU a0),(pU b1)] [])
def NR (a0 b1:List Int) (i5:Int):Option Bool:=dec (EN Q0) (hT 99 4 [] [(0,(pU a0)),(1,(pU b1)),(5,(pI i5))] [])
def f353 (s0:List bu) (cI:List Int):Option Int:=dec (EN Q1) (Rn 100 [(.pv (.cm 4 (List.map bu.enc s0))),(.pv (.fn 102 [(.ref [(.cm 1 (List.map (aB .u64) cI))])]))] [])
def QI (s0:List bu) (cI:List UInt8):Option Int:=dec (EN Q1) (Rn 100 [(.pv (.cm 4 (List.map bu.enc s0))),(.pv (.fn 101 [(.ref [(.str cI)])]))] [])
def CF (s0:List bu) (cI:List Int) (v7 v8:Int):Option Int:=dec (EN Q1) (hT 100 2 [] [(0,(.pv (.cm 4 (List.map bu.enc s0)))),(1,(.pv (.fn 102 [(.ref [(.cm 1 (List.map (aB .u64) cI))])]))),(7,(pI v7)),(8,(pI v8))] [])
def xC (s0:List bu) (cI:List UInt8) (v7 v8:Int):Option Int:=dec (EN Q1) (hT 100 2 [] [(0,(.pv (.cm 4 (List.map bu.enc s0)))),(1,(.pv (.fn 101 [(.ref [(.str cI)])]))),(7,(pI v7)),(8,(pI v8))] [])
def f374 (t0:bu) (a1:List UInt8):Option Bool:=dec (EN Q0) (Rn 101 [(.pv (.agg (bu.enc t0))),(.pv (.ref [(.str a1)]))] [])
def f371 (t0:bu) (a1:List Int):Option Bool:=dec (EN Q0) (Rn 102 [(.pv (.agg (bu.enc t0))),(.pv (.ref [(.cm 1 (List.map (aB .u64) a1))]))] [])
def f61 (a0 b1:List Int):Option (List Int):=dec (EN Q11) (Rn 104 [(pU a0),(pU b1)] [])
def Jx (a0 b1:List Int) (i6:Int) (o5:List Int):Option (List Int):=dec (EN Q11) (hT 104 3 [] [(0,(pU a0)),(1,(pU b1)),(5,(.row 5)),(6,(pI i6))] [(5,(.row 134 1 (List.map (aB .u64) o5)))])
def f62 (a0 b1:List Int):Option (List Int):=dec (EN Q11) (Rn 105 [(pU a0),(pU b1)] [])
def EO (a0 b1:List Int) (lU fh:Int) (sj:List Int):Option (List Int):=dec (EN Q11) (hT 105 3 [] [(0,(pU a0)),(1,(pU b1)),(5,(.row 12)),(14,(pI lU)),(15,(pI fh))] [(12,(.row 134 1 (List.map (aB .u64) sj)))])
def f65 (a0 b1:List Int):Option Bool:=dec (EN Q0) (Rn 107 [(pU a0),(pU b1)] [])
def f32 (d0:List af):Option Int:=dec (EN Q1) (Rn 108 [(pT d0)] [])
def Cy (d0:List af) (n6 i7:Int):Option Int:=dec (EN Q1) (hT 108 12 [] [(0,(pT d0)),(6,(pI n6)),(7,(pI i7))] [])
def f52 (d0:List af):Option (List sB):=dec (EN Q14) (Rn 109 [(pT d0)] [])
def NQ (d0:List af) (sZ:List sB) (i4:Int):Option (List sB):=dec (EN Q14) (hT 109 3 [] [(0,(pT d0)),(3,(pS sZ)),(4,(pI i4))] [])
def f53 (d0:List af) (jr:List sB) (Nw:List UInt8):Option (List Int):=dec (EN Q11) (Rn 110 [(pT d0),(pS jr),(.pv (.str Nw))] [])
def EL (jr IG:List sB) (i9:Int) (o8:List Int):Option (List Int):=dec (EN Q11) (hT 110 4 [] [(1,(pS jr)),(7,(pS IG)),(8,(.row 8)),(9,(pI i9))] [(8,(oI o8))])
def f54 (gq:List (List Int)):Option (List (List Int)):=dec (EN Q18) (Rn 111 [(.pv (.cm 1 (List.map (bS 1 (aB .u64)) gq)))] [])
def CN (i4:Int) (o7:List (List Int)):Option (List (List Int)):=dec (EN Q18) (hT 111 3 [] [(3,(.row 7)),(4,(pI i4))] [(7,(.row 74 1 (List.map (bS 1 (aB .u64)) o7)))])
def CO (i4 k5:Int) (o7:List (List Int)):Option (List (List Int)):=dec (EN Q18) (hT 111 6 [] [(3,(.row 7)),(4,(pI i4)),(5,(pI k5))] [(7,(.row 74 1 (List.map (bS 1 (aB .u64)) o7)))])
def f55 (d0:List af) (jr:List sB) (lB:List (List Int)) (b3:List Int):Option sB:=dec (EN Q22) (Rn 112 [(pT d0),(pS jr),(.pv (.cm 1 (List.map (bS 1 (aB .u64)) lB))),(pU b3)] [])
def EM (d0:List af) (jr:List sB) (lB:List (List Int)) (b3:List Int) (i10:Int) (o9:List sB):Option sB:=dec (EN Q22) (hT 112 3 [] [(0,(pT d0)),(1,(pS jr)),(2,(.pv (.cm 1 (List.map (bS 1 (aB .u64)) lB)))),(3,(pU b3)),(9,(.row 9)),(10,(pI i10))] [(9,(oS o9))])
def tF (l9:List sB) (s11:List UInt8) (i12:Int):Option sB:=dec (EN Q22) (hT 112 12 [] [(9,(pS l9)),(11,(.pv (.str s11))),(12,(pI i12))] [])
def f56 (a0 b1:aq):Option Bool:=dec (EN Q0) (Rn 113 [(.pv (.agg (aq.enc a0))),(.pv (.agg (aq.enc b1)))] [])
def f68 (b0:List Int):Option (List Int):=dec (EN Q11) (Rn 114 [(pU b0)] [])
def JA (b0:List Int) (n3:Int):Option (List Int):=dec (EN Q11) (hT 114 2 [] [(0,(pU b0)),(3,(pI n3))] [])
def f69 (x0:Int):Option Int:=dec (EN Q1) (Rn 115 [(.pv (.int .u64 x0))] [])
def f18 (l0:List aq) (Mz:List Int):Option Int:=dec (EN Q1) (Rn 116 [(pC l0),(pU Mz)] [])
def f366 (s0:List aq) (cI:af):Option Int:=dec (EN Q1) (Rn 117 [(pC s0),(.pv (.fn 118 [(.ref (af.enc cI))]))] [])
def CJ (s0:List aq) (cI:af) (v7 v8:Int):Option Int:=dec (EN Q1) (hT 117 2 [] [(0,(pC s0)),(1,(.pv (.fn 118 [(.ref (af.enc cI))]))),(7,(pI v7)),(8,(pI v8))] [])
def f375 (c0:aq) (a1:af):Option Bool:=dec (EN Q0) (Rn 118 [(.pv (.agg (aq.enc c0))),(.pv (.ref (af.enc a1)))] [])
abbrev gP.T:Type:=Int×(List ((List UInt8)×Int))×(List (List UInt8))×(List Int)×(List (List au))
def gP (aQ:List af) (bA:List aq):gP.T→Out:=(fun x:Int×(List (sB×Int))×(List sB)×(List Int)×(List (List au))=>((Q1 x.1,[(10000,(oB aQ bA 10001 20002 20003 20004)),(10001, .mp 9 3 (aO V9 V3 x.2.1).1 (aO V9 V3 x.2.1).2),(20002, .row 9 1 (List.map aA x.2.2.1)),(20003, .row 3 1 (List.map (aB .i64) x.2.2.2.1)),(20004, .row 35 1 (List.map (bS 2 au.enc) x.2.2.2.2))]):Out))
instance (aQ:List af) (bA:List aq):c6 (gP aQ bA):=⟨fun a b h=>by
  obtain ⟨a0,a1,a2,a3,a4⟩:=a
  obtain ⟨b0,b1,b2,b3,b4⟩:=b
  simp only [gP,Prod.mk.injEq,List.cons.injEq,Ob.row.injEq,Ob.mp.injEq,and_true,true_and] at h
  obtain ⟨h0,h1,h2,h3,h4⟩:=h
  rw [c6.inj _ _ h0,iH (K:=V9) (V:=V3) h1.1 h1.2,map_inj c6.inj _ _ h2,map_inj c6.inj _ _ h3,map_inj c6.inj _ _ h4]⟩
def f367 (aQ:List af) (bA:List aq) (cz:List (sB×Int)) (fH:List sB) (dH:List Int) (gD:List (List au)):Option (Int×(List (sB×Int))×(List sB)×(List Int)×(List (List au))):=dec (gP aQ bA) (Rn 119 [(.ptr 10000 0)] [(10000,(oB aQ bA 10001 20002 20003 20004)),(10001,(oM 9 3 V9 V3 cz)),(20002,(oS fH)),(20003,(oI dH)),(20004,(oA gD))])
def vw (ox:List af) (v20 v21:Int) (iP:List (sB×Bool)) (aG:List af) (aI:List aq) (bp:List (sB×Int)) (bH:List sB) (bO:List Int) (bR:List (List au)):Option (Int×(List (sB×Int))×(List sB)×(List Int)×(List (List au))):=dec (gP aG aI) (hT 119 3 [10000,10001,20002,20003,20004] [(0,(.ptr 10000 0)),(3,(.row 15)),(19,(pT ox)),(20,(pI v20)),(21,(pI v21))] [(15,(oM 9 4 V9 V4 iP)),(10000,(oB aG aI 10001 20002 20003 20004)),(10001,(oM 9 3 V9 V3 bp)),(20002,(oS bH)),(20003,(oI bO)),(20004,(oA bR))])
def CK (ox:List af) (v20 v21:Int) (v26:List aj) (v27 v28:Int) (o5:af) (iP:List (sB×Bool)) (aG:List af) (aI:List aq) (bp:List (sB×Int)) (bH:List sB) (bO:List Int) (bR:List (List au)):Option (Int×(List (sB×Int))×(List sB)×(List Int)×(List (List au))):=dec (gP aG aI) (hT 119 6 [10000,10001,20002,20003,20004] [(0,(.ptr 10000 0)),(3,(.row 15)),(19,(pT ox)),(20,(pI v20)),(21,(pI v21)),(26,(pF v26)),(27,(pI v27)),(28,(pI v28))] [(5,(.box 52 (List.map .pv (af.enc o5)))),(15,(oM 9 4 V9 V4 iP)),(10000,(oB aG aI 10001 20002 20003 20004)),(10001,(oM 9 3 V9 V3 bp)),(20002,(oS bH)),(20003,(oI bO)),(20004,(oA bR))])
def uj (CS:List af) (v44 v45:Int) (iP:List (sB×Bool)) (aG:List af) (aI:List aq) (bp:List (sB×Int)) (bH:List sB) (bO:List Int) (bR:List (List au)):Option (Int×(List (sB×Int))×(List sB)×(List Int)×(List (List au))):=dec (gP aG aI) (hT 119 14 [10000,10001,20002,20003,20004] [(0,(.ptr 10000 0)),(3,(.row 15)),(43,(pT CS)),(44,(pI v44)),(45,(pI v45))] [(15,(oM 9 4 V9 V4 iP)),(10000,(oB aG aI 10001 20002 20003 20004)),(10001,(oM 9 3 V9 V3 bp)),(20002,(oS bH)),(20003,(oI bO)),(20004,(oA bR))])
def xD (CS:List af) (v44 v45:Int) (v50:List aj) (v51 NY:Int) (o9:af) (iP:List (sB×Bool)) (aG:List af) (aI:List aq) (bp:List (sB×Int)) (bH:List sB) (bO:List Int) (bR:List (List au)):Option (Int×(List (sB×Int))×(List sB)×(List Int)×(List (List au))):=dec (gP aG aI) (hT 119 17 [10000,10001,20002,20003,20004] [(0,(.ptr 10000 0)),(3,(.row 15)),(9,(.ptr 9 0)),(43,(pT CS)),(44,(pI v44)),(45,(pI v45)),(50,(pF v50)),(51,(pI v51)),(52,(pI NY))] [(9,(.box 52 (List.map .pv (af.enc o9)))),(15,(oM 9 4 V9 V4 iP)),(10000,(oB aG aI 10001 20002 20003 20004)),(10001,(oM 9 3 V9 V3 bp)),(20002,(oS bH)),(20003,(oI bO)),(20004,(oA bR))])
def f368 (aQ:List af) (bA:List aq) (cz:List (sB×Int)) (fH:List sB) (dH:List Int) (gD:List (List au)):Option (Int×(List (sB×Int))×(List sB)×(List Int)×(List (List au))):=dec (gP aQ bA) (Rn 120 [(.ptr 10000 0)] [(10000,(oB aQ bA 10001 20002 20003 20004)),(10001,(oM 9 3 V9 V3 cz)),(20002,(oS fH)),(20003,(oI dH)),(20004,(oA gD))])
def za (v11 v12:Int) (aG:List af) (aI:List aq) (bp:List (sB×Int)) (bH:List sB) (bO:List Int) (bR:List (List au)):Option (Int×(List (sB×Int))×(List sB)×(List Int)×(List (List au))):=dec (gP aG aI) (hT 120 2 [10000,10001,20002,20003,20004] [(1,(.ptr 1 0)),(10,(.row 20002)),(11,(pI v11)),(12,(pI v12))] [(1,(.box 91 [(.ptr 10000 0)])),(10000,(oB aG aI 10001 20002 20003 20004)),(10001,(oM 9 3 V9 V3 bp)),(20002,(oS bH)),(20003,(oI bO)),(20004,(oA bR))])
def f369 (aQ:List af) (bA:List aq) (cz:List (sB×Int)) (fH:List sB) (dH:List Int) (gD:List (List au)):Option (Int×(List (sB×Int))×(List sB)×(List Int)×(List (List au))):=dec (gP aQ bA) (Rn 121 [(.ptr 10000 0)] [(10000,(oB aQ bA 10001 20002 20003 20004)),(10001,(oM 9 3 V9 V3 cz)),(20002,(oS fH)),(20003,(oI dH)),(20004,(oA gD))])
def vz (fh jd:Int) (aG:List af) (aI:List aq) (bp:List (sB×Int)) (bH:List sB) (bO:List Int) (bR:List (List au)):Option (Int×(List (sB×Int))×(List sB)×(List Int)×(List (List au))):=dec (gP aG aI) (hT 121 2 [10000,10001,20002,20003,20004] [(0,(.ptr 10000 0)),(15,(pI fh)),(16,(pI jd))] [(10000,(oB aG aI 10001 20002 20003 20004)),(10001,(oM 9 3 V9 V3 bp)),(20002,(oS bH)),(20003,(oI bO)),(20004,(oA bR))])
def tE (pO:List (sB×(List Int))) (fh jd v26 v27:Int) (o4:List au) (aG:List af) (aI:List aq) (bp:List (sB×Int)) (bH:List sB) (bO:List Int) (bR:List (List au)):Option (Int×(List (sB×Int))×(List sB)×(List Int)×(List (List au))):=dec (gP aG aI) (hT 121 7 [10000,10001,20002,20003,20004] [(0,(.ptr 10000 0)),(4,(.row 4)),(5,(.pv (.mp (aO V9 qc pO).1 (aO V9 qc pO).2))),(15,(pI fh)),(16,(pI jd)),(25,(.row 20002)),(26,(pI v26)),(27,(pI v27))] [(4,(.row 37 2 (List.map au.enc o4))),(10000,(oB aG aI 10001 20002 20003 20004)),(10001,(oM 9 3 V9 V3 bp)),(20002,(oS bH)),(20003,(oI bO)),(20004,(oA bR))])
def f98 (l0:List sB) (s1:List UInt8):Option (List sB):=dec (EN Q14) (Rn 122 [(pS l0),(.pv (.str s1))] [])
def NV (l0:List sB) (s1:List UInt8) (v6:Int) (o5:List sB):Option (List sB):=dec (EN Q14) (hT 122 3 [] [(0,(pS l0)),(1,(.pv (.str s1))),(5,(.row 5)),(6,(pI v6))] [(5,(oS o5))])
def f372 (s0:List UInt8):Option Bool:=dec (EN Q0) (Rn 123 [(.pv (.str s0))] [])
def f37 (l0:List sB) (s1:List UInt8):Option Bool:=dec (EN Q0) (Rn 124 [(pS l0),(.pv (.str s1))] [])
def NN (l0:List sB) (s1:List UInt8) (i5:Int):Option Bool:=dec (EN Q0) (hT 124 2 [] [(0,(pS l0)),(1,(.pv (.str s1))),(5,(pI i5))] [])
def f373 (x0:af) (fO:List UInt8):Option (sB×Bool):=dec (EN Q15) (Rn 125 [(.pv (.agg (af.enc x0))),(.pv (.str fO))] [])
def GU (fO:List UInt8) (i6:Int) (o2:af):Option (sB×Bool):=dec (EN Q15) (hT 125 2 [] [(1,(.pv (.str fO))),(2,(.ptr 2 0)),(6,(pI i6))] [(2,(.box 52 (List.map .pv (af.enc o2))))])
def f104 (d0:List af) (l1:List sB):Option (List sB):=dec (EN Q14) (Rn 126 [(pT d0),(pS l1)] [])
def vt (d0:List af) (oy:List sB) (i7:Int) (o5:List sB):Option (List sB):=dec (EN Q14) (hT 126 4 [] [(0,(pT d0)),(5,(.row 5)),(6,(pS oy)),(7,(pI i7))] [(5,(oS o5))])
def yT (d0:List af) (oy:List sB) (i7:Int) (YA:List sB) (HX:Bool) (k10:Int) (o5:List sB):Option (List sB):=dec (EN Q14) (hT 126 9 [] [(0,(pT d0)),(5,(.row 5)),(6,(pS oy)),(7,(pI i7)),(8,(pS YA)),(9,(.pv (.bool HX))),(10,(pI k10))] [(5,(oS o5))])
def f25 (l0:List aq) (i1 j2:Int):Option Bool:=dec (EN Q0) (Rn 127 [(pC l0),(pI i1),(pI j2)] [])
def f60 (b0:List Int):Option (List Int):=dec (EN Q11) (Rn 128 [(pU b0)] [])
def Jw (b0:List Int) (n3:Int):Option (List Int):=dec (EN Q11) (hT 128 2 [] [(0,(pU b0)),(3,(pI n3))] [])
abbrev Ve.T:Type:=Int
def f107 (b0:List Int) (i1:Int):Option Int:=dec (EN Q21) (Rn 130 [(pU b0),(pI i1)] [])
def f76 (d0:List af):Option Bool:=dec (EN Q0) (Rn 131 [(pT d0)] [])
def f77 (d0:List af):Option Int:=dec (EN Q1) (Rn 132 [(pT d0)] [])
def ER (v9:List af) (v10 v11:Int) (o8:List (sB×Bool)):Option Int:=dec (EN Q1) (hT 132 3 [] [(3,(.row 8)),(9,(pT v9)),(10,(pI v10)),(11,(pI v11))] [(8,(oM 9 4 V9 V4 o8))])
def f78 (d0:List af):Option Int:=dec (EN Q1) (Rn 133 [(pT d0)] [])
def ES (eN:List (sB×(List sB))) (v12:List af) (eU lU:Int):Option Int:=dec (EN Q1) (hT 133 3 [] [(3,(.pv (.mp (aO V9 jM eN).1 (aO V9 jM eN).2))),(12,(pT v12)),(13,(pI eU)),(14,(pI lU))] [])
def JE (eN:List (sB×(List sB))) (v12:List af) (eU lU:Int) (ox:List sB) (v20 v21:Int) (o5:af):Option Int:=dec (EN Q1) (hT 133 6 [] [(3,(.pv (.mp (aO V9 jM eN).1 (aO V9 jM eN).2))),(5,(.ptr 5 0)),(12,(pT v12)),(13,(pI eU)),(14,(pI lU)),(19,(pS ox)),(20,(pI v20)),(21,(pI v21))] [(5,(.box 52 (List.map .pv (af.enc o5))))])
def f79 (d0:List af):Option (List sB):=dec (EN Q14) (Rn 134 [(pT d0)] [])
def ET (pG:List af) (ox v20:Int) (o5:List sB) (jK:List (sB×Int)) (Er:List (sB×Option (List sB))):Option (List sB):=dec (EN Q14) (hT 134 5 [] [(3,(.row 16)),(4,(.row 17)),(5,(.row 5)),(18,(pT pG)),(19,(pI ox)),(20,(pI v20))] [(5,(oS o5)),(16,(oM 9 3 V9 V3 jK)),(17,(.mr 9 9 1 (c8 V9 C9 Er).1 (c8 V9 C9 Er).2))])
def tG (pG:List af) (ox v20:Int) (v40:List sB) (v41 v42:Int) (o5:List sB) (o7:af) (jK:List (sB×Int)) (Er:List (sB×Option (List sB))):Option (List sB):=dec (EN Q14) (hT 134 11 [] [(3,(.row 16)),(4,(.row 17)),(5,(.row 5)),(7,(.ptr 7 0)),(18,(pT pG)),(19,(pI ox)),(20,(pI v20)),(40,(pS v40)),(41,(pI v41)),(42,(pI v42))] [(5,(oS o5)),(7,(.box 52 (List.map .pv (af.enc o7)))),(16,(oM 9 3 V9 V3 jK)),(17,(.mr 9 9 1 (c8 V9 C9 Er).1 (c8 V9 C9 Er).2))])
def rP (dz:List (sB×(List sB))) (o5 gd:List sB) (jK:List (sB×Int)):Option (List sB):=dec (EN Q14) (hT 134 17 [] [(3,(.row 16)),(4,(.pv (.mp (aO V9 jM dz).1 (aO V9 jM dz).2))),(5,(.row 5)),(10,(.row 10))] [(5,(oS o5)),(10,(oS gd)),(16,(oM 9 3 V9 V3 jK))])
def gM (dz:List (sB×(List sB))) (E0:List sB) (v72 v73:Int) (o5 gd:List sB) (jK:List (sB×Int)):Option (List sB):=dec (EN Q14) (hT 134 22 [] [(3,(.row 16)),(4,(.pv (.mp (aO V9 jM dz).1 (aO V9 jM dz).2))),(5,(.row 5)),(10,(.row 10)),(71,(pS E0)),(72,(pI v72)),(73,(pI v73))] [(5,(oS o5)),(10,(oS gd)),(16,(oM 9 3 V9 V3 jK))])
abbrev N5.T:Type:=Unit×(List (List UInt8))
def N5:N5.T→Out:=(fun x:Unit×(List sB)=>((Q20 x.1,[(10000, .row 9 1 (List.map aA x.2))]):Out))
instance:c6 N5:=⟨fun a b h=>by
  obtain ⟨a0,a1⟩:=a
  obtain ⟨b0,b1⟩:=b
  simp only [N5,Prod.mk.injEq,List.cons.injEq,Ob.row.injEq,Ob.mp.injEq,and_true,true_and] at h
  have h0:a0=b0:=rfl
  have h1:=h
  rw [h0,map_inj c6.inj _ _ h1]⟩
def f80 (cD:List sB):Option (Unit×(List sB)):=dec N5 (Rn 135 [(.row 10000)] [(10000,(oS cD))])
def f81 (d0:List af) (bE:List UInt8):Option (List sB):=dec (EN Q14) (Rn 136 [(pT d0),(.pv (.str bE))] [])
def EU (bE:List UInt8) (fh:List af) (jd v17:Int) (rq:List (sB×Option (List sB))):Option (List sB):=dec (EN Q14) (hT 136 3 [] [(1,(.pv (.str bE))),(5,(.row 14)),(15,(pT fh)),(16,(pI jd)),(17,(pI v17))] [(14,(.mr 9 9 1 (c8 V9 C9 rq).1 (c8 V9 C9 rq).2))])
def xG (bE:List UInt8) (fh:List af) (jd v17:Int) (mD:List sB) (v35 v36:Int) (o7:af) (rq:List (sB×Option (List sB))):Option (List sB):=dec (EN Q14) (hT 136 9 [] [(1,(.pv (.str bE))),(5,(.row 14)),(7,(.ptr 7 0)),(15,(pT fh)),(16,(pI jd)),(17,(pI v17)),(34,(pS mD)),(35,(pI v35)),(36,(pI v36))] [(7,(.box 52 (List.map .pv (af.enc o7)))),(14,(.mr 9 9 1 (c8 V9 C9 rq).1 (c8 V9 C9 rq).2))])
def f82 (x0:List sB) (gO:List UInt8):Option (Int×Bool):=dec (EN Q8) (Rn 137 [(pS x0),(.pv (.str gO))] [])
def EV (x0:List sB) (gO:List UInt8) (n6 i7 j8:Int):Option (Int×Bool):=dec (EN Q8) (hT 137 3 [] [(0,(pS x0)),(1,(.pv (.str gO))),(6,(pI n6)),(7,(pI i7)),(8,(pI j8))] [])
def f83 (l0:List Int):Option ((List Int)×Int):=dec (EN Q24) (Rn 138 [(pN l0)] [])
def JF (l0:List Int) (qw:Int) (v10:List Int) (v11 v12:Int):Option ((List Int)×Int):=dec (EN Q24) (hT 138 3 [] [(0,(pN l0)),(4,(pI qw)),(10,(pN v10)),(11,(pI v11)),(12,(pI v12))] [])
def vC (v30:List Int) (v31 v32:Int) (Dp:List Int):Option ((List Int)×Int):=dec (EN Q24) (hT 138 11 [] [(7,(.row 29)),(30,(pN v30)),(31,(pI v31)),(32,(pI v32))] [(29,(.row 134 1 (List.map (aB .u64) Dp)))])
abbrev G8.T:Type:=Unit×(List ((List UInt8)×Bool))×(List (List Int))
def G8:G8.T→Out:=(fun x:Unit×(List (sB×Bool))×(List (List Int))=>((Q20 x.1,[(10000,(.box 151 [(.row 10002)])),(10001,(.box 109 [(.row 20003)])),(10002, .mp 9 4 (aO V9 V4 x.2.1).1 (aO V9 V4 x.2.1).2),(20003, .row 74 1 (List.map (bS 1 (aB .u64)) x.2.2))]):Out))
instance:c6 G8:=⟨fun a b h=>by
  obtain ⟨a0,a1,a2⟩:=a
  obtain ⟨b0,b1,b2⟩:=b
  simp only [G8,Prod.mk.injEq,List.cons.injEq,Ob.row.injEq,Ob.mp.injEq,and_true,true_and] at h
  have h0:a0=b0:=rfl
  obtain ⟨h1,h2⟩:=h
  rw [h0,iH (K:=V9) (V:=V4) h1.1 h1.2,map_inj c6.inj _ _ h2]⟩
def f84 (b0:List Int) (cZ:List (sB×Bool)) (dH:List (List Int)):Option (Unit×(List (sB×Bool))×(List (List Int))):=dec G8 (Rn 139 [(pU b0),(.ptr 10000 0),(.ptr 10001 0)] [(10000,(.box 151 [(.row 10002)])),(10001,(.box 109 [(.row 20003)])),(10002,(oM 9 4 V9 V4 cZ)),(20003,(.row 74 1 (List.map (bS 1 (aB .u64)) dH)))])
def f85 (b0:List Int):Option sB:=dec (EN Q22) (Rn 140 [(pU b0)] [])
def JG (v11:List Int) (v12 eU:Int) (gd:List Int):Option sB:=dec (EN Q22) (hT 140 3 [] [(3,(.row 10)),(11,(pU v11)),(12,(pI v12)),(13,(pI eU))] [(10,(.row 5 1 (List.map (aB .u8) gd)))])
def JH (w5 k6:Int) (v11:List Int) (v12 eU:Int) (gd:List Int):Option sB:=dec (EN Q22) (hT 140 6 [] [(3,(.row 10)),(5,(.pv (.int .u64 w5))),(6,(pI k6)),(11,(pU v11)),(12,(pI v12)),(13,(pI eU))] [(10,(.row 5 1 (List.map (aB .u8) gd)))])
def f86 (x0:Int):Option Int:=dec (EN Q1) (Rn 141 [(.pv (.int .u64 x0))] [])
def f90 (d0:List af) (l1:List sB):Option (List sB):=dec (EN Q14) (Rn 145 [(pT d0),(pS l1)] [])
def CP (pW:List (sB×(List sB))) (eU:List sB) (lU fh:Int) (o6:List sB):Option (List sB):=dec (EN Q14) (hT 145 4 [] [(5,(.pv (.mp (aO V9 jM pW).1 (aO V9 jM pW).2))),(6,(.row 6)),(13,(pS eU)),(14,(pI lU)),(15,(pI fh))] [(6,(oS o6))])
def f75 (d0:List af):Option (List (sB×(List sB))):=dec (EN Q23) (Rn 146 [(pT d0)] [])
def JD (v9:List af) (v10 v11:Int) (o8:List (sB×(List sB))):Option (List (sB×(List sB))):=dec (EN Q23) (hT 146 3 [] [(3,(.row 8)),(9,(pT v9)),(10,(pI v10)),(11,(pI v11))] [(8,(oM 9 49 V9 jM o8))])
def f74 (tH:List (sB×(List sB))) (bE:List UInt8):Option (List sB):=dec (EN Q14) (Rn 147 [(.pv (.mp (aO V9 jM tH).1 (aO V9 jM tH).2)),(.pv (.str bE))] [])
def JC (tH:List (sB×(List sB))) (i9:Int) (Es:List (sB×Bool)) (qI:List sB):Option (List sB):=dec (EN Q14) (hT 147 7 [] [(0,(.pv (.mp (aO V9 jM tH).1 (aO V9 jM tH).2))),(7,(.row 20)),(8,(.row 24)),(9,(pI i9))] [(20,(oM 9 4 V9 V4 Es)),(24,(oS qI))])
def ot (tH:List (sB×(List sB))) (i9:Int) (v36:List sB) (v37 v38:Int) (Es:List (sB×Bool)) (qI:List sB):Option (List sB):=dec (EN Q14) (hT 147 10 [] [(0,(.pv (.mp (aO V9 jM tH).1 (aO V9 jM tH).2))),(7,(.row 20)),(8,(.row 24)),(9,(pI i9)),(36,(pS v36)),(37,(pI v37)),(38,(pI v38))] [(20,(oM 9 4 V9 V4 Es)),(24,(oS qI))])
def f91 (x0 a1:List UInt8) (a2:List sB):Option Bool:=dec (EN Q0) (Rn 148 [(.pv (.str x0)),(.pv (.ref [(.str a1)])),(.pv (.ref [(.cm 1 (List.map aA a2))]))] [])
def f92 (s0:List sB) (v1:List UInt8):Option Bool:=dec (EN Q0) (Rn 149 [(pS s0),(.pv (.str v1))] [])
def f93 (s0:List sB) (cI:List UInt8) (iJ:List sB):Option Bool:=dec (EN Q0) (Rn 150 [(pS s0),(.pv (.fn 148 [(.ref [(.str cI)]),(.ref [(.cm 1 (List.map aA iJ))])]))] [])
def f97 (x0:List UInt8):Option Bool:=dec (EN Q0) (Rn 154 [(.pv (.str x0))] [])
def f66 (m0 a1:Int) (a2:List aq):Option Bool:=dec (EN Q0) (Rn 155 [(pI m0),(.pv (.ref [(.int .i64 a1)])),(.pv (.ref [(.cm 2 (List.map aq.enc a2))]))] [])
abbrev G7.T:Type:=Bool
def G7 (cS:Int) (bB:List af) (bz:List aq) (bD:List (sB×Int)) (bC:List sB) (b8:List Int) (b9:List (List au)):G7.T→Out:=(fun x:Bool=>((Q0 x,[(10000,(.box 91 [(.ptr 10002 0)])),(10001,(.box 3 [(pI cS)])),(10002,(oB bB bz 10003 10004 10005 10006)),(10003,(oM 9 3 V9 V3 bD)),(10004,(oS bC)),(10005,(oI b8)),(10006,(oA b9))]):Out))
instance (cS:Int) (bB:List af) (bz:List aq) (bD:List ((List UInt8)×Int)) (bC:List (List UInt8)) (b8:List Int) (b9:List (List au)):c6 (G7 cS bB bz bD bC b8 b9):=⟨fun a b h=>by
  simp only [G7,Prod.mk.injEq,and_true] at h
  exact c6.inj _ _ h⟩
def f67 (s0:List Int) (cI:Int) (iJ:List aq):Option Bool:=dec (EN Q0) (Rn 156 [(pN s0),(.pv (.fn 155 [(.ref [(.int .i64 cI)]),(.ref [(.cm 2 (List.map aq.enc iJ))])]))] [])
def W9 (s0:List Int) (cS:Int) (bB:List af) (bz:List aq) (bD:List (sB×Int)) (bC:List sB) (b8:List Int) (b9:List (List au)):Option Bool:=dec (G7 cS bB bz bD bC b8 b9) (Rn 156 [(pN s0),(.cl 177 [.p 10000, .p 10001])] [(10000,(.box 91 [(.ptr 10002 0)])),(10001,(.box 3 [(pI cS)])),(10002,(oB bB bz 10003 10004 10005 10006)),(10003,(oM 9 3 V9 V3 bD)),(10004,(oS bC)),(10005,(oI b8)),(10006,(oA b9))])
def f106 (b0:List Int) (i1:Int):Option Int:=dec (EN Q21) (Rn 157 [(pU b0),(pI i1)] [])
def f108 (a0 b1:List Int):Option (List Int):=dec (EN Q11) (Rn 158 [(pU a0),(pU b1)] [])
def Ck (a0 b1:List Int) (i6:Int) (o5:List Int):Option (List Int):=dec (EN Q11) (hT 158 3 [] [(0,(pU a0)),(1,(pU b1)),(5,(.row 5)),(6,(pI i6))] [(5,(.row 134 1 (List.map (aB .u64) o5)))])
def f70 (d0:List af):Option Int:=dec (EN Q1) (Rn 159 [(pT d0)] [])
def NS (d0:List af) (i3:Int):Option Int:=dec (EN Q1) (hT 159 4 [] [(0,(pT d0)),(3,(pI i3))] [])
def f71 (d0:List af):Option Int:=dec (EN Q1) (Rn 160 [(pT d0)] [])
def NT (d0:List af) (i3:Int):Option Int:=dec (EN Q1) (hT 160 2 [] [(0,(pT d0)),(3,(pI i3))] [])
def f72 (d0:List af):Option Int:=dec (EN Q1) (Rn 161 [(pT d0)] [])
def JB (d0:List af) (i3:Int):Option Int:=dec (EN Q1) (hT 161 2 [] [(0,(pT d0)),(3,(pI i3))] [])
def NU (d0:List af) (i3:Int) (l4:List sB) (k5:Int):Option Int:=dec (EN Q1) (hT 161 6 [] [(0,(pT d0)),(3,(pI i3)),(4,(pS l4)),(5,(pI k5))] [])
def f73 (d0:List af):Option (List sB):=dec (EN Q14) (Rn 162 [(pT d0)] [])
def Aa (d0:List af) (mM:Bool) (o3:List sB):Option (List sB):=dec (EN Q14) (hT 162 3 [] [(0,(pT d0)),(3,(.row 3)),(4,(.pv (.bool mM)))] [(3,(oS o3))])
def xF (d0:List af) (mM:Bool) (oQ:List UInt8) (i6:Int) (o3:List sB):Option (List sB):=dec (EN Q14) (hT 162 7 [] [(0,(pT d0)),(3,(.row 3)),(4,(.pv (.bool mM))),(5,(.pv (.str oQ))),(6,(pI i6))] [(3,(oS o3))])
def f99 (d0:List af) (bE:List UInt8):Option (List sB):=dec (EN Q14) (Rn 163 [(pT d0),(.pv (.str bE))] [])
def JI (d0:List af) (i6:Int) (iP:List sB):Option (List sB):=dec (EN Q14) (hT 163 5 [] [(0,(pT d0)),(5,(.row 15)),(6,(pI i6))] [(15,(oS iP))])
def CQ (d0:List af) (i6 k7:Int) (iP:List sB):Option (List sB):=dec (EN Q14) (hT 163 8 [] [(0,(pT d0)),(5,(.row 15)),(6,(pI i6)),(7,(pI k7))] [(15,(oS iP))])
def zg (Ar:List sB) (i9:Int) (iP:List sB):Option (List sB):=dec (EN Q14) (hT 163 14 [] [(5,(.row 15)),(8,(pS Ar)),(9,(pI i9))] [(15,(oS iP))])
def f100 (l0:List Int):Option ((List Int)×Int):=dec (EN Q24) (Rn 164 [(pN l0)] [])
def yS (l0:List Int) (i5:Int) (o6:List Int):Option ((List Int)×Int):=dec (EN Q24) (hT 164 3 [] [(0,(pN l0)),(4,(.row 6)),(5,(pI i5))] [(6,(.row 134 1 (List.map (aB .u64) o6)))])
def f101 (l0:List (List Int)) (b1:List Int):Option Bool:=dec (EN Q0) (Rn 165 [(.pv (.cm 1 (List.map (bS 1 (aB .u64)) l0))),(pU b1)] [])
def GA (l0:List (List Int)) (b1:List Int) (i5:Int):Option Bool:=dec (EN Q0) (hT 165 2 [] [(0,(.pv (.cm 1 (List.map (bS 1 (aB .u64)) l0)))),(1,(pU b1)),(5,(pI i5))] [])
def f102 (a0 b1:List Int):Option Bool:=dec (EN Q0) (Rn 166 [(pU a0),(pU b1)] [])
def f103 (b0:List Int) (i1:Int):Option Bool:=dec (EN Q0) (Rn 167 [(pU b0),(pI i1)] [])
def f105 (b0:List Int):Option Int:=dec (EN Q1) (Rn 168 [(pU b0)] [])
def f58 (l0:List aq) (gT:List Int):Option Int:=dec (EN Q1) (Rn 169 [(pC l0),(.pv (.fn 170 [(.ref [(.cm 1 (List.map (aB .u64) gT))])]))] [])
def Jv (gT:List Int) (v7:List aq) (v8 v9:Int):Option Int:=dec (EN Q1) (hT 169 2 [] [(1,(.pv (.fn 170 [(.ref [(.cm 1 (List.map (aB .u64) gT))])]))),(7,(pC v7)),(8,(pI v8)),(9,(pI v9))] [])
def f59 (x0:aq) (a1:List Int):Option Bool:=dec (EN Q0) (Rn 170 [(.pv (.agg (aq.enc x0))),(.pv (.ref [(.cm 1 (List.map (aB .u64) a1))]))] [])
def f380 (s0:List UInt8):Option Bool:=dec (EN Q0) (Rn 171 [(.pv (.str s0))] [])
abbrev vH.T:Type:=Bool
def vH (cD:aj):vH.T→Out:=(fun x:Bool=>((Q0 x,[(10000,(.box 54 (List.map .pv (aj.enc cD))))]):Out))
instance (cD:aj):c6 (vH cD):=⟨fun a b h=>by
  simp only [vH,Prod.mk.injEq,and_true] at h
  exact c6.inj _ _ h⟩
def f381 (s0:List aj) (cD:aj):Option Bool:=dec (vH cD) (Rn 172 [(pF s0),(.cl 173 [.p 10000])] [(10000,(.box 54 (List.map .pv (aj.enc cD))))])
def QJ (s0:List aj) (cI:List UInt8):Option Bool:=dec (EN Q0) (Rn 172 [(pF s0),(.pv (.fn 213 [(.ref [(.str cI)])]))] [])
def f388 (y0 cD:aj):Option Bool:=dec (vH cD) (Rn 173 [(.pv (.agg (aj.enc y0))),(.ptr 10000 0)] [(10000,(.box 54 (List.map .pv (aj.enc cD))))])
abbrev zl.T:Type:=List Int
def zl (aQ:List af) (bA:List aq) (cz:List (sB×Int)) (cZ:List sB) (bD:List Int) (bC:List (List au)):zl.T→Out:=(fun x:List Int=>((Q9 x,[(10000,(oB aQ bA 10001 10002 10003 10004)),(10001,(oM 9 3 V9 V3 cz)),(10002,(oS cZ)),(10003,(oI bD)),(10004,(oA bC))]):Out))
instance (aQ:List af) (bA:List aq) (cz:List ((List UInt8)×Int)) (cZ:List (List UInt8)) (bD:List Int) (bC:List (List au)):c6 (zl aQ bA cz cZ bD bC):=⟨fun a b h=>by
  simp only [zl,Prod.mk.injEq,and_true] at h
  exact c6.inj _ _ h⟩
def f376 (fO:List UInt8) (aQ:List af) (bA:List aq) (cz:List (sB×Int)) (cZ:List sB) (bD:List Int) (bC:List (List au)):Option (List Int):=dec (zl aQ bA cz cZ bD bC) (Rn 174 [(.ptr 10000 0),(.pv (.str fO))] [(10000,(oB aQ bA 10001 10002 10003 10004)),(10001,(oM 9 3 V9 V3 cz)),(10002,(oS cZ)),(10003,(oI bD)),(10004,(oA bC))])
def rN (iu:List UInt8) (v11:List af) (v12 eU:Int) (o5:List Int) (aG:List af) (aI:List aq) (bp:List (sB×Int)) (dK:List sB) (cA:List Int) (cB:List (List au)):Option (List Int):=dec (zl aG aI bp dK cA cB) (hT 174 3 [10000,10001,10002,10003,10004] [(0,(.ptr 10000 0)),(3,(.cp [(.str iu)])),(5,(.row 5)),(11,(pT v11)),(12,(pI v12)),(13,(pI eU))] [(5,(oI o5)),(10000,(oB aG aI 10001 10002 10003 10004)),(10001,(oM 9 3 V9 V3 bp)),(10002,(oS dK)),(10003,(oI cA)),(10004,(oA cB))])
abbrev zk.T:Type:=Int
def zk (aQ:List Int) (bB:List af) (bz:List aq) (bD:List (sB×Int)) (bC:List sB) (b8:List Int) (b9:List (List au)):zk.T→Out:=(fun x:Int=>((Q1 x,[(10000,(.box 75 [(pN aQ)])),(10001,(.box 91 [(.ptr 10002 0)])),(10002,(oB bB bz 10003 10004 10005 10006)),(10003,(oM 9 3 V9 V3 bD)),(10004,(oS bC)),(10005,(oI b8)),(10006,(oA b9))]):Out))
instance (aQ:List Int) (bB:List af) (bz:List aq) (bD:List ((List UInt8)×Int)) (bC:List (List UInt8)) (b8:List Int) (b9:List (List au)):c6 (zk aQ bB bz bD bC b8 b9):=⟨fun a b h=>by
  simp only [zk,Prod.mk.injEq,and_true] at h
  exact c6.inj _ _ h⟩
abbrev lW.T:Type:=Int
def lW (cS:Int) (bB:List af) (bz:List aq) (bD:List (sB×Int)) (bC:List sB) (b8:List Int) (b9:List (List au)):lW.T→Out:=(fun x:Int=>((Q1 x,[(10000,(.box 91 [(.ptr 10002 0)])),(10001,(.box 3 [(pI cS)])),(10002,(oB bB bz 10003 10004 10005 10006)),(10003,(oM 9 3 V9 V3 bD)),(10004,(oS bC)),(10005,(oI b8)),(10006,(oA b9))]):Out))
instance (cS:Int) (bB:List af) (bz:List aq) (bD:List ((List UInt8)×Int)) (bC:List (List UInt8)) (b8:List Int) (b9:List (List au)):c6 (lW cS bB bz bD bC b8 b9):=⟨fun a b h=>by
  simp only [lW,Prod.mk.injEq,and_true] at h
  exact c6.inj _ _ h⟩
def QE (s0 aQ:List Int) (bB:List af) (bz:List aq) (bD:List (sB×Int)) (bC:List sB) (b8:List Int) (b9:List (List au)):Option Int:=dec (zk aQ bB bz bD bC b8 b9) (Rn 175 [(pN s0),(.cl 176 [.p 10000, .p 10001])] [(10000,(.box 75 [(pN aQ)])),(10001,(.box 91 [(.ptr 10002 0)])),(10002,(oB bB bz 10003 10004 10005 10006)),(10003,(oM 9 3 V9 V3 bD)),(10004,(oS bC)),(10005,(oI b8)),(10006,(oA b9))])
def f109 (s0:List Int) (cI:Int) (iJ:List aq):Option Int:=dec (EN Q1) (Rn 175 [(pN s0),(.pv (.fn 155 [(.ref [(.int .i64 cI)]),(.ref [(.cm 2 (List.map aq.enc iJ))])]))] [])
def QF (s0:List Int) (cS:Int) (bB:List af) (bz:List aq) (bD:List (sB×Int)) (bC:List sB) (b8:List Int) (b9:List (List au)):Option Int:=dec (lW cS bB bz bD bC b8 b9) (Rn 175 [(pN s0),(.cl 177 [.p 10000, .p 10001])] [(10000,(.box 91 [(.ptr 10002 0)])),(10001,(.box 3 [(pI cS)])),(10002,(oB bB bz 10003 10004 10005 10006)),(10003,(oM 9 3 V9 V3 bD)),(10004,(oS bC)),(10005,(oI b8)),(10006,(oA b9))])
def xq (s0:List Int) (v7 v8:Int) (aG:List Int) (eo:List af) (ep:List aq) (cA:List (sB×Int)) (cB:List sB) (fU:List Int) (fV:List (List au)):Option Int:=dec (zk aG eo ep cA cB fU fV) (hT 175 2 [10000,10001,10002,10003,10004,10005,10006] [(0,(pN s0)),(1,(.cl 176 [.p 10000, .p 10001])),(7,(pI v7)),(8,(pI v8))] [(10000,(.box 75 [(pN aG)])),(10001,(.box 91 [(.ptr 10002 0)])),(10002,(oB eo ep 10003 10004 10005 10006)),(10003,(oM 9 3 V9 V3 cA)),(10004,(oS cB)),(10005,(oI fU)),(10006,(oA fV))])
def Cl (s0:List Int) (cI:Int) (iJ:List aq) (v7 v8:Int):Option Int:=dec (EN Q1) (hT 175 2 [] [(0,(pN s0)),(1,(.pv (.fn 155 [(.ref [(.int .i64 cI)]),(.ref [(.cm 2 (List.map aq.enc iJ))])]))),(7,(pI v7)),(8,(pI v8))] [])
def xu (s0:List Int) (v7 v8 jx:Int) (eo:List af) (ep:List aq) (cA:List (sB×Int)) (cB:List sB) (fU:List Int) (fV:List (List au)):Option Int:=dec (lW jx eo ep cA cB fU fV) (hT 175 2 [10000,10001,10002,10003,10004,10005,10006] [(0,(pN s0)),(1,(.cl 177 [.p 10000, .p 10001])),(7,(pI v7)),(8,(pI v8))] [(10000,(.box 91 [(.ptr 10002 0)])),(10001,(.box 3 [(pI jx)])),(10002,(oB eo ep 10003 10004 10005 10006)),(10003,(oM 9 3 V9 V3 cA)),(10004,(oS cB)),(10005,(oI fU)),(10006,(oA fV))])
abbrev DL.T:Type:=Bool
def DL (aQ:List Int) (bB:List af) (bz:List aq) (bD:List (sB×Int)) (bC:List sB) (b8:List Int) (b9:List (List au)):DL.T→Out:=(fun x:Bool=>((Q0 x,[(10000,(.box 75 [(pN aQ)])),(10001,(.box 91 [(.ptr 10002 0)])),(10002,(oB bB bz 10003 10004 10005 10006)),(10003,(oM 9 3 V9 V3 bD)),(10004,(oS bC)),(10005,(oI b8)),(10006,(oA b9))]):Out))
instance (aQ:List Int) (bB:List af) (bz:List aq) (bD:List ((List UInt8)×Int)) (bC:List (List UInt8)) (b8:List Int) (b9:List (List au)):c6 (DL aQ bB bz bD bC b8 b9):=⟨fun a b h=>by
  simp only [DL,Prod.mk.injEq,and_true] at h
  exact c6.inj _ _ h⟩
def f382 (a0:Int) (aQ:List Int) (bB:List af) (bz:List aq) (bD:List (sB×Int)) (bC:List sB) (b8:List Int) (b9:List (List au)):Option Bool:=dec (DL aQ bB bz bD bC b8 b9) (Rn 176 [(pI a0),(.ptr 10000 0),(.ptr 10001 0)] [(10000,(.box 75 [(pN aQ)])),(10001,(.box 91 [(.ptr 10002 0)])),(10002,(oB bB bz 10003 10004 10005 10006)),(10003,(oM 9 3 V9 V3 bD)),(10004,(oS bC)),(10005,(oI b8)),(10006,(oA b9))])
def f390 (b0 cS:Int) (bB:List af) (bz:List aq) (bD:List (sB×Int)) (bC:List sB) (b8:List Int) (b9:List (List au)):Option Bool:=dec (G7 cS bB bz bD bC b8 b9) (Rn 177 [(pI b0),(.ptr 10000 0),(.ptr 10001 0)] [(10000,(.box 91 [(.ptr 10002 0)])),(10001,(.box 3 [(pI cS)])),(10002,(oB bB bz 10003 10004 10005 10006)),(10003,(oM 9 3 V9 V3 bD)),(10004,(oS bC)),(10005,(oI b8)),(10006,(oA b9))])
abbrev uv.T:Type:=List ((List UInt8)×(List Int))
def uv (aQ:List af) (bA:List aq) (cz:List (sB×Int)) (cZ:List sB) (bD:List Int) (bC:List (List au)):uv.T→Out:=(fun x:List (sB×(List Int))=>((Q25 x,[(10000,(oB aQ bA 10001 10002 10003 10004)),(10001,(oM 9 3 V9 V3 cz)),(10002,(oS cZ)),(10003,(oI bD)),(10004,(oA bC))]):Out))
instance (aQ:List af) (bA:List aq) (cz:List ((List UInt8)×Int)) (cZ:List (List UInt8)) (bD:List Int) (bC:List (List au)):c6 (uv aQ bA cz cZ bD bC):=⟨fun a b h=>by
  simp only [uv,Prod.mk.injEq,and_true] at h
  exact c6.inj _ _ h⟩
def f377 (i1:Int) (aQ:List af) (bA:List aq) (cz:List (sB×Int)) (cZ:List sB) (bD:List Int) (bC:List (List au)):Option (List (sB×(List Int))):=dec (uv aQ bA cz cZ bD bC) (Rn 178 [(.ptr 10000 0),(pI i1)] [(10000,(oB aQ bA 10001 10002 10003 10004)),(10001,(oM 9 3 V9 V3 cz)),(10002,(oS cZ)),(10003,(oI bD)),(10004,(oA bC))])
def rO (i1:Int) (jd:List af) (v17 pG:Int) (kn:List (sB×(List Int))) (aG:List af) (aI:List aq) (bp:List (sB×Int)) (dK:List sB) (cA:List Int) (cB:List (List au)):Option (List (sB×(List Int))):=dec (uv aG aI bp dK cA cB) (hT 178 4 [10000,10001,10002,10003,10004] [(1,(pI i1)),(2,(.ptr 2 0)),(5,(.ptr 5 0)),(6,(.cl 214 [.p 2, .p 5])),(16,(pT jd)),(17,(pI v17)),(18,(pI pG))] [(2,(.box 91 [(.ptr 10000 0)])),(5,(.box 179 [(.row 11)])),(11,(oM 9 74 V9 qc kn)),(10000,(oB aG aI 10001 10002 10003 10004)),(10001,(oM 9 3 V9 V3 bp)),(10002,(oS dK)),(10003,(oI cA)),(10004,(oA cB))])
def vA (i1:Int) (jd:List af) (v17 pG:Int) (v36:List aj) (v37 v38:Int) (o8:af) (kn:List (sB×(List Int))) (aG:List af) (aI:List aq) (bp:List (sB×Int)) (dK:List sB) (cA:List Int) (cB:List (List au)):Option (List (sB×(List Int))):=dec (uv aG aI bp dK cA cB) (hT 178 8 [10000,10001,10002,10003,10004] [(1,(pI i1)),(2,(.ptr 2 0)),(5,(.ptr 5 0)),(6,(.cl 214 [.p 2, .p 5])),(16,(pT jd)),(17,(pI v17)),(18,(pI pG)),(36,(pF v36)),(37,(pI v37)),(38,(pI v38))] [(2,(.box 91 [(.ptr 10000 0)])),(5,(.box 179 [(.row 11)])),(8,(.box 52 (List.map .pv (af.enc o8)))),(11,(oM 9 74 V9 qc kn)),(10000,(oB aG aI 10001 10002 10003 10004)),(10001,(oM 9 3 V9 V3 bp)),(10002,(oS dK)),(10003,(oI cA)),(10004,(oA cB))])
def f140 (s0:List UInt8) (sq:Bool):Option Bool:=dec (EN Q0) (Rn 179 [(.pv (.str s0)),(.pv (.bool sq))] [])
def Cq (s0:List UInt8) (sq:Bool) (i5:Int):Option Bool:=dec (EN Q0) (hT 179 4 [] [(0,(.pv (.str s0))),(1,(.pv (.bool sq))),(5,(pI i5))] [])
def f137 (d0:List af) (l1:List sB):Option (List sB):=dec (EN Q14) (Rn 180 [(pT d0),(pS l1)] [])
def Co (d0:List af) (l1 Pb:List sB) (i6:Int):Option (List sB):=dec (EN Q14) (hT 180 3 [] [(0,(pT d0)),(1,(pS l1)),(5,(pS Pb)),(6,(pI i6))] [])
def f138 (d0:List af) (bE:List UInt8):Option (List sB):=dec (EN Q14) (Rn 181 [(pT d0),(.pv (.str bE))] [])
def Cp (d0:List af) (i6:Int) (jK:List sB):Option (List sB):=dec (EN Q14) (hT 181 5 [] [(0,(pT d0)),(5,(.row 16)),(6,(pI i6))] [(16,(oS jK))])
def yV (d0:List af) (i6:Int) (l7:List sB) (k8:Int) (jK:List sB):Option (List sB):=dec (EN Q14) (hT 181 9 [] [(0,(pT d0)),(5,(.row 16)),(6,(pI i6)),(7,(pS l7)),(8,(pI k8))] [(16,(oS jK))])
def uc (c5:List sB) (i10:Int) (jK:List sB):Option (List sB):=dec (EN Q14) (hT 181 15 [] [(5,(.row 16)),(9,(pS c5)),(10,(pI i10))] [(16,(oS jK))])
def f113 (s0:List af):Option Bool:=dec (EN Q0) (Rn 182 [(pT s0),(.pv (.fn 183 []))] [])
def f114 (x0:af):Option Bool:=dec (EN Q0) (Rn 183 [(.pv (.agg (af.enc x0)))] [])
def f115 (s0:List UInt8):Option Bool:=dec (EN Q0) (Rn 184 [(.pv (.str s0))] [])
def f116 (x0:List sB):Option sB:=dec (EN Q22) (Rn 185 [(pS x0)] [])
def GD (x0:List sB) (m3:List UInt8) (i4:Int):Option sB:=dec (EN Q22) (hT 185 5 [] [(0,(pS x0)),(3,(.pv (.str m3))),(4,(pI i4))] [])
abbrev lX.T:Type:=Nat×(List (List UInt8))
def lX:lX.T→Out:=(fun x:Nat×(List sB)=>((Q26 x.1,[(10000, .row 9 1 (List.map aA x.2))]):Out))
instance:c6 lX:=⟨fun a b h=>by
  obtain ⟨a0,a1⟩:=a
  obtain ⟨b0,b1⟩:=b
  simp only [lX,Prod.mk.injEq,List.cons.injEq,Ob.row.injEq,Ob.mp.injEq,and_true,true_and] at h
  obtain ⟨h0,h1⟩:=h
  rw [c6.inj _ _ h0,map_inj c6.inj _ _ h1]⟩
def f117 (kB:List UInt8) (cD:List sB):Option (Nat×(List sB)):=dec lX (Rn 186 [(.row 10000),(.pv (.fn 187 [(.ref [(.str kB)])]))] [(10000,(oS cD))])
def yU (kB:List UInt8) (i5 j6:Int) (bW:List sB):Option (Nat×(List sB)):=dec lX (hT 186 5 [10000] [(0,(.row 10000)),(1,(.pv (.fn 187 [(.ref [(.str kB)])]))),(5,(pI i5)),(6,(pI j6))] [(10000,(oS bW))])
def f118 (s0 a1:List UInt8):Option Bool:=dec (EN Q0) (Rn 187 [(.pv (.str s0)),(.pv (.ref [(.str a1)]))] [])
def f120 (x0 y1:List UInt8):Option Bool:=dec (EN Q0) (Rn 189 [(.pv (.str x0)),(.pv (.str y1))] [])
def f121 (x0:List UInt8):Option Bool:=dec (EN Q0) (Rn 190 [(.pv (.str x0))] [])
def f124 (cD:List sB):Option (Nat×(List sB)):=dec lX (Rn 193 [(.row 10000)] [(10000,(oS cD))])
def GF (k3:Int) (bW:List sB):Option (Nat×(List sB)):=dec lX (hT 193 4 [10000] [(0,(.row 10000)),(3,(pI k3))] [(10000,(oS bW))])
def TF (k3:Int) (s24_0 s24_1:Nat) (k25:Int) (bW:List sB):Option (Nat×(List sB)):=dec lX (hT 193 9 [10000] [(0,(.row 10000)),(3,(pI k3)),(4,(.sub 10000 1 s24_0 s24_1)),(5,(pI k25))] [(10000,(oS bW))])
def f125 (s0:List sB) (v1:List UInt8):Option Int:=dec (EN Q1) (Rn 194 [(pS s0),(.pv (.str v1))] [])
def Cm (s0:List sB) (v1:List UInt8) (v7 v8:Int):Option Int:=dec (EN Q1) (hT 194 2 [] [(0,(pS s0)),(1,(.pv (.str v1))),(7,(pI v7)),(8,(pI v8))] [])
def f126 (s0:List sB) (cI:List UInt8) (iJ:List sB):Option Int:=dec (EN Q1) (Rn 195 [(pS s0),(.pv (.fn 148 [(.ref [(.str cI)]),(.ref [(.cm 1 (List.map aA iJ))])]))] [])
def QG (s0:List sB) (cI:List UInt8):Option Int:=dec (EN Q1) (Rn 195 [(pS s0),(.pv (.fn 187 [(.ref [(.str cI)])]))] [])
def Cn (s0:List sB) (cI:List UInt8) (iJ:List sB) (v7 v8:Int):Option Int:=dec (EN Q1) (hT 195 2 [] [(0,(pS s0)),(1,(.pv (.fn 148 [(.ref [(.str cI)]),(.ref [(.cm 1 (List.map aA iJ))])]))),(7,(pI v7)),(8,(pI v8))] [])
def xw (s0:List sB) (cI:List UInt8) (v7 v8:Int):Option Int:=dec (EN Q1) (hT 195 2 [] [(0,(pS s0)),(1,(.pv (.fn 187 [(.ref [(.str cI)])]))),(7,(pI v7)),(8,(pI v8))] [])
def f110 (s0:List UInt8):Option Bool:=dec (EN Q0) (Rn 206 [(.pv (.str s0))] [])
def f111 (d0:List af) (bE:List UInt8):Option Int:=dec (EN Q1) (Rn 207 [(pT d0),(.pv (.str bE))] [])
def GB (d0:List af) (bE:List UInt8) (i5:Int):Option Int:=dec (EN Q1) (hT 207 2 [] [(0,(pT d0)),(1,(.pv (.str bE))),(5,(pI i5))] [])
def f112 (x0:af) (uB:List sB):Option Bool:=dec (EN Q0) (Rn 208 [(.pv (.agg (af.enc x0))),(pS uB)] [])
def GC (uB:List sB) (i5:Int) (o2:af):Option Bool:=dec (EN Q0) (hT 208 2 [] [(1,(pS uB)),(2,(.ptr 2 0)),(5,(pI i5))] [(2,(.box 52 (List.map .pv (af.enc o2))))])
def f139 (b0:List Int):Option (List Int):=dec (EN Q9) (Rn 209 [(pU b0)] [])
def yW (b0:List Int) (i4:Int) (o3:List Int):Option (List Int):=dec (EN Q9) (hT 209 3 [] [(0,(pU b0)),(3,(.row 3)),(4,(pI i4))] [(3,(oI o3))])
def f142 (s0:List UInt8):Option Bool:=dec (EN Q0) (Rn 210 [(.pv (.str s0)),(.pv (.fn 219 []))] [])
def QH (s0:List UInt8):Option Bool:=dec (EN Q0) (Rn 210 [(.pv (.str s0)),(.pv (.fn 211 []))] [])
def yX (gx:List UInt8) (fQ:Nat):Option Bool:=dec (EN Q0) (hT 210 4 [] [(1,(.pv (.fn 219 []))),(16,(.ptr 16 0))] [(16,(.it gx fQ))])
def ud (gx:List UInt8) (fQ:Nat):Option Bool:=dec (EN Q0) (hT 210 4 [] [(1,(.pv (.fn 211 []))),(16,(.ptr 16 0))] [(16,(.it gx fQ))])
def f387 (c0:Int):Option Bool:=dec (EN Q0) (Rn 211 [(.pv (.int .i32 c0))] [])
abbrev zm.T:Type:=Int
def zm (cD:aj):zm.T→Out:=(fun x:Int=>((Q1 x,[(10000,(.box 54 (List.map .pv (aj.enc cD))))]):Out))
instance (cD:aj):c6 (zm cD):=⟨fun a b h=>by
  simp only [zm,Prod.mk.injEq,and_true] at h
  exact c6.inj _ _ h⟩
def f384 (s0:List aj) (cD:aj):Option Int:=dec (zm cD) (Rn 212 [(pF s0),(.cl 173 [.p 10000])] [(10000,(.box 54 (List.map .pv (aj.enc cD))))])
def QK (s0:List aj) (cI:List UInt8):Option Int:=dec (EN Q1) (Rn 212 [(pF s0),(.pv (.fn 213 [(.ref [(.str cI)])]))] [])
def CL (s0:List aj) (v7 v8:Int) (bW:aj):Option Int:=dec (zm bW) (hT 212 2 [10000] [(0,(pF s0)),(1,(.cl 173 [.p 10000])),(7,(pI v7)),(8,(pI v8))] [(10000,(.box 54 (List.map .pv (aj.enc bW))))])
def xE (s0:List aj) (cI:List UInt8) (v7 v8:Int):Option Int:=dec (EN Q1) (hT 212 2 [] [(0,(pF s0)),(1,(.pv (.fn 213 [(.ref [(.str cI)])]))),(7,(pI v7)),(8,(pI v8))] [])
def f389 (f0:aj) (a1:List UInt8):Option Bool:=dec (EN Q0) (Rn 213 [(.pv (.agg (aj.enc f0))),(.pv (.ref [(.str a1)]))] [])
abbrev DN.T:Type:=Unit×(List ((List UInt8)×(List Int)))
def DN (bB:List af) (bz:List aq) (bC:List (sB×Int)) (b8:List sB) (b9:List Int) (lG:List (List au)):DN.T→Out:=(fun x:Unit×(List (sB×(List Int)))=>((Q20 x.1,[(10000,(.box 91 [(.ptr 10002 0)])),(10001,(.box 179 [(.row 10003)])),(10002,(oB bB bz 10004 10005 10006 10007)),(10003, .mp 9 74 (aO V9 qc x.2).1 (aO V9 qc x.2).2),(10004,(oM 9 3 V9 V3 bC)),(10005,(oS b8)),(10006,(oI b9)),(10007,(oA lG))]):Out))
instance (bB:List af) (bz:List aq) (bC:List ((List UInt8)×Int)) (b8:List (List UInt8)) (b9:List Int) (lG:List (List au)):c6 (DN bB bz bC b8 b9 lG):=⟨fun a b h=>by
  obtain ⟨a0,a1⟩:=a
  obtain ⟨b0,b1⟩:=b
  simp only [DN,Prod.mk.injEq,List.cons.injEq,Ob.row.injEq,Ob.mp.injEq,and_true,true_and] at h
  have h0:a0=b0:=rfl
  have h1:=h
  rw [h0,iH (K:=V9) (V:=qc) h1.1 h1.2]⟩
def f385 (f0:aj) (bB:List af) (bz:List aq) (bD:List (sB×(List Int))) (bC:List (sB×Int)) (b8:List sB) (b9:List Int) (lG:List (List au)):Option (Unit×(List (sB×(List Int)))):=dec (DN bB bz bC b8 b9 lG) (Rn 214 [(.pv (.agg (aj.enc f0))),(.ptr 10000 0),(.ptr 10001 0)] [(10000,(.box 91 [(.ptr 10002 0)])),(10001,(.box 179 [(.row 10003)])),(10002,(oB bB bz 10004 10005 10006 10007)),(10003,(oM 9 74 V9 qc bD)),(10004,(oM 9 3 V9 V3 bC)),(10005,(oS b8)),(10006,(oI b9)),(10007,(oA lG))])
abbrev DM.T:Type:=List Int
def DM (aQ:List af) (bA:List aq) (cz:List (sB×Int)) (cZ:List sB) (bD:List Int) (bC:List (List au)):DM.T→Out:=(fun x:List Int=>((Q11 x,[(10000,(oB aQ bA 10001 10002 10003 10004)),(10001,(oM 9 3 V9 V3 cz)),(10002,(oS cZ)),(10003,(oI bD)),(10004,(oA bC))]):Out))
instance (aQ:List af) (bA:List aq) (cz:List ((List UInt8)×Int)) (cZ:List (List UInt8)) (bD:List Int) (bC:List (List au)):c6 (DM aQ bA cz cZ bD bC):=⟨fun a b h=>by
  simp only [DM,Prod.mk.injEq,and_true] at h
  exact c6.inj _ _ h⟩
def f383 (bE:List UInt8) (aQ:List af) (bA:List aq) (cz:List (sB×Int)) (cZ:List sB) (bD:List Int) (bC:List (List au)):Option (List Int):=dec (DM aQ bA cz cZ bD bC) (Rn 215 [(.ptr 10000 0),(.pv (.str bE))] [(10000,(oB aQ bA 10001 10002 10003 10004)),(10001,(oM 9 3 V9 V3 cz)),(10002,(oS cZ)),(10003,(oI bD)),(10004,(oA bC))])
def f159 (c0:Int):Option Bool:=dec (EN Q0) (Rn 216 [(.pv (.int .u8 c0))] [])
def f160 (c0:Int) (sq:Bool):Option Bool:=dec (EN Q0) (Rn 217 [(.pv (.int .u8 c0)),(.pv (.bool sq))] [])
def f141 (s0:List af):Option Int:=dec (EN Q1) (Rn 218 [(pT s0),(.pv (.fn 183 []))] [])
def Cr (s0:List af) (v7 v8:Int):Option Int:=dec (EN Q1) (hT 218 2 [] [(0,(pT s0)),(1,(.pv (.fn 183 []))),(7,(pI v7)),(8,(pI v8))] [])
def f143 (c0:Int):Option Bool:=dec (EN Q0) (Rn 219 [(.pv (.int .i32 c0))] [])
def f161 (c0:Int):Option Bool:=dec (EN Q0) (Rn 235 [(.pv (.int .i32 c0))] [])
def f166 (c0:Int):Option Bool:=dec (EN Q0) (Rn 236 [(.pv (.int .u8 c0))] [])
def f167 (c0:Int):Option Bool:=dec (EN Q0) (Rn 237 [(.pv (.int .u8 c0))] [])
end
end Go.Proofs.YtmidjldjkbljjaaGreatDoor.cl
