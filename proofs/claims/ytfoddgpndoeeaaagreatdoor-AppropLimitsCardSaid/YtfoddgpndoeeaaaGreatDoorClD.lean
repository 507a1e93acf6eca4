/- The functions and loops as plain ones, by program (decomp4.p. -/
import Derived.Test.YtfoddgpndoeeaaaGreatDoorClT
set_option linter.unusedVariables false
set_option linter.unusedSimpArgs false
set_option maxRecDepth 100000
namespace Go.Proofs.YtfoddgpndoeeaaaGreatDoor.cl
noncomputable section
open Go Go.AM
def f392 (iq:Bool):Option Bool:=dec (EN Q1) (Rn 4 [(.pv (.bool iq))] [])
def qe (iq:Bool) (i4:Int) (oE:List af) (BV:List (Option (List ah))):Option Bool:=dec (EN Q1) (hT 4 3 [] [(0,(.pv (.bool iq))),(3,(.row 12)),(4,(pI i4))] [(12,(.rn 25 3 2 37 2 (List.map (uC af.enc 2) oE) (oQ ah.enc BV)))])
def f14 (d0:List af):Option ((List aB)×Int):=dec (EN Q7) (Rn 6 [(pT d0)] [])
def qb (d0:List af) (fL:List sB) (fW lC:List (List Int)) (v35 v36:Int) (o9:List aB):Option ((List aB)×Int):=dec (EN Q7) (hT 6 10 [] [(0,(pT d0)),(5,(pS fL)),(6,(.pv (.cE 1 (List.map (ct 1 (aJ .u64)) fW)))),(9,(.row 9)),(34,(.pv (.cE 1 (List.map (ct 1 (aJ .u64)) lC)))),(35,(pI v35)),(36,(pI v36))] [(9,(.row 51 2 (List.map aB.enc o9)))])
def wF (d0:List af) (fL:List sB) (fW lC:List (List Int)) (v35 v36:Int) (v53:List Int) (v54 v55:Int) (o9:List aB) (oE:aB) (tH:List sB):Option ((List aB)×Int):=dec (EN Q7) (hT 6 18 [] [(0,(pT d0)),(5,(pS fL)),(6,(.pv (.cE 1 (List.map (ct 1 (aJ .u64)) fW)))),(9,(.row 9)),(12,(.ptr 12 0)),(14,(.row 14)),(34,(.pv (.cE 1 (List.map (ct 1 (aJ .u64)) lC)))),(35,(pI v35)),(36,(pI v36)),(53,(pN v53)),(54,(pI v54)),(55,(pI v55))] [(9,(.row 51 2 (List.map aB.enc o9))),(12,(.box 51 (List.map .pv (aB.enc oE)))),(14,(oS tH))])
def f391 (BP wB:List UInt8) (js:List sB):Option af:=dec (EN Q5) (Rn 8 [(.pv (.str BP)),(.pv (.str wB)),(pS js)] [])
def Na (BP wB:List UInt8):Option (sB×(List sB)):=dec (EN Q0) (Rn 8 [(.pv (.str BP)),(.pv (.str wB)),(.pv .jL)] [])
def Ax (js:List sB) (i8:Int) (o6:af) (Jf:List UInt8) (Jg BY:List sB) (BZ:List ah) (B0:List sB) (qX:List ah):Option af:=dec (EN Q5) (hT 8 3 [] [(2,(pS js)),(6,(.ptr 6 0)),(7,(.ptr 7 0)),(8,(pI i8))] [(6,(.box 25 (List.map .pv (af.enc o6)))),(7,(.box 25 [(.pv (.str Jf)),(pS Jg),(.row 5194)])),(5113,(oS BY)),(5114,(.row 37 2 (List.map ah.enc BZ))),(5193,(oS B0)),(5194,(.row 37 2 (List.map ah.enc qX)))])
def f319 (d0:List af):Option ((List bC)×Int):=dec (EN Q2) (Rn 9 [(pT d0)] [])
def wG (t4:Option table) (v20:List sB) (v21 v22:Int) (o6:List bC):Option ((List bC)×Int):=dec (EN Q2) (hT 9 6 [] [(4,(.pv (x5 table.enc t4))),(6,(.row 6)),(20,(pS v20)),(21,(pI v21)),(22,(pI v22))] [(6,(.row 80 2 (List.map bC.enc o6)))])
def f317 (d0:List af):Option Int:=dec (EN Q3) (Rn 10 [(pT d0)] [])
def f316 :Option Bool:=dec (EN Q1) (Rn 11 [] [])
def f39 (d0:List af):Option Int:=dec (EN Q3) (Rn 12 [(pT d0)] [])
def wJ (d0:List af) (Cs:Int) (v20:List af) (v21 v22:Int):Option Int:=dec (EN Q3) (hT 12 11 [] [(0,(pT d0)),(5,(pI Cs)),(20,(pT v20)),(21,(pI v21)),(22,(pI v22))] [])
def f40 (d0:List af):Option ((List sB)×(List (List Int))):=dec (EN Q8) (Rn 13 [(pT d0)] [])
def Ck (d0 gx:List af) (jC v17:Int) (o4:List sB):Option ((List sB)×(List (List Int))):=dec (EN Q8) (hT 13 3 [] [(0,(pT d0)),(4,(.row 4)),(15,(pT gx)),(16,(pI jC)),(17,(pI v17))] [(4,(oS o4))])
def tS (d0:List af) (v33 lC:Int) (o4:List sB) (BX:List (List Int)):Option ((List sB)×(List (List Int))):=dec (EN Q8) (hT 13 10 [] [(0,(pT d0)),(4,(.row 4)),(7,(.row 31)),(32,(.row 4)),(33,(pI v33)),(34,(pI lC))] [(4,(oS o4)),(31,(.row 49 1 (List.map (ct 1 (aJ .u64)) BX)))])
def wK (d0:List af) (i8 v33 lC:Int) (v41:List sB) (v42 AD:Int) (o4:List sB) (iU:List Int) (BX:List (List Int)):Option ((List sB)×(List (List Int))):=dec (EN Q8) (hT 13 14 [] [(0,(pT d0)),(4,(.row 4)),(7,(.row 31)),(8,(pI i8)),(10,(.row 10)),(32,(.row 4)),(33,(pI v33)),(34,(pI lC)),(41,(pS v41)),(42,(pI v42)),(43,(pI AD))] [(4,(oS o4)),(10,(oI iU)),(31,(.row 49 1 (List.map (ct 1 (aJ .u64)) BX)))])
def f41 (oP:List (List Int)):Option ((List (List Int))×Bool):=dec (EN Q9) (Rn 14 [(.pv (.cE 1 (List.map (ct 1 (aJ .u64)) oP)))] [])
def GA (kn:List (List Int)) (qx gx:Int) (sq:List (sB×Bool)) (fQ:List (List Int)):Option ((List (List Int))×Bool):=dec (EN Q9) (hT 14 5 [] [(5,(.ptr 5 0)),(6,(.cl 47 [.p 4, .p 5])),(13,(.pv (.cE 1 (List.map (ct 1 (aJ .u64)) kn)))),(14,(pI qx)),(15,(pI gx))] [(4,(.box 97 [(.row 11)])),(5,(.box 43 [(.row 5080)])),(11,(oM 9 4 V9 V4 sq)),(5080,(.row 49 1 (List.map (ct 1 (aJ .u64)) fQ)))])
def wL (i9:Int) (sq:List (sB×Bool)) (fQ:List (List Int)):Option ((List (List Int))×Bool):=dec (EN Q9) (hT 14 10 [] [(5,(.ptr 5 0)),(6,(.cl 47 [.p 4, .p 5])),(9,(pI i9))] [(4,(.box 97 [(.row 11)])),(5,(.box 43 [(.row 5080)])),(11,(oM 9 4 V9 V4 sq)),(5080,(.row 49 1 (List.map (ct 1 (aJ .u64)) fQ)))])
def Ek (i9 k10:Int) (sq:List (sB×Bool)) (fQ:List (List Int)):Option ((List (List Int))×Bool):=dec (EN Q9) (hT 14 13 [] [(5,(.ptr 5 0)),(6,(.cl 47 [.p 4, .p 5])),(9,(pI i9)),(10,(pI k10))] [(4,(.box 97 [(.row 11)])),(5,(.box 43 [(.row 5080)])),(11,(oM 9 4 V9 V4 sq)),(5080,(.row 49 1 (List.map (ct 1 (aJ .u64)) fQ)))])
def f42 (l0:List (List Int)) (gJ:List Int):Option Int:=dec (EN Q3) (Rn 15 [(.pv (.cE 1 (List.map (ct 1 (aJ .u64)) l0))),(.pv (.fn 16 [(.ref [(.cE 1 (List.map (aJ .u64) gJ))])]))] [])
def GB (gJ:List Int) (v7:List (List Int)) (v8 v9:Int):Option Int:=dec (EN Q3) (hT 15 2 [] [(1,(.pv (.fn 16 [(.ref [(.cE 1 (List.map (aJ .u64) gJ))])]))),(7,(.pv (.cE 1 (List.map (ct 1 (aJ .u64)) v7)))),(8,(pI v8)),(9,(pI v9))] [])
def f43 (c0 a1:List Int):Option Bool:=dec (EN Q1) (Rn 16 [(pU c0),(.pv (.ref [(.cE 1 (List.map (aJ .u64) a1))]))] [])
def f31 (a0 b1:List Int):Option Bool:=dec (EN Q1) (Rn 17 [(pU a0),(pU b1)] [])
def f44 (b0:List Int):Option (List Int):=dec (EN Q10) (Rn 18 [(pU b0)] [])
def GC (v6:List Int) (v7 v8:Int) (o3:List Int):Option (List Int):=dec (EN Q10) (hT 18 3 [] [(3,(.row 3)),(6,(pU v6)),(7,(pI v7)),(8,(pI v8))] [(3,(oI o3))])
def GD (i4 w5:Int) (v6:List Int) (v7 v8:Int) (o3:List Int):Option (List Int):=dec (EN Q10) (hT 18 5 [] [(3,(.row 3)),(4,(pI i4)),(5,(.pv (.int .u64 w5))),(6,(pU v6)),(7,(pI v7)),(8,(pI v8))] [(3,(oI o3))])
def f45 (Sw:List sB) (sep1:List UInt8):Option sB:=dec (EN Q14) (Rn 19 [(pS Sw),(.pv (.str sep1))] [])
def f46 (d0:List af) (Dq:List sB):Option (List sB):=dec (EN Q13) (Rn 20 [(pT d0),(pS Dq)] [])
def Ay (l5:List sB) (Px:List (sB×(List sB))) (v17:List sB) (kK jM:Int) (o7:List sB):Option (List sB):=dec (EN Q13) (hT 20 5 [] [(5,(pS l5)),(6,(.pv (.mp (az V9 jm Px).1 (az V9 jm Px).2))),(7,(.row 7)),(17,(pS v17)),(18,(pI kK)),(19,(pI jM))] [(7,(oS o7))])
abbrev G6.T:Type:=Unit×(List aB)
def G6:G6.T→Out:=(fun x:Unit×(List aB)=>((Q11 x.1,[(10000, .row 51 2 (List.map aB.enc x.2))]):Out))
instance:c4 G6:=⟨fun a b h=>by
  obtain ⟨a0,a1⟩:=a
  obtain ⟨b0,b1⟩:=b
  simp only [G6,Prod.mk.injEq,List.cons.injEq,Ob.row.injEq,Ob.mp.injEq,and_true,true_and] at h
  have h0:a0=b0:=rfl
  have h1:=h
  rw [h0,map_inj c4.inj _ _ h1]⟩
def f47 (cv:List aB):Option (Unit×(List aB)):=dec G6 (Rn 21 [(.row 10000),(.pv (.fn 22 []))] [(10000,(.row 51 2 (List.map aB.enc cv)))])
def f24 (l0:List aB) (i1 j2:Int):Option Bool:=dec (EN Q1) (Rn 30 [(pC l0),(pI i1),(pI j2)] [])
def f18 (l0:List aB) (JT:List Int):Option Int:=dec (EN Q3) (Rn 33 [(pC l0),(pU JT)] [])
def f344 (d0:List af):Option ((Option table)×Int):=dec (EN Q4) (Rn 34 [(pT d0)] [])
def tO (yT:List aB) (v24:List af) (v25 v26:Int) (V1:List (sB×Int)) (jc:List af) (jd:List aB) (Kt:List af) (Ku:List aB) (F6:List sB) (F7:List Int) (F8:List (List ai)):Option ((Option table)×Int):=dec (EN Q4) (hT 34 6 [] [(4,(pC yT)),(6,(.ptr 23 0)),(24,(pT v24)),(25,(pI v25)),(26,(pI v26))] [(21,(oM 9 3 V9 V3 V1)),(23,(oB jc jd 21 5355 5356 5357)),(5352,(.row 25 3 (List.map af.enc Kt))),(5353,(.row 51 2 (List.map aB.enc Ku))),(5355,(oS F6)),(5356,(oI F7)),(5357,(oA F8))])
def f322 (d0:List af):Option ((List (List ai))×Int):=dec (EN Q6) (Rn 35 [(pT d0)] [])
def f321 (a0 b1:List bC):Option Bool:=dec (EN Q1) (Rn 36 [(.pv (.cE 2 (List.map bC.enc a0))),(.pv (.cE 2 (List.map bC.enc b1)))] [])
def Eg (a0 b1:List bC) (i5:Int):Option Bool:=dec (EN Q1) (hT 36 4 [] [(0,(.pv (.cE 2 (List.map bC.enc a0)))),(1,(.pv (.cE 2 (List.map bC.enc b1)))),(5,(pI i5))] [])
def f324 (a0 b1:List (List ai)):Option Bool:=dec (EN Q1) (Rn 37 [(.pv (.cE 1 (List.map (ct 2 ai.enc) a0))),(.pv (.cE 1 (List.map (ct 2 ai.enc) b1)))] [])
def Eh (a0 b1:List (List ai)) (i5:Int):Option Bool:=dec (EN Q1) (hT 37 4 [] [(0,(.pv (.cE 1 (List.map (ct 2 ai.enc) a0)))),(1,(.pv (.cE 1 (List.map (ct 2 ai.enc) b1)))),(5,(pI i5))] [])
def f347 (v0:List (List ai)):Option Bool:=dec (EN Q1) (Rn 38 [(.pv (.cE 1 (List.map (ct 2 ai.enc) v0)))] [])
def Ar (v0:List (List ai)) (v9 v10:Int) (o7:List (Int×Bool)):Option Bool:=dec (EN Q1) (hT 38 3 [] [(0,(.pv (.cE 1 (List.map (ct 2 ai.enc) v0)))),(3,(.ptr 3 0)),(9,(pI v9)),(10,(pI v10))] [(3,(.box 126 [(.row 7)])),(7,(oM 3 4 V3 V4 o7))])
def wH (v0:List (List ai)) (fV:Bool) (o7:List (Int×Bool)):Option Bool:=dec (EN Q1) (hT 38 8 [] [(0,(.pv (.cE 1 (List.map (ct 2 ai.enc) v0)))),(3,(.ptr 3 0)),(5,(.pv (.bool fV)))] [(3,(.box 126 [(.row 7)])),(7,(oM 3 4 V3 V4 o7))])
def mZ (v0:List (List ai)) (fV:Bool) (kK jM:Int) (o7:List (Int×Bool)):Option Bool:=dec (EN Q1) (hT 38 11 [] [(0,(.pv (.cE 1 (List.map (ct 2 ai.enc) v0)))),(3,(.ptr 3 0)),(5,(.pv (.bool fV))),(18,(pI kK)),(19,(pI jM))] [(3,(.box 126 [(.row 7)])),(7,(oM 3 4 V3 V4 o7))])
def f76 (d0:List af):Option Bool:=dec (EN Q1) (Rn 39 [(pT d0)] [])
def f77 (d0:List af):Option Int:=dec (EN Q3) (Rn 40 [(pT d0)] [])
def Cl (v9:List af) (v10 v11:Int) (o8:List (sB×Bool)):Option Int:=dec (EN Q3) (hT 40 3 [] [(3,(.row 8)),(9,(pT v9)),(10,(pI v10)),(11,(pI v11))] [(8,(oM 9 4 V9 V4 o8))])
def f78 (d0:List af):Option Int:=dec (EN Q3) (Rn 41 [(pT d0)] [])
def Cm (eu:List (sB×(List sB))) (v12:List af) (kn qx:Int):Option Int:=dec (EN Q3) (hT 41 3 [] [(3,(.pv (.mp (az V9 jm eu).1 (az V9 jm eu).2))),(12,(pT v12)),(13,(pI kn)),(14,(pI qx))] [])
def GK (eu:List (sB×(List sB))) (v12:List af) (kn qx:Int) (jM:List sB) (v20 v21:Int) (o5:af):Option Int:=dec (EN Q3) (hT 41 6 [] [(3,(.pv (.mp (az V9 jm eu).1 (az V9 jm eu).2))),(5,(.ptr 5 0)),(12,(pT v12)),(13,(pI kn)),(14,(pI qx)),(19,(pS jM)),(20,(pI v20)),(21,(pI v21))] [(5,(.box 25 (List.map .pv (af.enc o5))))])
def f79 (d0:List af):Option (List sB):=dec (EN Q13) (Rn 42 [(pT d0)] [])
def Cn (kK:List af) (jM v20:Int) (o5:List sB) (uL:List (sB×Int)) (BW:List (sB×Option (List sB))):Option (List sB):=dec (EN Q13) (hT 42 5 [] [(3,(.row 16)),(4,(.row 17)),(5,(.row 5)),(18,(pT kK)),(19,(pI jM)),(20,(pI v20))] [(5,(oS o5)),(16,(oM 9 3 V9 V3 uL)),(17,(.mr 9 9 1 (cR V9 C9 BW).1 (cR V9 C9 BW).2))])
def rH (kK:List af) (jM v20:Int) (v40:List sB) (v41 v42:Int) (o5:List sB) (o7:af) (uL:List (sB×Int)) (BW:List (sB×Option (List sB))):Option (List sB):=dec (EN Q13) (hT 42 11 [] [(3,(.row 16)),(4,(.row 17)),(5,(.row 5)),(7,(.ptr 7 0)),(18,(pT kK)),(19,(pI jM)),(20,(pI v20)),(40,(pS v40)),(41,(pI v41)),(42,(pI v42))] [(5,(oS o5)),(7,(.box 25 (List.map .pv (af.enc o7)))),(16,(oM 9 3 V9 V3 uL)),(17,(.mr 9 9 1 (cR V9 C9 BW).1 (cR V9 C9 BW).2))])
def qf (c8:List (sB×(List sB))) (o5 iU:List sB) (uL:List (sB×Int)):Option (List sB):=dec (EN Q13) (hT 42 17 [] [(3,(.row 16)),(4,(.pv (.mp (az V9 jm c8).1 (az V9 jm c8).2))),(5,(.row 5)),(10,(.row 10))] [(5,(oS o5)),(10,(oS iU)),(16,(oM 9 3 V9 V3 uL))])
def gD (c8:List (sB×(List sB))) (Cu:List sB) (v72 v73:Int) (o5 iU:List sB) (uL:List (sB×Int)):Option (List sB):=dec (EN Q13) (hT 42 22 [] [(3,(.row 16)),(4,(.pv (.mp (az V9 jm c8).1 (az V9 jm c8).2))),(5,(.row 5)),(10,(.row 10)),(71,(pS Cu)),(72,(pI v72)),(73,(pI v73))] [(5,(oS o5)),(10,(oS iU)),(16,(oM 9 3 V9 V3 uL))])
abbrev KI.T:Type:=Unit×(List (List UInt8))
def KI:KI.T→Out:=(fun x:Unit×(List sB)=>((Q11 x.1,[(10000, .row 9 1 (List.map aI x.2))]):Out))
instance:c4 KI:=⟨fun a b h=>by
  obtain ⟨a0,a1⟩:=a
  obtain ⟨b0,b1⟩:=b
  simp only [KI,Prod.mk.injEq,List.cons.injEq,Ob.row.injEq,Ob.mp.injEq,and_true,true_and] at h
  have h0:a0=b0:=rfl
  have h1:=h
  rw [h0,map_inj c4.inj _ _ h1]⟩
def f80 (cv:List sB):Option (Unit×(List sB)):=dec KI (Rn 43 [(.row 10000)] [(10000,(oS cv))])
def f81 (d0:List af) (eR:List UInt8):Option (List sB):=dec (EN Q13) (Rn 44 [(pT d0),(.pv (.str eR))] [])
def Co (eR:List UInt8) (gx:List af) (jC v17:Int) (tH:List (sB×Option (List sB))):Option (List sB):=dec (EN Q13) (hT 44 3 [] [(1,(.pv (.str eR))),(5,(.row 14)),(15,(pT gx)),(16,(pI jC)),(17,(pI v17))] [(14,(.mr 9 9 1 (cR V9 C9 tH).1 (cR V9 C9 tH).2))])
def vo (eR:List UInt8) (gx:List af) (jC v17:Int) (lC:List sB) (v35 v36:Int) (o7:af) (tH:List (sB×Option (List sB))):Option (List sB):=dec (EN Q13) (hT 44 9 [] [(1,(.pv (.str eR))),(5,(.row 14)),(7,(.ptr 7 0)),(15,(pT gx)),(16,(pI jC)),(17,(pI v17)),(34,(pS lC)),(35,(pI v35)),(36,(pI v36))] [(7,(.box 25 (List.map .pv (af.enc o7)))),(14,(.mr 9 9 1 (cR V9 C9 tH).1 (cR V9 C9 tH).2))])
def f82 (x0:List sB) (gE:List UInt8):Option (Int×Bool):=dec (EN Q16) (Rn 45 [(pS x0),(.pv (.str gE))] [])
def Cp (x0:List sB) (gE:List UInt8) (n6 i7 j8:Int):Option (Int×Bool):=dec (EN Q16) (hT 45 3 [] [(0,(pS x0)),(1,(.pv (.str gE))),(6,(pI n6)),(7,(pI i7)),(8,(pI j8))] [])
def f83 (l0:List Int):Option ((List Int)×Int):=dec (EN Q17) (Rn 46 [(pN l0)] [])
def GL (l0:List Int) (n9:Int) (v10:List Int) (v11 v12:Int):Option ((List Int)×Int):=dec (EN Q17) (hT 46 3 [] [(0,(pN l0)),(4,(pI n9)),(10,(pN v10)),(11,(pI v11)),(12,(pI v12))] [])
def tT (v30:List Int) (v31 v32:Int) (F5:List Int):Option ((List Int)×Int):=dec (EN Q17) (hT 46 11 [] [(7,(.row 29)),(30,(pN v30)),(31,(pI v31)),(32,(pI v32))] [(29,(.row 65 1 (List.map (aJ .u64) F5)))])
abbrev Ez.T:Type:=Unit×(List ((List UInt8)×Bool))×(List (List Int))
def Ez:Ez.T→Out:=(fun x:Unit×(List (sB×Bool))×(List (List Int))=>((Q11 x.1,[(10000,(.box 97 [(.row 10002)])),(10001,(.box 43 [(.row 20003)])),(10002, .mp 9 4 (az V9 V4 x.2.1).1 (az V9 V4 x.2.1).2),(20003, .row 49 1 (List.map (ct 1 (aJ .u64)) x.2.2))]):Out))
instance:c4 Ez:=⟨fun a b h=>by
  obtain ⟨a0,a1,a2⟩:=a
  obtain ⟨b0,b1,b2⟩:=b
  simp only [Ez,Prod.mk.injEq,List.cons.injEq,Ob.row.injEq,Ob.mp.injEq,and_true,true_and] at h
  have h0:a0=b0:=rfl
  obtain ⟨h1,h2⟩:=h
  rw [h0,hG (K:=V9) (V:=V4) h1.1 h1.2,map_inj c4.inj _ _ h2]⟩
def f84 (b0:List Int) (cN:List (sB×Bool)) (dh:List (List Int)):Option (Unit×(List (sB×Bool))×(List (List Int))):=dec Ez (Rn 47 [(pU b0),(.ptr 10000 0),(.ptr 10001 0)] [(10000,(.box 97 [(.row 10002)])),(10001,(.box 43 [(.row 20003)])),(10002,(oM 9 4 V9 V4 cN)),(20003,(.row 49 1 (List.map (ct 1 (aJ .u64)) dh)))])
def f85 (b0:List Int):Option sB:=dec (EN Q14) (Rn 48 [(pU b0)] [])
def GM (v11:List Int) (v12 kn:Int) (iU:List Int):Option sB:=dec (EN Q14) (hT 48 3 [] [(3,(.row 10)),(11,(pU v11)),(12,(pI v12)),(13,(pI kn))] [(10,(.row 5 1 (List.map (aJ .u8) iU)))])
def GN (w5 k6:Int) (v11:List Int) (v12 kn:Int) (iU:List Int):Option sB:=dec (EN Q14) (hT 48 6 [] [(3,(.row 10)),(5,(.pv (.int .u64 w5))),(6,(pI k6)),(11,(pU v11)),(12,(pI v12)),(13,(pI kn))] [(10,(.row 5 1 (List.map (aJ .u8) iU)))])
def f29 (a0 b1:List Int):Option (List Int):=dec (EN Q18) (Rn 49 [(pU a0),(pU b1)] [])
def Cj (a0 b1:List Int) (qx gx:Int) (oE:List Int):Option (List Int):=dec (EN Q18) (hT 49 3 [] [(0,(pU a0)),(1,(pU b1)),(5,(.row 12)),(14,(pI qx)),(15,(pI gx))] [(12,(.row 65 1 (List.map (aJ .u64) oE)))])
def f63 (a0 b1:List Int):Option Bool:=dec (EN Q1) (Rn 50 [(pU a0),(pU b1)] [])
def GG (b1 v7:List Int) (v8 v9:Int):Option Bool:=dec (EN Q1) (hT 50 2 [] [(1,(pU b1)),(7,(pU v7)),(8,(pI v8)),(9,(pI v9))] [])
def f86 (x0:Int):Option Int:=dec (EN Q3) (Rn 51 [(.pv (.int .u64 x0))] [])
def f90 (d0:List af) (l1:List sB):Option (List sB):=dec (EN Q13) (Rn 55 [(pT d0),(pS l1)] [])
def Az (ny:List (sB×(List sB))) (kn:List sB) (qx gx:Int) (o6:List sB):Option (List sB):=dec (EN Q13) (hT 55 4 [] [(5,(.pv (.mp (az V9 jm ny).1 (az V9 jm ny).2))),(6,(.row 6)),(13,(pS kn)),(14,(pI qx)),(15,(pI gx))] [(6,(oS o6))])
def f75 (d0:List af):Option (List (sB×(List sB))):=dec (EN Q12) (Rn 56 [(pT d0)] [])
def GJ (v9:List af) (v10 v11:Int) (o8:List (sB×(List sB))):Option (List (sB×(List sB))):=dec (EN Q12) (hT 56 3 [] [(3,(.row 8)),(9,(pT v9)),(10,(pI v10)),(11,(pI v11))] [(8,(oM 9 22 V9 jm o8))])
def f74 (rI:List (sB×(List sB))) (eR:List UInt8):Option (List sB):=dec (EN Q13) (Rn 57 [(.pv (.mp (az V9 jm rI).1 (az V9 jm rI).2)),(.pv (.str eR))] [])
def GI (rI:List (sB×(List sB))) (i9:Int) (Et:List (sB×Bool)) (qy:List sB):Option (List sB):=dec (EN Q13) (hT 57 7 [] [(0,(.pv (.mp (az V9 jm rI).1 (az V9 jm rI).2))),(7,(.row 20)),(8,(.row 24)),(9,(pI i9))] [(20,(oM 9 4 V9 V4 Et)),(24,(oS qy))])
def mI (rI:List (sB×(List sB))) (i9:Int) (v36:List sB) (v37 v38:Int) (Et:List (sB×Bool)) (qy:List sB):Option (List sB):=dec (EN Q13) (hT 57 10 [] [(0,(.pv (.mp (az V9 jm rI).1 (az V9 jm rI).2))),(7,(.row 20)),(8,(.row 24)),(9,(pI i9)),(36,(pS v36)),(37,(pI v37)),(38,(pI v38))] [(20,(oM 9 4 V9 V4 Et)),(24,(oS qy))])
def f91 (x0 a1:List UInt8) (a2:List sB):Option Bool:=dec (EN Q1) (Rn 58 [(.pv (.str x0)),(.pv (.ref [(.str a1)])),(.pv (.ref [(.cE 1 (List.map aI a2))]))] [])
def f92 (s0:List sB) (v1:List UInt8):Option Bool:=dec (EN Q1) (Rn 59 [(pS s0),(.pv (.str v1))] [])
def f93 (s0:List sB) (dY:List UInt8) (qK:List sB):Option Bool:=dec (EN Q1) (Rn 60 [(pS s0),(.pv (.fn 58 [(.ref [(.str dY)]),(.ref [(.cE 1 (List.map aI qK))])]))] [])
def f97 (x0:List UInt8):Option Bool:=dec (EN Q1) (Rn 65 [(.pv (.str x0))] [])
abbrev Ey.T:Type:=Bool
def Ey (cF:Int) (aX:List af) (aT:List aB) (aZ:List (sB×Int)) (aY:List sB) (bP:List Int) (bQ:List (List ai)):Ey.T→Out:=(fun x:Bool=>((Q1 x,[(10000,(.box 72 [(.ptr 10002 0)])),(10001,(.box 3 [(pI cF)])),(10002,(oB aX aT 10003 10004 10005 10006)),(10003,(oM 9 3 V9 V3 aZ)),(10004,(oS aY)),(10005,(oI bP)),(10006,(oA bQ))]):Out))
instance (cF:Int) (aX:List af) (aT:List aB) (aZ:List ((List UInt8)×Int)) (aY:List (List UInt8)) (bP:List Int) (bQ:List (List ai)):c4 (Ey cF aX aT aZ aY bP bQ):=⟨fun a b h=>by
  simp only [Ey,Prod.mk.injEq,and_true] at h
  exact c4.inj _ _ h⟩
def SC (s0:List Int) (cF:Int) (aX:List af) (aT:List aB) (aZ:List (sB×Int)) (aY:List sB) (bP:List Int) (bQ:List (List ai)):Option Bool:=dec (Ey cF aX aT aZ aY bP bQ) (Rn 69 [(pN s0),(.cl 112 [.p 10000, .p 10001])] [(10000,(.box 72 [(.ptr 10002 0)])),(10001,(.box 3 [(pI cF)])),(10002,(oB aX aT 10003 10004 10005 10006)),(10003,(oM 9 3 V9 V3 aZ)),(10004,(oS aY)),(10005,(oI bP)),(10006,(oA bQ))])
def f58 (l0:List aB) (gJ:List Int):Option Int:=dec (EN Q3) (Rn 70 [(pC l0),(.pv (.fn 71 [(.ref [(.cE 1 (List.map (aJ .u64) gJ))])]))] [])
def GF (gJ:List Int) (v7:List aB) (v8 v9:Int):Option Int:=dec (EN Q3) (hT 70 2 [] [(1,(.pv (.fn 71 [(.ref [(.cE 1 (List.map (aJ .u64) gJ))])]))),(7,(pC v7)),(8,(pI v8)),(9,(pI v9))] [])
def f59 (x0:aB) (a1:List Int):Option Bool:=dec (EN Q1) (Rn 71 [(.pv (.agg (aB.enc x0))),(.pv (.ref [(.cE 1 (List.map (aJ .u64) a1))]))] [])
def f366 (s0:List aB) (dY:af):Option Int:=dec (EN Q3) (Rn 72 [(pC s0),(.pv (.fn 73 [(.ref (af.enc dY))]))] [])
def As (s0:List aB) (dY:af) (v7 v8:Int):Option Int:=dec (EN Q3) (hT 72 2 [] [(0,(pC s0)),(1,(.pv (.fn 73 [(.ref (af.enc dY))]))),(7,(pI v7)),(8,(pI v8))] [])
def f375 (c0:aB) (a1:af):Option Bool:=dec (EN Q1) (Rn 73 [(.pv (.agg (aB.enc c0))),(.pv (.ref (af.enc a1)))] [])
abbrev gH.T:Type:=Int×(List ((List UInt8)×Int))×(List (List UInt8))×(List Int)×(List (List ai))
def gH (aC:List af) (aW:List aB):gH.T→Out:=(fun x:Int×(List (sB×Int))×(List sB)×(List Int)×(List (List ai))=>((Q3 x.1,[(10000,(oB aC aW 10001 20002 20003 20004)),(10001, .mp 9 3 (az V9 V3 x.2.1).1 (az V9 V3 x.2.1).2),(20002, .row 9 1 (List.map aI x.2.2.1)),(20003, .row 3 1 (List.map (aJ .i64) x.2.2.2.1)),(20004, .row 87 1 (List.map (ct 2 ai.enc) x.2.2.2.2))]):Out))
instance (aC:List af) (aW:List aB):c4 (gH aC aW):=⟨fun a b h=>by
  obtain ⟨a0,a1,a2,a3,a4⟩:=a
  obtain ⟨b0,b1,b2,b3,b4⟩:=b
  simp only [gH,Prod.mk.injEq,List.cons.injEq,Ob.row.injEq,Ob.mp.injEq,and_true,true_and] at h
  obtain ⟨h0,h1,h2,h3,h4⟩:=h
  rw [c4.inj _ _ h0,hG (K:=V9) (V:=V3) h1.1 h1.2,map_inj c4.inj _ _ h2,map_inj c4.inj _ _ h3,map_inj c4.inj _ _ h4]⟩
def f367 (aC:List af) (aW:List aB) (bp:List (sB×Int)) (fc:List sB) (dh:List Int) (gr:List (List ai)):Option (Int×(List (sB×Int))×(List sB)×(List Int)×(List (List ai))):=dec (gH aC aW) (Rn 74 [(.ptr 10000 0)] [(10000,(oB aC aW 10001 20002 20003 20004)),(10001,(oM 9 3 V9 V3 bp)),(20002,(oS fc)),(20003,(oI dh)),(20004,(oA gr))])
def tP (jM:List af) (v20 v21:Int) (qW:List (sB×Bool)) (ak:List af) (au:List aB) (aH:List (sB×Int)) (bl:List sB) (br:List Int) (bw:List (List ai)):Option (Int×(List (sB×Int))×(List sB)×(List Int)×(List (List ai))):=dec (gH ak au) (hT 74 3 [10000,10001,20002,20003,20004] [(0,(.ptr 10000 0)),(3,(.row 15)),(19,(pT jM)),(20,(pI v20)),(21,(pI v21))] [(15,(oM 9 4 V9 V4 qW)),(10000,(oB ak au 10001 20002 20003 20004)),(10001,(oM 9 3 V9 V3 aH)),(20002,(oS bl)),(20003,(oI br)),(20004,(oA bw))])
def Au (jM:List af) (v20 v21:Int) (v26:List ah) (v27 v28:Int) (o5:af) (qW:List (sB×Bool)) (ak:List af) (au:List aB) (aH:List (sB×Int)) (bl:List sB) (br:List Int) (bw:List (List ai)):Option (Int×(List (sB×Int))×(List sB)×(List Int)×(List (List ai))):=dec (gH ak au) (hT 74 6 [10000,10001,20002,20003,20004] [(0,(.ptr 10000 0)),(3,(.row 15)),(19,(pT jM)),(20,(pI v20)),(21,(pI v21)),(26,(pF v26)),(27,(pI v27)),(28,(pI v28))] [(5,(.box 25 (List.map .pv (af.enc o5)))),(15,(oM 9 4 V9 V4 qW)),(10000,(oB ak au 10001 20002 20003 20004)),(10001,(oM 9 3 V9 V3 aH)),(20002,(oS bl)),(20003,(oI br)),(20004,(oA bw))])
def sg (AD:List af) (v44 v45:Int) (qW:List (sB×Bool)) (ak:List af) (au:List aB) (aH:List (sB×Int)) (bl:List sB) (br:List Int) (bw:List (List ai)):Option (Int×(List (sB×Int))×(List sB)×(List Int)×(List (List ai))):=dec (gH ak au) (hT 74 14 [10000,10001,20002,20003,20004] [(0,(.ptr 10000 0)),(3,(.row 15)),(43,(pT AD)),(44,(pI v44)),(45,(pI v45))] [(15,(oM 9 4 V9 V4 qW)),(10000,(oB ak au 10001 20002 20003 20004)),(10001,(oM 9 3 V9 V3 aH)),(20002,(oS bl)),(20003,(oI br)),(20004,(oA bw))])
def vm (AD:List af) (v44 v45:Int) (v50:List ah) (v51 KD:Int) (o9:af) (qW:List (sB×Bool)) (ak:List af) (au:List aB) (aH:List (sB×Int)) (bl:List sB) (br:List Int) (bw:List (List ai)):Option (Int×(List (sB×Int))×(List sB)×(List Int)×(List (List ai))):=dec (gH ak au) (hT 74 17 [10000,10001,20002,20003,20004] [(0,(.ptr 10000 0)),(3,(.row 15)),(9,(.ptr 9 0)),(43,(pT AD)),(44,(pI v44)),(45,(pI v45)),(50,(pF v50)),(51,(pI v51)),(52,(pI KD))] [(9,(.box 25 (List.map .pv (af.enc o9)))),(15,(oM 9 4 V9 V4 qW)),(10000,(oB ak au 10001 20002 20003 20004)),(10001,(oM 9 3 V9 V3 aH)),(20002,(oS bl)),(20003,(oI br)),(20004,(oA bw))])
def f368 (aC:List af) (aW:List aB) (bp:List (sB×Int)) (fc:List sB) (dh:List Int) (gr:List (List ai)):Option (Int×(List (sB×Int))×(List sB)×(List Int)×(List (List ai))):=dec (gH aC aW) (Rn 75 [(.ptr 10000 0)] [(10000,(oB aC aW 10001 20002 20003 20004)),(10001,(oM 9 3 V9 V3 bp)),(20002,(oS fc)),(20003,(oI dh)),(20004,(oA gr))])
def wI (v11 v12:Int) (ak:List af) (au:List aB) (aH:List (sB×Int)) (bl:List sB) (br:List Int) (bw:List (List ai)):Option (Int×(List (sB×Int))×(List sB)×(List Int)×(List (List ai))):=dec (gH ak au) (hT 75 2 [10000,10001,20002,20003,20004] [(1,(.ptr 1 0)),(10,(.row 20002)),(11,(pI v11)),(12,(pI v12))] [(1,(.box 72 [(.ptr 10000 0)])),(10000,(oB ak au 10001 20002 20003 20004)),(10001,(oM 9 3 V9 V3 aH)),(20002,(oS bl)),(20003,(oI br)),(20004,(oA bw))])
def f369 (aC:List af) (aW:List aB) (bp:List (sB×Int)) (fc:List sB) (dh:List Int) (gr:List (List ai)):Option (Int×(List (sB×Int))×(List sB)×(List Int)×(List (List ai))):=dec (gH aC aW) (Rn 76 [(.ptr 10000 0)] [(10000,(oB aC aW 10001 20002 20003 20004)),(10001,(oM 9 3 V9 V3 bp)),(20002,(oS fc)),(20003,(oI dh)),(20004,(oA gr))])
def tQ (gx jC:Int) (ak:List af) (au:List aB) (aH:List (sB×Int)) (bl:List sB) (br:List Int) (bw:List (List ai)):Option (Int×(List (sB×Int))×(List sB)×(List Int)×(List (List ai))):=dec (gH ak au) (hT 76 2 [10000,10001,20002,20003,20004] [(0,(.ptr 10000 0)),(15,(pI gx)),(16,(pI jC))] [(10000,(oB ak au 10001 20002 20003 20004)),(10001,(oM 9 3 V9 V3 aH)),(20002,(oS bl)),(20003,(oI br)),(20004,(oA bw))])
def rG (nq:List (sB×(List Int))) (gx jC v26 v27:Int) (o4:List ai) (ak:List af) (au:List aB) (aH:List (sB×Int)) (bl:List sB) (br:List Int) (bw:List (List ai)):Option (Int×(List (sB×Int))×(List sB)×(List Int)×(List (List ai))):=dec (gH ak au) (hT 76 7 [10000,10001,20002,20003,20004] [(0,(.ptr 10000 0)),(4,(.row 4)),(5,(.pv (.mp (az V9 nH nq).1 (az V9 nH nq).2))),(15,(pI gx)),(16,(pI jC)),(25,(.row 20002)),(26,(pI v26)),(27,(pI v27))] [(4,(.row 86 2 (List.map ai.enc o4))),(10000,(oB ak au 10001 20002 20003 20004)),(10001,(oM 9 3 V9 V3 aH)),(20002,(oS bl)),(20003,(oI br)),(20004,(oA bw))])
def f359 (a0 b1:List ai):Option Bool:=dec (EN Q1) (Rn 77 [(pP a0),(pP b1)] [])
def Ei (a0 b1:List ai) (i5:Int):Option Bool:=dec (EN Q1) (hT 77 4 [] [(0,(pP a0)),(1,(pP b1)),(5,(pI i5))] [])
abbrev wQ.T:Type:=Bool
def wQ (bp:List (Int×Bool)):wQ.T→Out:=(fun x:Bool=>((Q1 x,[(10000,(.box 126 [(.row 10001)])),(10001,(oM 3 4 V3 V4 bp))]):Out))
instance (bp:List (Int×Bool)):c4 (wQ bp):=⟨fun a b h=>by
  simp only [wQ,Prod.mk.injEq,and_true] at h
  exact c4.inj _ _ h⟩
def f378 (s0:List ai) (bp:List (Int×Bool)):Option Bool:=dec (wQ bp) (Rn 78 [(pP s0),(.cl 79 [.p 10000])] [(10000,(.box 126 [(.row 10001)])),(10001,(oM 3 4 V3 V4 bp))])
def f386 (a0:ai) (bp:List (Int×Bool)):Option Bool:=dec (wQ bp) (Rn 79 [(.pv (.agg (ai.enc a0))),(.ptr 10000 0)] [(10000,(.box 126 [(.row 10001)])),(10001,(oM 3 4 V3 V4 bp))])
def f113 (s0:List af):Option Bool:=dec (EN Q1) (Rn 80 [(pT s0),(.pv (.fn 81 []))] [])
def f114 (x0:af):Option Bool:=dec (EN Q1) (Rn 81 [(.pv (.agg (af.enc x0)))] [])
def f115 (s0:List UInt8):Option Bool:=dec (EN Q1) (Rn 82 [(.pv (.str s0))] [])
def f116 (x0:List sB):Option sB:=dec (EN Q14) (Rn 83 [(pS x0)] [])
def Ee (x0:List sB) (m3:List UInt8) (i4:Int):Option sB:=dec (EN Q14) (hT 83 5 [] [(0,(pS x0)),(3,(.pv (.str m3))),(4,(pI i4))] [])
abbrev kW.T:Type:=Nat×(List (List UInt8))
def kW:kW.T→Out:=(fun x:Nat×(List sB)=>((Q19 x.1,[(10000, .row 9 1 (List.map aI x.2))]):Out))
instance:c4 kW:=⟨fun a b h=>by
  obtain ⟨a0,a1⟩:=a
  obtain ⟨b0,b1⟩:=b
  simp only [kW,Prod.mk.injEq,List.cons.injEq,Ob.row.injEq,Ob.mp.injEq,and_true,true_and] at h
  obtain ⟨h0,h1⟩:=h
  rw [c4.inj _ _ h0,map_inj c4.inj _ _ h1]⟩
def f117 (jP:List UInt8) (cv:List sB):Option (Nat×(List sB)):=dec kW (Rn 84 [(.row 10000),(.pv (.fn 85 [(.ref [(.str jP)])]))] [(10000,(oS cv))])
def wD (jP:List UInt8) (i5 j6:Int) (bI:List sB):Option (Nat×(List sB)):=dec kW (hT 84 5 [10000] [(0,(.row 10000)),(1,(.pv (.fn 85 [(.ref [(.str jP)])]))),(5,(pI i5)),(6,(pI j6))] [(10000,(oS bI))])
def f118 (s0 a1:List UInt8):Option Bool:=dec (EN Q1) (Rn 85 [(.pv (.str s0)),(.pv (.ref [(.str a1)]))] [])
def f120 (x0 y1:List UInt8):Option Bool:=dec (EN Q1) (Rn 87 [(.pv (.str x0)),(.pv (.str y1))] [])
def f121 (x0:List UInt8):Option Bool:=dec (EN Q1) (Rn 88 [(.pv (.str x0))] [])
def f68 (b0:List Int):Option (List Int):=dec (EN Q18) (Rn 89 [(pU b0)] [])
def GH (b0:List Int) (n3:Int):Option (List Int):=dec (EN Q18) (hT 89 2 [] [(0,(pU b0)),(3,(pI n3))] [])
def f107 (b0:List Int) (i1:Int):Option Int:=dec (EN Q20) (Rn 90 [(pU b0),(pI i1)] [])
def f124 (cv:List sB):Option (Nat×(List sB)):=dec kW (Rn 93 [(.row 10000)] [(10000,(oS cv))])
def Ef (k3:Int) (bI:List sB):Option (Nat×(List sB)):=dec kW (hT 93 4 [10000] [(0,(.row 10000)),(3,(pI k3))] [(10000,(oS bI))])
def O9 (k3:Int) (V8 Wa:Nat) (k25:Int) (bI:List sB):Option (Nat×(List sB)):=dec kW (hT 93 9 [10000] [(0,(.row 10000)),(3,(pI k3)),(4,(.sub 10000 1 V8 Wa)),(5,(pI k25))] [(10000,(oS bI))])
def f125 (s0:List sB) (v1:List UInt8):Option Int:=dec (EN Q3) (Rn 94 [(pS s0),(.pv (.str v1))] [])
def Ao (s0:List sB) (v1:List UInt8) (v7 v8:Int):Option Int:=dec (EN Q3) (hT 94 2 [] [(0,(pS s0)),(1,(.pv (.str v1))),(7,(pI v7)),(8,(pI v8))] [])
def f126 (s0:List sB) (dY:List UInt8) (qK:List sB):Option Int:=dec (EN Q3) (Rn 95 [(pS s0),(.pv (.fn 58 [(.ref [(.str dY)]),(.ref [(.cE 1 (List.map aI qK))])]))] [])
def M6 (s0:List sB) (dY:List UInt8):Option Int:=dec (EN Q3) (Rn 95 [(pS s0),(.pv (.fn 85 [(.ref [(.str dY)])]))] [])
def Ap (s0:List sB) (dY:List UInt8) (qK:List sB) (v7 v8:Int):Option Int:=dec (EN Q3) (hT 95 2 [] [(0,(pS s0)),(1,(.pv (.fn 58 [(.ref [(.str dY)]),(.ref [(.cE 1 (List.map aI qK))])]))),(7,(pI v7)),(8,(pI v8))] [])
def vl (s0:List sB) (dY:List UInt8) (v7 v8:Int):Option Int:=dec (EN Q3) (hT 95 2 [] [(0,(pS s0)),(1,(.pv (.fn 85 [(.ref [(.str dY)])]))),(7,(pI v7)),(8,(pI v8))] [])
abbrev wO.T:Type:=Int
def wO (aC:List Int) (aX:List af) (aT:List aB) (aZ:List (sB×Int)) (aY:List sB) (bP:List Int) (bQ:List (List ai)):wO.T→Out:=(fun x:Int=>((Q3 x,[(10000,(.box 55 [(pN aC)])),(10001,(.box 72 [(.ptr 10002 0)])),(10002,(oB aX aT 10003 10004 10005 10006)),(10003,(oM 9 3 V9 V3 aZ)),(10004,(oS aY)),(10005,(oI bP)),(10006,(oA bQ))]):Out))
instance (aC:List Int) (aX:List af) (aT:List aB) (aZ:List ((List UInt8)×Int)) (aY:List (List UInt8)) (bP:List Int) (bQ:List (List ai)):c4 (wO aC aX aT aZ aY bP bQ):=⟨fun a b h=>by
  simp only [wO,Prod.mk.injEq,and_true] at h
  exact c4.inj _ _ h⟩
abbrev mN.T:Type:=Int
def mN (cF:Int) (aX:List af) (aT:List aB) (aZ:List (sB×Int)) (aY:List sB) (bP:List Int) (bQ:List (List ai)):mN.T→Out:=(fun x:Int=>((Q3 x,[(10000,(.box 72 [(.ptr 10002 0)])),(10001,(.box 3 [(pI cF)])),(10002,(oB aX aT 10003 10004 10005 10006)),(10003,(oM 9 3 V9 V3 aZ)),(10004,(oS aY)),(10005,(oI bP)),(10006,(oA bQ))]):Out))
instance (cF:Int) (aX:List af) (aT:List aB) (aZ:List ((List UInt8)×Int)) (aY:List (List UInt8)) (bP:List Int) (bQ:List (List ai)):c4 (mN cF aX aT aZ aY bP bQ):=⟨fun a b h=>by
  simp only [mN,Prod.mk.injEq,and_true] at h
  exact c4.inj _ _ h⟩
def M4 (s0 aC:List Int) (aX:List af) (aT:List aB) (aZ:List (sB×Int)) (aY:List sB) (bP:List Int) (bQ:List (List ai)):Option Int:=dec (wO aC aX aT aZ aY bP bQ) (Rn 106 [(pN s0),(.cl 111 [.p 10000, .p 10001])] [(10000,(.box 55 [(pN aC)])),(10001,(.box 72 [(.ptr 10002 0)])),(10002,(oB aX aT 10003 10004 10005 10006)),(10003,(oM 9 3 V9 V3 aZ)),(10004,(oS aY)),(10005,(oI bP)),(10006,(oA bQ))])
def M5 (s0:List Int) (cF:Int) (aX:List af) (aT:List aB) (aZ:List (sB×Int)) (aY:List sB) (bP:List Int) (bQ:List (List ai)):Option Int:=dec (mN cF aX aT aZ aY bP bQ) (Rn 106 [(pN s0),(.cl 112 [.p 10000, .p 10001])] [(10000,(.box 72 [(.ptr 10002 0)])),(10001,(.box 3 [(pI cF)])),(10002,(oB aX aT 10003 10004 10005 10006)),(10003,(oM 9 3 V9 V3 aZ)),(10004,(oS aY)),(10005,(oI bP)),(10006,(oA bQ))])
def vj (s0:List Int) (v7 v8:Int) (ak:List Int) (dJ:List af) (dK:List aB) (cm:List (sB×Int)) (cn:List sB) (fM:List Int) (fN:List (List ai)):Option Int:=dec (wO ak dJ dK cm cn fM fN) (hT 106 2 [10000,10001,10002,10003,10004,10005,10006] [(0,(pN s0)),(1,(.cl 111 [.p 10000, .p 10001])),(7,(pI v7)),(8,(pI v8))] [(10000,(.box 55 [(pN ak)])),(10001,(.box 72 [(.ptr 10002 0)])),(10002,(oB dJ dK 10003 10004 10005 10006)),(10003,(oM 9 3 V9 V3 cm)),(10004,(oS cn)),(10005,(oI fM)),(10006,(oA fN))])
def vk (s0:List Int) (v7 v8 jb:Int) (dJ:List af) (dK:List aB) (cm:List (sB×Int)) (cn:List sB) (fM:List Int) (fN:List (List ai)):Option Int:=dec (mN jb dJ dK cm cn fM fN) (hT 106 2 [10000,10001,10002,10003,10004,10005,10006] [(0,(pN s0)),(1,(.cl 112 [.p 10000, .p 10001])),(7,(pI v7)),(8,(pI v8))] [(10000,(.box 72 [(.ptr 10002 0)])),(10001,(.box 3 [(pI jb)])),(10002,(oB dJ dK 10003 10004 10005 10006)),(10003,(oM 9 3 V9 V3 cm)),(10004,(oS cn)),(10005,(oI fM)),(10006,(oA fN))])
def f380 (s0:List UInt8):Option Bool:=dec (EN Q1) (Rn 107 [(.pv (.str s0))] [])
abbrev uc.T:Type:=Bool
def uc (cv:ah):uc.T→Out:=(fun x:Bool=>((Q1 x,[(10000,(.box 37 (List.map .pv (ah.enc cv))))]):Out))
instance (cv:ah):c4 (uc cv):=⟨fun a b h=>by
  simp only [uc,Prod.mk.injEq,and_true] at h
  exact c4.inj _ _ h⟩
def f381 (s0:List ah) (cv:ah):Option Bool:=dec (uc cv) (Rn 108 [(pF s0),(.cl 109 [.p 10000])] [(10000,(.box 37 (List.map .pv (ah.enc cv))))])
def M8 (s0:List ah) (dY:List UInt8):Option Bool:=dec (EN Q1) (Rn 108 [(pF s0),(.pv (.fn 135 [(.ref [(.str dY)])]))] [])
def f388 (y0 cv:ah):Option Bool:=dec (uc cv) (Rn 109 [(.pv (.agg (ah.enc y0))),(.ptr 10000 0)] [(10000,(.box 37 (List.map .pv (ah.enc cv))))])
abbrev wP.T:Type:=List Int
def wP (aC:List af) (aW:List aB) (bp:List (sB×Int)) (cN:List sB) (aZ:List Int) (aY:List (List ai)):wP.T→Out:=(fun x:List Int=>((Q10 x,[(10000,(oB aC aW 10001 10002 10003 10004)),(10001,(oM 9 3 V9 V3 bp)),(10002,(oS cN)),(10003,(oI aZ)),(10004,(oA aY))]):Out))
instance (aC:List af) (aW:List aB) (bp:List ((List UInt8)×Int)) (cN:List (List UInt8)) (aZ:List Int) (aY:List (List ai)):c4 (wP aC aW bp cN aZ aY):=⟨fun a b h=>by
  simp only [wP,Prod.mk.injEq,and_true] at h
  exact c4.inj _ _ h⟩
def f376 (BB:List UInt8) (aC:List af) (aW:List aB) (bp:List (sB×Int)) (cN:List sB) (aZ:List Int) (aY:List (List ai)):Option (List Int):=dec (wP aC aW bp cN aZ aY) (Rn 110 [(.ptr 10000 0),(.pv (.str BB))] [(10000,(oB aC aW 10001 10002 10003 10004)),(10001,(oM 9 3 V9 V3 bp)),(10002,(oS cN)),(10003,(oI aZ)),(10004,(oA aY))])
def qc (qL:List UInt8) (v11:List af) (v12 kn:Int) (o5:List Int) (ak:List af) (au:List aB) (aH:List (sB×Int)) (di:List sB) (cm:List Int) (cn:List (List ai)):Option (List Int):=dec (wP ak au aH di cm cn) (hT 110 3 [10000,10001,10002,10003,10004] [(0,(.ptr 10000 0)),(3,(.cp [(.str qL)])),(5,(.row 5)),(11,(pT v11)),(12,(pI v12)),(13,(pI kn))] [(5,(oI o5)),(10000,(oB ak au 10001 10002 10003 10004)),(10001,(oM 9 3 V9 V3 aH)),(10002,(oS di)),(10003,(oI cm)),(10004,(oA cn))])
abbrev Bm.T:Type:=Bool
def Bm (aC:List Int) (aX:List af) (aT:List aB) (aZ:List (sB×Int)) (aY:List sB) (bP:List Int) (bQ:List (List ai)):Bm.T→Out:=(fun x:Bool=>((Q1 x,[(10000,(.box 55 [(pN aC)])),(10001,(.box 72 [(.ptr 10002 0)])),(10002,(oB aX aT 10003 10004 10005 10006)),(10003,(oM 9 3 V9 V3 aZ)),(10004,(oS aY)),(10005,(oI bP)),(10006,(oA bQ))]):Out))
instance (aC:List Int) (aX:List af) (aT:List aB) (aZ:List ((List UInt8)×Int)) (aY:List (List UInt8)) (bP:List Int) (bQ:List (List ai)):c4 (Bm aC aX aT aZ aY bP bQ):=⟨fun a b h=>by
  simp only [Bm,Prod.mk.injEq,and_true] at h
  exact c4.inj _ _ h⟩
def f382 (a0:Int) (aC:List Int) (aX:List af) (aT:List aB) (aZ:List (sB×Int)) (aY:List sB) (bP:List Int) (bQ:List (List ai)):Option Bool:=dec (Bm aC aX aT aZ aY bP bQ) (Rn 111 [(pI a0),(.ptr 10000 0),(.ptr 10001 0)] [(10000,(.box 55 [(pN aC)])),(10001,(.box 72 [(.ptr 10002 0)])),(10002,(oB aX aT 10003 10004 10005 10006)),(10003,(oM 9 3 V9 V3 aZ)),(10004,(oS aY)),(10005,(oI bP)),(10006,(oA bQ))])
def f390 (b0 cF:Int) (aX:List af) (aT:List aB) (aZ:List (sB×Int)) (aY:List sB) (bP:List Int) (bQ:List (List ai)):Option Bool:=dec (Ey cF aX aT aZ aY bP bQ) (Rn 112 [(pI b0),(.ptr 10000 0),(.ptr 10001 0)] [(10000,(.box 72 [(.ptr 10002 0)])),(10001,(.box 3 [(pI cF)])),(10002,(oB aX aT 10003 10004 10005 10006)),(10003,(oM 9 3 V9 V3 aZ)),(10004,(oS aY)),(10005,(oI bP)),(10006,(oA bQ))])
abbrev sw.T:Type:=List ((List UInt8)×(List Int))
def sw (aC:List af) (aW:List aB) (bp:List (sB×Int)) (cN:List sB) (aZ:List Int) (aY:List (List ai)):sw.T→Out:=(fun x:List (sB×(List Int))=>((Q15 x,[(10000,(oB aC aW 10001 10002 10003 10004)),(10001,(oM 9 3 V9 V3 bp)),(10002,(oS cN)),(10003,(oI aZ)),(10004,(oA aY))]):Out))
instance (aC:List af) (aW:List aB) (bp:List ((List UInt8)×Int)) (cN:List (List UInt8)) (aZ:List Int) (aY:List (List ai)):c4 (sw aC aW bp cN aZ aY):=⟨fun a b h=>by
  simp only [sw,Prod.mk.injEq,and_true] at h
  exact c4.inj _ _ h⟩
def f377 (i1:Int) (aC:List af) (aW:List aB) (bp:List (sB×Int)) (cN:List sB) (aZ:List Int) (aY:List (List ai)):Option (List (sB×(List Int))):=dec (sw aC aW bp cN aZ aY) (Rn 113 [(.ptr 10000 0),(pI i1)] [(10000,(oB aC aW 10001 10002 10003 10004)),(10001,(oM 9 3 V9 V3 bp)),(10002,(oS cN)),(10003,(oI aZ)),(10004,(oA aY))])
def qd (i1:Int) (jC:List af) (v17 kK:Int) (sq:List (sB×(List Int))) (ak:List af) (au:List aB) (aH:List (sB×Int)) (di:List sB) (cm:List Int) (cn:List (List ai)):Option (List (sB×(List Int))):=dec (sw ak au aH di cm cn) (hT 113 4 [10000,10001,10002,10003,10004] [(1,(pI i1)),(2,(.ptr 2 0)),(5,(.ptr 5 0)),(6,(.cl 136 [.p 2, .p 5])),(16,(pT jC)),(17,(pI v17)),(18,(pI kK))] [(2,(.box 72 [(.ptr 10000 0)])),(5,(.box 156 [(.row 11)])),(11,(oM 9 49 V9 nH sq)),(10000,(oB ak au 10001 10002 10003 10004)),(10001,(oM 9 3 V9 V3 aH)),(10002,(oS di)),(10003,(oI cm)),(10004,(oA cn))])
def tR (i1:Int) (jC:List af) (v17 kK:Int) (v36:List ah) (v37 v38:Int) (o8:af) (sq:List (sB×(List Int))) (ak:List af) (au:List aB) (aH:List (sB×Int)) (di:List sB) (cm:List Int) (cn:List (List ai)):Option (List (sB×(List Int))):=dec (sw ak au aH di cm cn) (hT 113 8 [10000,10001,10002,10003,10004] [(1,(pI i1)),(2,(.ptr 2 0)),(5,(.ptr 5 0)),(6,(.cl 136 [.p 2, .p 5])),(16,(pT jC)),(17,(pI v17)),(18,(pI kK)),(36,(pF v36)),(37,(pI v37)),(38,(pI v38))] [(2,(.box 72 [(.ptr 10000 0)])),(5,(.box 156 [(.row 11)])),(8,(.box 25 (List.map .pv (af.enc o8)))),(11,(oM 9 49 V9 nH sq)),(10000,(oB ak au 10001 10002 10003 10004)),(10001,(oM 9 3 V9 V3 aH)),(10002,(oS di)),(10003,(oI cm)),(10004,(oA cn))])
abbrev wR.T:Type:=Int
def wR (bp:List (Int×Bool)):wR.T→Out:=(fun x:Int=>((Q3 x,[(10000,(.box 126 [(.row 10001)])),(10001,(oM 3 4 V3 V4 bp))]):Out))
instance (bp:List (Int×Bool)):c4 (wR bp):=⟨fun a b h=>by
  simp only [wR,Prod.mk.injEq,and_true] at h
  exact c4.inj _ _ h⟩
def f379 (s0:List ai) (bp:List (Int×Bool)):Option Int:=dec (wR bp) (Rn 114 [(pP s0),(.cl 79 [.p 10000])] [(10000,(.box 126 [(.row 10001)])),(10001,(oM 3 4 V3 V4 bp))])
def Av (s0:List ai) (v7 v8:Int) (aH:List (Int×Bool)):Option Int:=dec (wR aH) (hT 114 2 [10000,10001] [(0,(pP s0)),(1,(.cl 79 [.p 10000])),(7,(pI v7)),(8,(pI v8))] [(10000,(.box 126 [(.row 10001)])),(10001,(oM 3 4 V3 V4 aH))])
def f141 (s0:List af):Option Int:=dec (EN Q3) (Rn 115 [(pT s0),(.pv (.fn 81 []))] [])
def Aq (s0:List af) (v7 v8:Int):Option Int:=dec (EN Q3) (hT 115 2 [] [(0,(pT s0)),(1,(.pv (.fn 81 []))),(7,(pI v7)),(8,(pI v8))] [])
def f142 (s0:List UInt8):Option Bool:=dec (EN Q1) (Rn 116 [(.pv (.str s0)),(.pv (.fn 117 []))] [])
def M7 (s0:List UInt8):Option Bool:=dec (EN Q1) (Rn 116 [(.pv (.str s0)),(.pv (.fn 133 []))] [])
def wE (gp:List UInt8) (fA:Nat):Option Bool:=dec (EN Q1) (hT 116 4 [] [(1,(.pv (.fn 117 []))),(16,(.ptr 16 0))] [(16,(.it gp fA))])
def se (gp:List UInt8) (fA:Nat):Option Bool:=dec (EN Q1) (hT 116 4 [] [(1,(.pv (.fn 133 []))),(16,(.ptr 16 0))] [(16,(.it gp fA))])
def f143 (c0:Int):Option Bool:=dec (EN Q1) (Rn 117 [(.pv (.int .i32 c0))] [])
def f387 (c0:Int):Option Bool:=dec (EN Q1) (Rn 133 [(.pv (.int .i32 c0))] [])
abbrev wS.T:Type:=Int
def wS (cv:ah):wS.T→Out:=(fun x:Int=>((Q3 x,[(10000,(.box 37 (List.map .pv (ah.enc cv))))]):Out))
instance (cv:ah):c4 (wS cv):=⟨fun a b h=>by
  simp only [wS,Prod.mk.injEq,and_true] at h
  exact c4.inj _ _ h⟩
def f384 (s0:List ah) (cv:ah):Option Int:=dec (wS cv) (Rn 134 [(pF s0),(.cl 109 [.p 10000])] [(10000,(.box 37 (List.map .pv (ah.enc cv))))])
def M9 (s0:List ah) (dY:List UInt8):Option Int:=dec (EN Q3) (Rn 134 [(pF s0),(.pv (.fn 135 [(.ref [(.str dY)])]))] [])
def Aw (s0:List ah) (v7 v8:Int) (bI:ah):Option Int:=dec (wS bI) (hT 134 2 [10000] [(0,(pF s0)),(1,(.cl 109 [.p 10000])),(7,(pI v7)),(8,(pI v8))] [(10000,(.box 37 (List.map .pv (ah.enc bI))))])
def vn (s0:List ah) (dY:List UInt8) (v7 v8:Int):Option Int:=dec (EN Q3) (hT 134 2 [] [(0,(pF s0)),(1,(.pv (.fn 135 [(.ref [(.str dY)])]))),(7,(pI v7)),(8,(pI v8))] [])
def f389 (f0:ah) (a1:List UInt8):Option Bool:=dec (EN Q1) (Rn 135 [(.pv (.agg (ah.enc f0))),(.pv (.ref [(.str a1)]))] [])
abbrev Bo.T:Type:=Unit×(List ((List UInt8)×(List Int)))
def Bo (aX:List af) (aT:List aB) (aY:List (sB×Int)) (bP:List sB) (bQ:List Int) (kL:List (List ai)):Bo.T→Out:=(fun x:Unit×(List (sB×(List Int)))=>((Q11 x.1,[(10000,(.box 72 [(.ptr 10002 0)])),(10001,(.box 156 [(.row 10003)])),(10002,(oB aX aT 10004 10005 10006 10007)),(10003, .mp 9 49 (az V9 nH x.2).1 (az V9 nH x.2).2),(10004,(oM 9 3 V9 V3 aY)),(10005,(oS bP)),(10006,(oI bQ)),(10007,(oA kL))]):Out))
instance (aX:List af) (aT:List aB) (aY:List ((List UInt8)×Int)) (bP:List (List UInt8)) (bQ:List Int) (kL:List (List ai)):c4 (Bo aX aT aY bP bQ kL):=⟨fun a b h=>by
  obtain ⟨a0,a1⟩:=a
  obtain ⟨b0,b1⟩:=b
  simp only [Bo,Prod.mk.injEq,List.cons.injEq,Ob.row.injEq,Ob.mp.injEq,and_true,true_and] at h
  have h0:a0=b0:=rfl
  have h1:=h
  rw [h0,hG (K:=V9) (V:=nH) h1.1 h1.2]⟩
def f385 (f0:ah) (aX:List af) (aT:List aB) (aZ:List (sB×(List Int))) (aY:List (sB×Int)) (bP:List sB) (bQ:List Int) (kL:List (List ai)):Option (Unit×(List (sB×(List Int)))):=dec (Bo aX aT aY bP bQ kL) (Rn 136 [(.pv (.agg (ah.enc f0))),(.ptr 10000 0),(.ptr 10001 0)] [(10000,(.box 72 [(.ptr 10002 0)])),(10001,(.box 156 [(.row 10003)])),(10002,(oB aX aT 10004 10005 10006 10007)),(10003,(oM 9 49 V9 nH aZ)),(10004,(oM 9 3 V9 V3 aY)),(10005,(oS bP)),(10006,(oI bQ)),(10007,(oA kL))])
abbrev Bn.T:Type:=List Int
def Bn (aC:List af) (aW:List aB) (bp:List (sB×Int)) (cN:List sB) (aZ:List Int) (aY:List (List ai)):Bn.T→Out:=(fun x:List Int=>((Q18 x,[(10000,(oB aC aW 10001 10002 10003 10004)),(10001,(oM 9 3 V9 V3 bp)),(10002,(oS cN)),(10003,(oI aZ)),(10004,(oA aY))]):Out))
instance (aC:List af) (aW:List aB) (bp:List ((List UInt8)×Int)) (cN:List (List UInt8)) (aZ:List Int) (aY:List (List ai)):c4 (Bn aC aW bp cN aZ aY):=⟨fun a b h=>by
  simp only [Bn,Prod.mk.injEq,and_true] at h
  exact c4.inj _ _ h⟩
def f383 (eR:List UInt8) (aC:List af) (aW:List aB) (bp:List (sB×Int)) (cN:List sB) (aZ:List Int) (aY:List (List ai)):Option (List Int):=dec (Bn aC aW bp cN aZ aY) (Rn 137 [(.ptr 10000 0),(.pv (.str eR))] [(10000,(oB aC aW 10001 10002 10003 10004)),(10001,(oM 9 3 V9 V3 bp)),(10002,(oS cN)),(10003,(oI aZ)),(10004,(oA aY))])
def f161 (c0:Int):Option Bool:=dec (EN Q1) (Rn 138 [(.pv (.int .i32 c0))] [])
end
end Go.Proofs.YtfoddgpndoeeaaaGreatDoor.cl
