/-
 The Closure laws: the functions and loops as plain ones, by program (decomp2.py).
-/
import Derived.Test.YtneahmpmicoplaaGreatDoorClT
set_option linter.unusedVariables false
set_option linter.unusedSimpArgs false
set_option maxRecDepth 100000
namespace Go.Proofs.YtneahmpmicoplaaGreatDoor.cl
open Go Go.AM
abbrev E3.T : Type := Bool
def E3 : E3.T → Out := (fun x : R3.T => ((R3.enc x, []) : Out))
instance : Inj E3 := ⟨fun a b h => by
 simp only [E3, Prod.mk.injEq, and_true] at h
 exact Inj.inj _ _ h⟩
noncomputable def r3 (d0 : List TypeDecl) : Option Out := Rn 3 [(.pv (.lst 3 (List.map TypeDecl.enc d0)))] []
noncomputable def f3 (d0 : List TypeDecl) : Option Bool := dec E3 (r3 d0)
theorem s3 {d0 : List TypeDecl} : Imp E3 (r3 d0) (f3 d0) := dec_imp _ _
abbrev E4.T : Type := Bool
def E4 : E4.T → Out := (fun x : R4.T => ((R4.enc x, []) : Out))
instance : Inj E4 := ⟨fun a b h => by
 simp only [E4, Prod.mk.injEq, and_true] at h
 exact Inj.inj _ _ h⟩
noncomputable def r4 (d0 : List TypeDecl) (code1 : List Int) (i2 : Int) : Option Out := Rn 4 [(.pv (.lst 3 (List.map TypeDecl.enc d0))), (.pv (.lst 1 (List.map (eInt .u64) code1))), (.pv (.int .u8 i2))] []
noncomputable def f4 (d0 : List TypeDecl) (code1 : List Int) (i2 : Int) : Option Bool := dec E4 (r4 d0 code1 i2)
abbrev E5.T : Type := Bool
def E5 : E5.T → Out := (fun x : R5.T => ((R5.enc x, []) : Out))
instance : Inj E5 := ⟨fun a b h => by
 simp only [E5, Prod.mk.injEq, and_true] at h
 exact Inj.inj _ _ h⟩
noncomputable def r5 (d0 : List TypeDecl) (i1 : Int) (j2 : Int) : Option Out := Rn 5 [(.pv (.lst 3 (List.map TypeDecl.enc d0))), (.pv (.int .u8 i1)), (.pv (.int .u8 j2))] []
noncomputable def f5 (d0 : List TypeDecl) (i1 : Int) (j2 : Int) : Option Bool := dec E5 (r5 d0 i1 j2)
abbrev E6.T : Type := Bool
def E6 : E6.T → Out := (fun x : R6.T => ((R6.enc x, []) : Out))
instance : Inj E6 := ⟨fun a b h => by
 simp only [E6, Prod.mk.injEq, and_true] at h
 exact Inj.inj _ _ h⟩
noncomputable def r6 (d0 : List TypeDecl) (i1 : Int) (j2 : Int) : Option Out := Rn 6 [(.pv (.lst 3 (List.map TypeDecl.enc d0))), (.pv (.int .u8 i1)), (.pv (.int .u8 j2))] []
noncomputable def f6 (d0 : List TypeDecl) (i1 : Int) (j2 : Int) : Option Bool := dec E6 (r6 d0 i1 j2)
noncomputable def h6_14 (a8 : Int) (b9 : Int) (l11 : List Coded) (m13 : Int) (n14 : Int) (v130 : Int) (v131 : Int) : Option Out := headT P cods H prim 6 14 [] [(8, (.pv (.int .i64 a8))), (9, (.pv (.int .i64 b9))), (11, (.pv (.lst 2 (List.map Coded.enc l11)))), (13, (.pv (.int .i64 m13))), (14, (.pv (.int .i64 n14))), (130, (.pv (.int .i64 v130))), (131, (.pv (.int .i64 v131)))] []
noncomputable def t6_14 (a8 : Int) (b9 : Int) (l11 : List Coded) (m13 : Int) (n14 : Int) (v130 : Int) (v131 : Int) : Option Bool := dec E6 (h6_14 a8 b9 l11 m13 n14 v130 v131)
theorem q6_14 {a8 : Int} {b9 : Int} {l11 : List Coded} {m13 : Int} {n14 : Int} {v130 : Int} {v131 : Int} : Imp E6 (h6_14 a8 b9 l11 m13 n14 v130 v131) (t6_14 a8 b9 l11 m13 n14 v130 v131) := dec_imp _ _
abbrev E7.T : Type := Bool
def E7 : E7.T → Out := (fun x : R7.T => ((R7.enc x, []) : Out))
instance : Inj E7 := ⟨fun a b h => by
 simp only [E7, Prod.mk.injEq, and_true] at h
 exact Inj.inj _ _ h⟩
noncomputable def h7_7 (l3 : List Coded) (v29 : Int) (v30 : Int) : Option Out := headT P cods H prim 7 7 [] [(3, (.pv (.lst 2 (List.map Coded.enc l3)))), (29, (.pv (.int .i64 v29))), (30, (.pv (.int .i64 v30)))] []
noncomputable def t7_7 (l3 : List Coded) (v29 : Int) (v30 : Int) : Option Bool := dec E7 (h7_7 l3 v29 v30)
theorem q7_7 {l3 : List Coded} {v29 : Int} {v30 : Int} : Imp E7 (h7_7 l3 v29 v30) (t7_7 l3 v29 v30) := dec_imp _ _
noncomputable def h7_12 (l3 : List Coded) (i5 : Int) (v29 : Int) (v30 : Int) (v47 : Int) (v48 : Int) : Option Out := headT P cods H prim 7 12 [] [(3, (.pv (.lst 2 (List.map Coded.enc l3)))), (5, (.pv (.int .i64 i5))), (29, (.pv (.int .i64 v29))), (30, (.pv (.int .i64 v30))), (47, (.pv (.int .i64 v47))), (48, (.pv (.int .i64 v48)))] []
noncomputable def t7_12 (l3 : List Coded) (i5 : Int) (v29 : Int) (v30 : Int) (v47 : Int) (v48 : Int) : Option Bool := dec E7 (h7_12 l3 i5 v29 v30 v47 v48)
theorem q7_12 {l3 : List Coded} {i5 : Int} {v29 : Int} {v30 : Int} {v47 : Int} {v48 : Int} : Imp E7 (h7_12 l3 i5 v29 v30 v47 v48) (t7_12 l3 i5 v29 v30 v47 v48) := dec_imp _ _
abbrev E8.T : Type := Bool
def E8 : E8.T → Out := (fun x : R8.T => ((R8.enc x, []) : Out))
instance : Inj E8 := ⟨fun a b h => by
 simp only [E8, Prod.mk.injEq, and_true] at h
 exact Inj.inj _ _ h⟩
noncomputable def r8 (d0 : List TypeDecl) (a1_0 : Int) (a1_1 : Int) (a1_2 : Int) : Option Out := Rn 8 [(.pv (.lst 3 (List.map TypeDecl.enc d0))), (.pv (.agg [(.int .u8 a1_0), (.int .u8 a1_1), (.int .u8 a1_2)]))] []
noncomputable def f8 (d0 : List TypeDecl) (a1_0 : Int) (a1_1 : Int) (a1_2 : Int) : Option Bool := dec E8 (r8 d0 a1_0 a1_1 a1_2)
abbrev E9.T : Type := Bool
def E9 : E9.T → Out := (fun x : R9.T => ((R9.enc x, []) : Out))
instance : Inj E9 := ⟨fun a b h => by
 simp only [E9, Prod.mk.injEq, and_true] at h
 exact Inj.inj _ _ h⟩
abbrev E11.T : Type := Bool
def E11 : E11.T → Out := (fun x : R11.T => ((R11.enc x, []) : Out))
instance : Inj E11 := ⟨fun a b h => by
 simp only [E11, Prod.mk.injEq, and_true] at h
 exact Inj.inj _ _ h⟩
noncomputable def r11 (d0 : List TypeDecl) : Option Out := Rn 11 [(.pv (.lst 3 (List.map TypeDecl.enc d0)))] []
noncomputable def f11 (d0 : List TypeDecl) : Option Bool := dec E11 (r11 d0)
theorem s11 {d0 : List TypeDecl} : Imp E11 (r11 d0) (f11 d0) := dec_imp _ _
noncomputable def h11_7 (d0 : List TypeDecl) (l3 : List Coded) (v32 : Int) (v33 : Int) : Option Out := headT P cods H prim 11 7 [] [(0, (.pv (.lst 3 (List.map TypeDecl.enc d0)))), (3, (.pv (.lst 2 (List.map Coded.enc l3)))), (32, (.pv (.int .i64 v32))), (33, (.pv (.int .i64 v33)))] []
noncomputable def t11_7 (d0 : List TypeDecl) (l3 : List Coded) (v32 : Int) (v33 : Int) : Option Bool := dec E11 (h11_7 d0 l3 v32 v33)
theorem q11_7 {d0 : List TypeDecl} {l3 : List Coded} {v32 : Int} {v33 : Int} : Imp E11 (h11_7 d0 l3 v32 v33) (t11_7 d0 l3 v32 v33) := dec_imp _ _
noncomputable def h11_12 (d0 : List TypeDecl) (l3 : List Coded) (up6 : List (List UInt8)) (a7 : Int) (v32 : Int) (v33 : Int) (v51 : Int) (v52 : Int) : Option Out := headT P cods H prim 11 12 [] [(0, (.pv (.lst 3 (List.map TypeDecl.enc d0)))), (3, (.pv (.lst 2 (List.map Coded.enc l3)))), (6, (.pv (.lst 1 (List.map eStr up6)))), (7, (.pv (.int .i64 a7))), (32, (.pv (.int .i64 v32))), (33, (.pv (.int .i64 v33))), (51, (.pv (.int .i64 v51))), (52, (.pv (.int .i64 v52)))] []
noncomputable def t11_12 (d0 : List TypeDecl) (l3 : List Coded) (up6 : List (List UInt8)) (a7 : Int) (v32 : Int) (v33 : Int) (v51 : Int) (v52 : Int) : Option Bool := dec E11 (h11_12 d0 l3 up6 a7 v32 v33 v51 v52)
theorem q11_12 {d0 : List TypeDecl} {l3 : List Coded} {up6 : List (List UInt8)} {a7 : Int} {v32 : Int} {v33 : Int} {v51 : Int} {v52 : Int} : Imp E11 (h11_12 d0 l3 up6 a7 v32 v33 v51 v52) (t11_12 d0 l3 up6 a7 v32 v33 v51 v52) := dec_imp _ _
abbrev E12.T : Type := Bool
def E12 : E12.T → Out := (fun x : R12.T => ((R12.enc x, []) : Out))
instance : Inj E12 := ⟨fun a b h => by
 simp only [E12, Prod.mk.injEq, and_true] at h
 exact Inj.inj _ _ h⟩
noncomputable def r12 (d0 : List TypeDecl) : Option Out := Rn 12 [(.pv (.lst 3 (List.map TypeDecl.enc d0)))] []
noncomputable def f12 (d0 : List TypeDecl) : Option Bool := dec E12 (r12 d0)
theorem s12 {d0 : List TypeDecl} : Imp E12 (r12 d0) (f12 d0) := dec_imp _ _
abbrev E13.T : Type := Bool
def E13 : E13.T → Out := (fun x : R13.T => ((R13.enc x, []) : Out))
instance : Inj E13 := ⟨fun a b h => by
 simp only [E13, Prod.mk.injEq, and_true] at h
 exact Inj.inj _ _ h⟩
noncomputable def r13  : Option Out := Rn 13 [] []
noncomputable def f13  : Option Bool := dec E13 (r13 )
theorem s13  : Imp E13 (r13 ) (f13 ) := dec_imp _ _
abbrev E14.T : Type := (List Coded) × Int
def E14 : E14.T → Out := (fun x : R14.T => ((R14.enc x, []) : Out))
instance : Inj E14 := ⟨fun a b h => by
 simp only [E14, Prod.mk.injEq, and_true] at h
 exact Inj.inj _ _ h⟩
noncomputable def r14 (d0 : List TypeDecl) : Option Out := Rn 14 [(.pv (.lst 3 (List.map TypeDecl.enc d0)))] []
noncomputable def f14 (d0 : List TypeDecl) : Option ((List Coded) × Int) := dec E14 (r14 d0)
theorem s14 {d0 : List TypeDecl} : Imp E14 (r14 d0) (f14 d0) := dec_imp _ _
noncomputable def h14_10 (d0 : List TypeDecl) (names5 : List (List UInt8)) (codes6 : List (List Int)) (v34 : List (List Int)) (v35 : Int) (v36 : Int) (o9 : List Coded) : Option Out := headT P cods H prim 14 10 [] [(0, (.pv (.lst 3 (List.map TypeDecl.enc d0)))), (5, (.pv (.lst 1 (List.map eStr names5)))), (6, (.pv (.lst 1 (List.map (eLst 1 (eInt .u64)) codes6)))), (9, (.row 9)), (34, (.pv (.lst 1 (List.map (eLst 1 (eInt .u64)) v34)))), (35, (.pv (.int .i64 v35))), (36, (.pv (.int .i64 v36)))] [(9, (.row 36 2 (List.map Coded.enc o9)))]
noncomputable def t14_10 (d0 : List TypeDecl) (names5 : List (List UInt8)) (codes6 : List (List Int)) (v34 : List (List Int)) (v35 : Int) (v36 : Int) (o9 : List Coded) : Option ((List Coded) × Int) := dec E14 (h14_10 d0 names5 codes6 v34 v35 v36 o9)
theorem q14_10 {d0 : List TypeDecl} {names5 : List (List UInt8)} {codes6 : List (List Int)} {v34 : List (List Int)} {v35 : Int} {v36 : Int} {o9 : List Coded} : Imp E14 (h14_10 d0 names5 codes6 v34 v35 v36 o9) (t14_10 d0 names5 codes6 v34 v35 v36 o9) := dec_imp _ _
noncomputable def h14_18 (d0 : List TypeDecl) (names5 : List (List UInt8)) (codes6 : List (List Int)) (v34 : List (List Int)) (v35 : Int) (v36 : Int) (v53 : List Int) (v54 : Int) (v55 : Int) (o9 : List Coded) (o12 : Coded) (o14 : List (List UInt8)) : Option Out := headT P cods H prim 14 18 [] [(0, (.pv (.lst 3 (List.map TypeDecl.enc d0)))), (5, (.pv (.lst 1 (List.map eStr names5)))), (6, (.pv (.lst 1 (List.map (eLst 1 (eInt .u64)) codes6)))), (9, (.row 9)), (12, (.ptr 12 0)), (14, (.row 14)), (34, (.pv (.lst 1 (List.map (eLst 1 (eInt .u64)) v34)))), (35, (.pv (.int .i64 v35))), (36, (.pv (.int .i64 v36))), (53, (.pv (.lst 1 (List.map (eInt .i64) v53)))), (54, (.pv (.int .i64 v54))), (55, (.pv (.int .i64 v55)))] [(9, (.row 36 2 (List.map Coded.enc o9))), (12, (.box 36 (List.map .pv (Coded.enc o12)))), (14, (.row 9 1 (List.map eStr o14)))]
noncomputable def t14_18 (d0 : List TypeDecl) (names5 : List (List UInt8)) (codes6 : List (List Int)) (v34 : List (List Int)) (v35 : Int) (v36 : Int) (v53 : List Int) (v54 : Int) (v55 : Int) (o9 : List Coded) (o12 : Coded) (o14 : List (List UInt8)) : Option ((List Coded) × Int) := dec E14 (h14_18 d0 names5 codes6 v34 v35 v36 v53 v54 v55 o9 o12 o14)
theorem q14_18 {d0 : List TypeDecl} {names5 : List (List UInt8)} {codes6 : List (List Int)} {v34 : List (List Int)} {v35 : Int} {v36 : Int} {v53 : List Int} {v54 : Int} {v55 : Int} {o9 : List Coded} {o12 : Coded} {o14 : List (List UInt8)} : Imp E14 (h14_18 d0 names5 codes6 v34 v35 v36 v53 v54 v55 o9 o12 o14) (t14_18 d0 names5 codes6 v34 v35 v36 v53 v54 v55 o9 o12 o14) := dec_imp _ _
abbrev E15.T : Type := (List Coded) × Int
def E15 : E15.T → Out := (fun x : R15.T => ((R15.enc x, []) : Out))
instance : Inj E15 := ⟨fun a b h => by
 simp only [E15, Prod.mk.injEq, and_true] at h
 exact Inj.inj _ _ h⟩
noncomputable def r15 (d0 : List TypeDecl) : Option Out := Rn 15 [(.pv (.lst 3 (List.map TypeDecl.enc d0)))] []
noncomputable def f15 (d0 : List TypeDecl) : Option ((List Coded) × Int) := dec E15 (r15 d0)
theorem s15 {d0 : List TypeDecl} : Imp E15 (r15 d0) (f15 d0) := dec_imp _ _
noncomputable def h15_7 (d0 : List TypeDecl) (all5 : List (List UInt8)) (i7 : Int) (o6 : List (List Int)) : Option Out := headT P cods H prim 15 7 [] [(0, (.pv (.lst 3 (List.map TypeDecl.enc d0)))), (5, (.pv (.lst 1 (List.map eStr all5)))), (6, (.row 6)), (7, (.pv (.int .i64 i7)))] [(6, (.row 31 1 (List.map (eLst 1 (eInt .u64)) o6)))]
noncomputable def t15_7 (d0 : List TypeDecl) (all5 : List (List UInt8)) (i7 : Int) (o6 : List (List Int)) : Option ((List Coded) × Int) := dec E15 (h15_7 d0 all5 i7 o6)
theorem q15_7 {d0 : List TypeDecl} {all5 : List (List UInt8)} {i7 : Int} {o6 : List (List Int)} : Imp E15 (h15_7 d0 all5 i7 o6) (t15_7 d0 all5 i7 o6) := dec_imp _ _
noncomputable def h15_15 (d0 : List TypeDecl) (all5 : List (List UInt8)) (codes6 : List (List Int)) (f8 : List (List Int)) (out9 : List Coded) (i10 : Int) : Option Out := headT P cods H prim 15 15 [] [(0, (.pv (.lst 3 (List.map TypeDecl.enc d0)))), (5, (.pv (.lst 1 (List.map eStr all5)))), (6, (.pv (.lst 1 (List.map (eLst 1 (eInt .u64)) codes6)))), (8, (.pv (.lst 1 (List.map (eLst 1 (eInt .u64)) f8)))), (9, (.pv (.lst 2 (List.map Coded.enc out9)))), (10, (.pv (.int .i64 i10)))] []
noncomputable def t15_15 (d0 : List TypeDecl) (all5 : List (List UInt8)) (codes6 : List (List Int)) (f8 : List (List Int)) (out9 : List Coded) (i10 : Int) : Option ((List Coded) × Int) := dec E15 (h15_15 d0 all5 codes6 f8 out9 i10)
theorem q15_15 {d0 : List TypeDecl} {all5 : List (List UInt8)} {codes6 : List (List Int)} {f8 : List (List Int)} {out9 : List Coded} {i10 : Int} : Imp E15 (h15_15 d0 all5 codes6 f8 out9 i10) (t15_15 d0 all5 codes6 f8 out9 i10) := dec_imp _ _
noncomputable def h15_19 (d0 : List TypeDecl) (all5 : List (List UInt8)) (codes6 : List (List Int)) (f8 : List (List Int)) (out9 : List Coded) (i10 : Int) (v12 : Int) (o11 : Coded) : Option Out := headT P cods H prim 15 19 [] [(0, (.pv (.lst 3 (List.map TypeDecl.enc d0)))), (5, (.pv (.lst 1 (List.map eStr all5)))), (6, (.pv (.lst 1 (List.map (eLst 1 (eInt .u64)) codes6)))), (8, (.pv (.lst 1 (List.map (eLst 1 (eInt .u64)) f8)))), (9, (.pv (.lst 2 (List.map Coded.enc out9)))), (10, (.pv (.int .i64 i10))), (11, (.ptr 11 0)), (12, (.pv (.int .i64 v12)))] [(11, (.box 36 (List.map .pv (Coded.enc o11))))]
noncomputable def t15_19 (d0 : List TypeDecl) (all5 : List (List UInt8)) (codes6 : List (List Int)) (f8 : List (List Int)) (out9 : List Coded) (i10 : Int) (v12 : Int) (o11 : Coded) : Option ((List Coded) × Int) := dec E15 (h15_19 d0 all5 codes6 f8 out9 i10 v12 o11)
theorem q15_19 {d0 : List TypeDecl} {all5 : List (List UInt8)} {codes6 : List (List Int)} {f8 : List (List Int)} {out9 : List Coded} {i10 : Int} {v12 : Int} {o11 : Coded} : Imp E15 (h15_19 d0 all5 codes6 f8 out9 i10 v12 o11) (t15_19 d0 all5 codes6 f8 out9 i10 v12 o11) := dec_imp _ _
abbrev E16.T : Type := Bool
def E16 : E16.T → Out := (fun x : R16.T => ((R16.enc x, []) : Out))
instance : Inj E16 := ⟨fun a b h => by
 simp only [E16, Prod.mk.injEq, and_true] at h
 exact Inj.inj _ _ h⟩
noncomputable def r16 (a0 : List Coded) (b1 : List Coded) : Option Out := Rn 16 [(.pv (.lst 2 (List.map Coded.enc a0))), (.pv (.lst 2 (List.map Coded.enc b1)))] []
noncomputable def f16 (a0 : List Coded) (b1 : List Coded) : Option Bool := dec E16 (r16 a0 b1)
theorem s16 {a0 : List Coded} {b1 : List Coded} : Imp E16 (r16 a0 b1) (f16 a0 b1) := dec_imp _ _
abbrev E17.T : Type := (List Coded) × Int × Int × Bool
def E17 : E17.T → Out := (fun x : R17.T => ((R17.enc x, []) : Out))
instance : Inj E17 := ⟨fun a b h => by
 simp only [E17, Prod.mk.injEq, and_true] at h
 exact Inj.inj _ _ h⟩
noncomputable def r17 (d0 : List TypeDecl) (i1 : Int) (j2 : Int) : Option Out := Rn 17 [(.pv (.lst 3 (List.map TypeDecl.enc d0))), (.pv (.int .u8 i1)), (.pv (.int .u8 j2))] []
noncomputable def f17 (d0 : List TypeDecl) (i1 : Int) (j2 : Int) : Option ((List Coded) × Int × Int × Bool) := dec E17 (r17 d0 i1 j2)
theorem s17 {d0 : List TypeDecl} {i1 : Int} {j2 : Int} : Imp E17 (r17 d0 i1 j2) (f17 d0 i1 j2) := dec_imp _ _
abbrev E18.T : Type := Int
def E18 : E18.T → Out := (fun x : R18.T => ((R18.enc x, []) : Out))
instance : Inj E18 := ⟨fun a b h => by
 simp only [E18, Prod.mk.injEq, and_true] at h
 exact Inj.inj _ _ h⟩
noncomputable def r18 (l0 : List Coded) (code1 : List Int) : Option Out := Rn 18 [(.pv (.lst 2 (List.map Coded.enc l0))), (.pv (.lst 1 (List.map (eInt .u64) code1)))] []
noncomputable def f18 (l0 : List Coded) (code1 : List Int) : Option Int := dec E18 (r18 l0 code1)
theorem s18 {l0 : List Coded} {code1 : List Int} : Imp E18 (r18 l0 code1) (f18 l0 code1) := dec_imp _ _
abbrev E19.T : Type := Int
def E19 : E19.T → Out := (fun x : R19.T => ((R19.enc x, []) : Out))
instance : Inj E19 := ⟨fun a b h => by
 simp only [E19, Prod.mk.injEq, and_true] at h
 exact Inj.inj _ _ h⟩
noncomputable def r19 (l0 : List Coded) (b1 : List Int) : Option Out := Rn 19 [(.pv (.lst 2 (List.map Coded.enc l0))), (.pv (.lst 1 (List.map (eInt .u64) b1)))] []
noncomputable def f19 (l0 : List Coded) (b1 : List Int) : Option Int := dec E19 (r19 l0 b1)
theorem s19 {l0 : List Coded} {b1 : List Int} : Imp E19 (r19 l0 b1) (f19 l0 b1) := dec_imp _ _
abbrev E20.T : Type := Int
def E20 : E20.T → Out := (fun x : R20.T => ((R20.enc x, []) : Out))
instance : Inj E20 := ⟨fun a b h => by
 simp only [E20, Prod.mk.injEq, and_true] at h
 exact Inj.inj _ _ h⟩
noncomputable def r20 (l0 : List Coded) (i1 : Int) (j2 : Int) : Option Out := Rn 20 [(.pv (.lst 2 (List.map Coded.enc l0))), (.pv (.int .i64 i1)), (.pv (.int .i64 j2))] []
noncomputable def f20 (l0 : List Coded) (i1 : Int) (j2 : Int) : Option Int := dec E20 (r20 l0 i1 j2)
theorem s20 {l0 : List Coded} {i1 : Int} {j2 : Int} : Imp E20 (r20 l0 i1 j2) (f20 l0 i1 j2) := dec_imp _ _
abbrev E21.T : Type := Int
def E21 : E21.T → Out := (fun x : R21.T => ((R21.enc x, []) : Out))
instance : Inj E21 := ⟨fun a b h => by
 simp only [E21, Prod.mk.injEq, and_true] at h
 exact Inj.inj _ _ h⟩
noncomputable def r21 (l0 : List Coded) (i1 : Int) (j2 : Int) : Option Out := Rn 21 [(.pv (.lst 2 (List.map Coded.enc l0))), (.pv (.int .i64 i1)), (.pv (.int .i64 j2))] []
noncomputable def f21 (l0 : List Coded) (i1 : Int) (j2 : Int) : Option Int := dec E21 (r21 l0 i1 j2)
theorem s21 {l0 : List Coded} {i1 : Int} {j2 : Int} : Imp E21 (r21 l0 i1 j2) (f21 l0 i1 j2) := dec_imp _ _
abbrev E22.T : Type := Int
def E22 : E22.T → Out := (fun x : R22.T => ((R22.enc x, []) : Out))
instance : Inj E22 := ⟨fun a b h => by
 simp only [E22, Prod.mk.injEq, and_true] at h
 exact Inj.inj _ _ h⟩
noncomputable def r22 (l0 : List Coded) (i1 : Int) (j2 : Int) : Option Out := Rn 22 [(.pv (.lst 2 (List.map Coded.enc l0))), (.pv (.int .i64 i1)), (.pv (.int .i64 j2))] []
noncomputable def f22 (l0 : List Coded) (i1 : Int) (j2 : Int) : Option Int := dec E22 (r22 l0 i1 j2)
theorem s22 {l0 : List Coded} {i1 : Int} {j2 : Int} : Imp E22 (r22 l0 i1 j2) (f22 l0 i1 j2) := dec_imp _ _
abbrev E23.T : Type := Int
def E23 : E23.T → Out := (fun x : R23.T => ((R23.enc x, []) : Out))
instance : Inj E23 := ⟨fun a b h => by
 simp only [E23, Prod.mk.injEq, and_true] at h
 exact Inj.inj _ _ h⟩
noncomputable def r23 (l0 : List Coded) (i1 : Int) (j2 : Int) : Option Out := Rn 23 [(.pv (.lst 2 (List.map Coded.enc l0))), (.pv (.int .i64 i1)), (.pv (.int .i64 j2))] []
noncomputable def f23 (l0 : List Coded) (i1 : Int) (j2 : Int) : Option Int := dec E23 (r23 l0 i1 j2)
theorem s23 {l0 : List Coded} {i1 : Int} {j2 : Int} : Imp E23 (r23 l0 i1 j2) (f23 l0 i1 j2) := dec_imp _ _
abbrev E24.T : Type := Bool
def E24 : E24.T → Out := (fun x : R24.T => ((R24.enc x, []) : Out))
instance : Inj E24 := ⟨fun a b h => by
 simp only [E24, Prod.mk.injEq, and_true] at h
 exact Inj.inj _ _ h⟩
noncomputable def r24 (l0 : List Coded) (i1 : Int) (j2 : Int) : Option Out := Rn 24 [(.pv (.lst 2 (List.map Coded.enc l0))), (.pv (.int .i64 i1)), (.pv (.int .i64 j2))] []
noncomputable def f24 (l0 : List Coded) (i1 : Int) (j2 : Int) : Option Bool := dec E24 (r24 l0 i1 j2)
theorem s24 {l0 : List Coded} {i1 : Int} {j2 : Int} : Imp E24 (r24 l0 i1 j2) (f24 l0 i1 j2) := dec_imp _ _
abbrev E25.T : Type := Bool
def E25 : E25.T → Out := (fun x : R25.T => ((R25.enc x, []) : Out))
instance : Inj E25 := ⟨fun a b h => by
 simp only [E25, Prod.mk.injEq, and_true] at h
 exact Inj.inj _ _ h⟩
noncomputable def r25 (l0 : List Coded) (i1 : Int) (j2 : Int) : Option Out := Rn 25 [(.pv (.lst 2 (List.map Coded.enc l0))), (.pv (.int .i64 i1)), (.pv (.int .i64 j2))] []
noncomputable def f25 (l0 : List Coded) (i1 : Int) (j2 : Int) : Option Bool := dec E25 (r25 l0 i1 j2)
theorem s25 {l0 : List Coded} {i1 : Int} {j2 : Int} : Imp E25 (r25 l0 i1 j2) (f25 l0 i1 j2) := dec_imp _ _
abbrev E26.T : Type := Bool
def E26 : E26.T → Out := (fun x : R26.T => ((R26.enc x, []) : Out))
instance : Inj E26 := ⟨fun a b h => by
 simp only [E26, Prod.mk.injEq, and_true] at h
 exact Inj.inj _ _ h⟩
noncomputable def r26 (a0 : List Int) (b1 : List Int) : Option Out := Rn 26 [(.pv (.lst 1 (List.map (eInt .i64) a0))), (.pv (.lst 1 (List.map (eInt .i64) b1)))] []
noncomputable def f26 (a0 : List Int) (b1 : List Int) : Option Bool := dec E26 (r26 a0 b1)
theorem s26 {a0 : List Int} {b1 : List Int} : Imp E26 (r26 a0 b1) (f26 a0 b1) := dec_imp _ _
abbrev E27.T : Type := List Int
def E27 : E27.T → Out := (fun x : R27.T => ((R27.enc x, []) : Out))
instance : Inj E27 := ⟨fun a b h => by
 simp only [E27, Prod.mk.injEq, and_true] at h
 exact Inj.inj _ _ h⟩
noncomputable def r27 (l0 : List Coded) (i1 : Int) : Option Out := Rn 27 [(.pv (.lst 2 (List.map Coded.enc l0))), (.pv (.int .i64 i1))] []
noncomputable def f27 (l0 : List Coded) (i1 : Int) : Option (List Int) := dec E27 (r27 l0 i1)
theorem s27 {l0 : List Coded} {i1 : Int} : Imp E27 (r27 l0 i1) (f27 l0 i1) := dec_imp _ _
abbrev E28.T : Type := List Int
def E28 : E28.T → Out := (fun x : R28.T => ((R28.enc x, []) : Out))
instance : Inj E28 := ⟨fun a b h => by
 simp only [E28, Prod.mk.injEq, and_true] at h
 exact Inj.inj _ _ h⟩
noncomputable def r28 (l0 : List Coded) (i1 : Int) : Option Out := Rn 28 [(.pv (.lst 2 (List.map Coded.enc l0))), (.pv (.int .i64 i1))] []
noncomputable def f28 (l0 : List Coded) (i1 : Int) : Option (List Int) := dec E28 (r28 l0 i1)
theorem s28 {l0 : List Coded} {i1 : Int} : Imp E28 (r28 l0 i1) (f28 l0 i1) := dec_imp _ _
abbrev E29.T : Type := List Int
def E29 : E29.T → Out := (fun x : R29.T => ((R29.enc x, []) : Out))
instance : Inj E29 := ⟨fun a b h => by
 simp only [E29, Prod.mk.injEq, and_true] at h
 exact Inj.inj _ _ h⟩
noncomputable def r29 (a0 : List Int) (b1 : List Int) : Option Out := Rn 29 [(.pv (.lst 1 (List.map (eInt .u64) a0))), (.pv (.lst 1 (List.map (eInt .u64) b1)))] []
noncomputable def f29 (a0 : List Int) (b1 : List Int) : Option (List Int) := dec E29 (r29 a0 b1)
theorem s29 {a0 : List Int} {b1 : List Int} : Imp E29 (r29 a0 b1) (f29 a0 b1) := dec_imp _ _
noncomputable def h29_3 (a0 : List Int) (b1 : List Int) (v14 : Int) (v15 : Int) (o12 : List Int) : Option Out := headT P cods H prim 29 3 [] [(0, (.pv (.lst 1 (List.map (eInt .u64) a0)))), (1, (.pv (.lst 1 (List.map (eInt .u64) b1)))), (5, (.row 12)), (14, (.pv (.int .i64 v14))), (15, (.pv (.int .i64 v15)))] [(12, (.row 37 1 (List.map (eInt .u64) o12)))]
noncomputable def t29_3 (a0 : List Int) (b1 : List Int) (v14 : Int) (v15 : Int) (o12 : List Int) : Option (List Int) := dec E29 (h29_3 a0 b1 v14 v15 o12)
theorem q29_3 {a0 : List Int} {b1 : List Int} {v14 : Int} {v15 : Int} {o12 : List Int} : Imp E29 (h29_3 a0 b1 v14 v15 o12) (t29_3 a0 b1 v14 v15 o12) := dec_imp _ _
abbrev E30.T : Type := Int
def E30 : E30.T → Out := (fun x : R30.T => ((R30.enc x, []) : Out))
instance : Inj E30 := ⟨fun a b h => by
 simp only [E30, Prod.mk.injEq, and_true] at h
 exact Inj.inj _ _ h⟩
noncomputable def r30 (b0 : List Int) : Option Out := Rn 30 [(.pv (.lst 1 (List.map (eInt .u64) b0)))] []
noncomputable def f30 (b0 : List Int) : Option Int := dec E30 (r30 b0)
theorem s30 {b0 : List Int} : Imp E30 (r30 b0) (f30 b0) := dec_imp _ _
noncomputable def h30_3 (n3 : Int) (v6 : List Int) (v7 : Int) (v8 : Int) : Option Out := headT P cods H prim 30 3 [] [(3, (.pv (.int .i64 n3))), (6, (.pv (.lst 1 (List.map (eInt .u64) v6)))), (7, (.pv (.int .i64 v7))), (8, (.pv (.int .i64 v8)))] []
noncomputable def t30_3 (n3 : Int) (v6 : List Int) (v7 : Int) (v8 : Int) : Option Int := dec E30 (h30_3 n3 v6 v7 v8)
theorem q30_3 {n3 : Int} {v6 : List Int} {v7 : Int} {v8 : Int} : Imp E30 (h30_3 n3 v6 v7 v8) (t30_3 n3 v6 v7 v8) := dec_imp _ _
abbrev E31.T : Type := Bool
def E31 : E31.T → Out := (fun x : R31.T => ((R31.enc x, []) : Out))
instance : Inj E31 := ⟨fun a b h => by
 simp only [E31, Prod.mk.injEq, and_true] at h
 exact Inj.inj _ _ h⟩
noncomputable def r31 (a0 : List Int) (b1 : List Int) : Option Out := Rn 31 [(.pv (.lst 1 (List.map (eInt .u64) a0))), (.pv (.lst 1 (List.map (eInt .u64) b1)))] []
noncomputable def f31 (a0 : List Int) (b1 : List Int) : Option Bool := dec E31 (r31 a0 b1)
theorem s31 {a0 : List Int} {b1 : List Int} : Imp E31 (r31 a0 b1) (f31 a0 b1) := dec_imp _ _
abbrev E32.T : Type := Int
def E32 : E32.T → Out := (fun x : R32.T => ((R32.enc x, []) : Out))
instance : Inj E32 := ⟨fun a b h => by
 simp only [E32, Prod.mk.injEq, and_true] at h
 exact Inj.inj _ _ h⟩
noncomputable def r32 (d0 : List TypeDecl) : Option Out := Rn 32 [(.pv (.lst 3 (List.map TypeDecl.enc d0)))] []
noncomputable def f32 (d0 : List TypeDecl) : Option Int := dec E32 (r32 d0)
theorem s32 {d0 : List TypeDecl} : Imp E32 (r32 d0) (f32 d0) := dec_imp _ _
noncomputable def h32_12 (d0 : List TypeDecl) (n6 : Int) (i7 : Int) : Option Out := headT P cods H prim 32 12 [] [(0, (.pv (.lst 3 (List.map TypeDecl.enc d0)))), (6, (.pv (.int .i64 n6))), (7, (.pv (.int .i64 i7)))] []
noncomputable def t32_12 (d0 : List TypeDecl) (n6 : Int) (i7 : Int) : Option Int := dec E32 (h32_12 d0 n6 i7)
theorem q32_12 {d0 : List TypeDecl} {n6 : Int} {i7 : Int} : Imp E32 (h32_12 d0 n6 i7) (t32_12 d0 n6 i7) := dec_imp _ _
abbrev E33.T : Type := Int
def E33 : E33.T → Out := (fun x : R33.T => ((R33.enc x, []) : Out))
instance : Inj E33 := ⟨fun a b h => by
 simp only [E33, Prod.mk.injEq, and_true] at h
 exact Inj.inj _ _ h⟩
noncomputable def r33 (l0 : List Coded) (a1 : Int) (b2 : Int) (c3 : Int) : Option Out := Rn 33 [(.pv (.lst 2 (List.map Coded.enc l0))), (.pv (.int .i64 a1)), (.pv (.int .i64 b2)), (.pv (.int .i64 c3))] []
noncomputable def f33 (l0 : List Coded) (a1 : Int) (b2 : Int) (c3 : Int) : Option Int := dec E33 (r33 l0 a1 b2 c3)
theorem s33 {l0 : List Coded} {a1 : Int} {b2 : Int} {c3 : Int} : Imp E33 (r33 l0 a1 b2 c3) (f33 l0 a1 b2 c3) := dec_imp _ _
abbrev E35.T : Type := List (List UInt8)
def E35 : E35.T → Out := (fun x : R35.T => ((R35.enc x, []) : Out))
instance : Inj E35 := ⟨fun a b h => by
 simp only [E35, Prod.mk.injEq, and_true] at h
 exact Inj.inj _ _ h⟩
noncomputable def r35 (d0 : List TypeDecl) (name1 : List UInt8) : Option Out := Rn 35 [(.pv (.lst 3 (List.map TypeDecl.enc d0))), (.pv (.str name1))] []
noncomputable def f35 (d0 : List TypeDecl) (name1 : List UInt8) : Option (List (List UInt8)) := dec E35 (r35 d0 name1)
theorem s35 {d0 : List TypeDecl} {name1 : List UInt8} : Imp E35 (r35 d0 name1) (f35 d0 name1) := dec_imp _ _
abbrev E36.T : Type := Int
def E36 : E36.T → Out := (fun x : R36.T => ((R36.enc x, []) : Out))
instance : Inj E36 := ⟨fun a b h => by
 simp only [E36, Prod.mk.injEq, and_true] at h
 exact Inj.inj _ _ h⟩
noncomputable def r36 (l0 : List Coded) (name1 : List UInt8) : Option Out := Rn 36 [(.pv (.lst 2 (List.map Coded.enc l0))), (.pv (.str name1))] []
noncomputable def f36 (l0 : List Coded) (name1 : List UInt8) : Option Int := dec E36 (r36 l0 name1)
theorem s36 {l0 : List Coded} {name1 : List UInt8} : Imp E36 (r36 l0 name1) (f36 l0 name1) := dec_imp _ _
noncomputable def h36_2 (l0 : List Coded) (name1 : List UInt8) (v7 : Int) (v8 : Int) : Option Out := headT P cods H prim 36 2 [] [(0, (.pv (.lst 2 (List.map Coded.enc l0)))), (1, (.pv (.str name1))), (7, (.pv (.int .i64 v7))), (8, (.pv (.int .i64 v8)))] []
noncomputable def t36_2 (l0 : List Coded) (name1 : List UInt8) (v7 : Int) (v8 : Int) : Option Int := dec E36 (h36_2 l0 name1 v7 v8)
theorem q36_2 {l0 : List Coded} {name1 : List UInt8} {v7 : Int} {v8 : Int} : Imp E36 (h36_2 l0 name1 v7 v8) (t36_2 l0 name1 v7 v8) := dec_imp _ _
abbrev E37.T : Type := Bool
def E37 : E37.T → Out := (fun x : R37.T => ((R37.enc x, []) : Out))
instance : Inj E37 := ⟨fun a b h => by
 simp only [E37, Prod.mk.injEq, and_true] at h
 exact Inj.inj _ _ h⟩
noncomputable def r37 (l0 : List (List UInt8)) (s1 : List UInt8) : Option Out := Rn 37 [(.pv (.lst 1 (List.map eStr l0))), (.pv (.str s1))] []
noncomputable def f37 (l0 : List (List UInt8)) (s1 : List UInt8) : Option Bool := dec E37 (r37 l0 s1)
theorem s37 {l0 : List (List UInt8)} {s1 : List UInt8} : Imp E37 (r37 l0 s1) (f37 l0 s1) := dec_imp _ _
noncomputable def h37_2 (l0 : List (List UInt8)) (s1 : List UInt8) (i5 : Int) : Option Out := headT P cods H prim 37 2 [] [(0, (.pv (.lst 1 (List.map eStr l0)))), (1, (.pv (.str s1))), (5, (.pv (.int .i64 i5)))] []
noncomputable def t37_2 (l0 : List (List UInt8)) (s1 : List UInt8) (i5 : Int) : Option Bool := dec E37 (h37_2 l0 s1 i5)
theorem q37_2 {l0 : List (List UInt8)} {s1 : List UInt8} {i5 : Int} : Imp E37 (h37_2 l0 s1 i5) (t37_2 l0 s1 i5) := dec_imp _ _
abbrev E38.T : Type := Bool
def E38 : E38.T → Out := (fun x : R38.T => ((R38.enc x, []) : Out))
instance : Inj E38 := ⟨fun a b h => by
 simp only [E38, Prod.mk.injEq, and_true] at h
 exact Inj.inj _ _ h⟩
noncomputable def r38 (d0 : List TypeDecl) : Option Out := Rn 38 [(.pv (.lst 3 (List.map TypeDecl.enc d0)))] []
noncomputable def f38 (d0 : List TypeDecl) : Option Bool := dec E38 (r38 d0)
theorem s38 {d0 : List TypeDecl} : Imp E38 (r38 d0) (f38 d0) := dec_imp _ _
noncomputable def h38_4 (d0 : List TypeDecl) (i3 : Int) : Option Out := headT P cods H prim 38 4 [] [(0, (.pv (.lst 3 (List.map TypeDecl.enc d0)))), (3, (.pv (.int .i64 i3)))] []
noncomputable def t38_4 (d0 : List TypeDecl) (i3 : Int) : Option Bool := dec E38 (h38_4 d0 i3)
theorem q38_4 {d0 : List TypeDecl} {i3 : Int} : Imp E38 (h38_4 d0 i3) (t38_4 d0 i3) := dec_imp _ _
abbrev E39.T : Type := Int
def E39 : E39.T → Out := (fun x : R39.T => ((R39.enc x, []) : Out))
instance : Inj E39 := ⟨fun a b h => by
 simp only [E39, Prod.mk.injEq, and_true] at h
 exact Inj.inj _ _ h⟩
noncomputable def r39 (d0 : List TypeDecl) : Option Out := Rn 39 [(.pv (.lst 3 (List.map TypeDecl.enc d0)))] []
noncomputable def f39 (d0 : List TypeDecl) : Option Int := dec E39 (r39 d0)
theorem s39 {d0 : List TypeDecl} : Imp E39 (r39 d0) (f39 d0) := dec_imp _ _
noncomputable def h39_11 (d0 : List TypeDecl) (tops5 : Int) (v20 : List TypeDecl) (v21 : Int) (v22 : Int) : Option Out := headT P cods H prim 39 11 [] [(0, (.pv (.lst 3 (List.map TypeDecl.enc d0)))), (5, (.pv (.int .i64 tops5))), (20, (.pv (.lst 3 (List.map TypeDecl.enc v20)))), (21, (.pv (.int .i64 v21))), (22, (.pv (.int .i64 v22)))] []
noncomputable def t39_11 (d0 : List TypeDecl) (tops5 : Int) (v20 : List TypeDecl) (v21 : Int) (v22 : Int) : Option Int := dec E39 (h39_11 d0 tops5 v20 v21 v22)
theorem q39_11 {d0 : List TypeDecl} {tops5 : Int} {v20 : List TypeDecl} {v21 : Int} {v22 : Int} : Imp E39 (h39_11 d0 tops5 v20 v21 v22) (t39_11 d0 tops5 v20 v21 v22) := dec_imp _ _
abbrev E40.T : Type := (List (List UInt8)) × (List (List Int))
def E40 : E40.T → Out := (fun x : R40.T => ((R40.enc x, []) : Out))
instance : Inj E40 := ⟨fun a b h => by
 simp only [E40, Prod.mk.injEq, and_true] at h
 exact Inj.inj _ _ h⟩
noncomputable def r40 (d0 : List TypeDecl) : Option Out := Rn 40 [(.pv (.lst 3 (List.map TypeDecl.enc d0)))] []
noncomputable def f40 (d0 : List TypeDecl) : Option ((List (List UInt8)) × (List (List Int))) := dec E40 (r40 d0)
theorem s40 {d0 : List TypeDecl} : Imp E40 (r40 d0) (f40 d0) := dec_imp _ _
noncomputable def h40_3 (d0 : List TypeDecl) (v15 : List TypeDecl) (v16 : Int) (v17 : Int) (o4 : List (List UInt8)) : Option Out := headT P cods H prim 40 3 [] [(0, (.pv (.lst 3 (List.map TypeDecl.enc d0)))), (4, (.row 4)), (15, (.pv (.lst 3 (List.map TypeDecl.enc v15)))), (16, (.pv (.int .i64 v16))), (17, (.pv (.int .i64 v17)))] [(4, (.row 9 1 (List.map eStr o4)))]
noncomputable def t40_3 (d0 : List TypeDecl) (v15 : List TypeDecl) (v16 : Int) (v17 : Int) (o4 : List (List UInt8)) : Option ((List (List UInt8)) × (List (List Int))) := dec E40 (h40_3 d0 v15 v16 v17 o4)
theorem q40_3 {d0 : List TypeDecl} {v15 : List TypeDecl} {v16 : Int} {v17 : Int} {o4 : List (List UInt8)} : Imp E40 (h40_3 d0 v15 v16 v17 o4) (t40_3 d0 v15 v16 v17 o4) := dec_imp _ _
noncomputable def h40_10 (d0 : List TypeDecl) (v33 : Int) (v34 : Int) (o4 : List (List UInt8)) (o31 : List (List Int)) : Option Out := headT P cods H prim 40 10 [] [(0, (.pv (.lst 3 (List.map TypeDecl.enc d0)))), (4, (.row 4)), (7, (.row 31)), (32, (.row 4)), (33, (.pv (.int .i64 v33))), (34, (.pv (.int .i64 v34)))] [(4, (.row 9 1 (List.map eStr o4))), (31, (.row 31 1 (List.map (eLst 1 (eInt .u64)) o31)))]
noncomputable def t40_10 (d0 : List TypeDecl) (v33 : Int) (v34 : Int) (o4 : List (List UInt8)) (o31 : List (List Int)) : Option ((List (List UInt8)) × (List (List Int))) := dec E40 (h40_10 d0 v33 v34 o4 o31)
theorem q40_10 {d0 : List TypeDecl} {v33 : Int} {v34 : Int} {o4 : List (List UInt8)} {o31 : List (List Int)} : Imp E40 (h40_10 d0 v33 v34 o4 o31) (t40_10 d0 v33 v34 o4 o31) := dec_imp _ _
noncomputable def h40_14 (d0 : List TypeDecl) (i8 : Int) (v33 : Int) (v34 : Int) (v41 : List (List UInt8)) (v42 : Int) (v43 : Int) (o4 : List (List UInt8)) (o10 : List Int) (o31 : List (List Int)) : Option Out := headT P cods H prim 40 14 [] [(0, (.pv (.lst 3 (List.map TypeDecl.enc d0)))), (4, (.row 4)), (7, (.row 31)), (8, (.pv (.int .i64 i8))), (10, (.row 10)), (32, (.row 4)), (33, (.pv (.int .i64 v33))), (34, (.pv (.int .i64 v34))), (41, (.pv (.lst 1 (List.map eStr v41)))), (42, (.pv (.int .i64 v42))), (43, (.pv (.int .i64 v43)))] [(4, (.row 9 1 (List.map eStr o4))), (10, (.row 3 1 (List.map (eInt .i64) o10))), (31, (.row 31 1 (List.map (eLst 1 (eInt .u64)) o31)))]
noncomputable def t40_14 (d0 : List TypeDecl) (i8 : Int) (v33 : Int) (v34 : Int) (v41 : List (List UInt8)) (v42 : Int) (v43 : Int) (o4 : List (List UInt8)) (o10 : List Int) (o31 : List (List Int)) : Option ((List (List UInt8)) × (List (List Int))) := dec E40 (h40_14 d0 i8 v33 v34 v41 v42 v43 o4 o10 o31)
theorem q40_14 {d0 : List TypeDecl} {i8 : Int} {v33 : Int} {v34 : Int} {v41 : List (List UInt8)} {v42 : Int} {v43 : Int} {o4 : List (List UInt8)} {o10 : List Int} {o31 : List (List Int)} : Imp E40 (h40_14 d0 i8 v33 v34 v41 v42 v43 o4 o10 o31) (t40_14 d0 i8 v33 v34 v41 v42 v43 o4 o10 o31) := dec_imp _ _
abbrev E41.T : Type := (List (List Int)) × Bool
def E41 : E41.T → Out := (fun x : R41.T => ((R41.enc x, []) : Out))
instance : Inj E41 := ⟨fun a b h => by
 simp only [E41, Prod.mk.injEq, and_true] at h
 exact Inj.inj _ _ h⟩
noncomputable def r41 (codes0 : List (List Int)) : Option Out := Rn 41 [(.pv (.lst 1 (List.map (eLst 1 (eInt .u64)) codes0)))] []
noncomputable def f41 (codes0 : List (List Int)) : Option ((List (List Int)) × Bool) := dec E41 (r41 codes0)
theorem s41 {codes0 : List (List Int)} : Imp E41 (r41 codes0) (f41 codes0) := dec_imp _ _
noncomputable def h41_5 (v13 : List (List Int)) (v14 : Int) (v15 : Int) (o11 : List ((List UInt8) × Bool)) (o5080 : List (List Int)) : Option Out := headT P cods H prim 41 5 [] [(5, (.ptr 5 0)), (6, (.cl 84 [.p 4, .p 5])), (13, (.pv (.lst 1 (List.map (eLst 1 (eInt .u64)) v13)))), (14, (.pv (.int .i64 v14))), (15, (.pv (.int .i64 v15)))] [(4, (.box 98 [(.row 11)])), (5, (.box 64 [(.row 5080)])), (11, (.mp 9 4 (encMap V9 V4 o11).1 (encMap V9 V4 o11).2)), (5080, (.row 31 1 (List.map (eLst 1 (eInt .u64)) o5080)))]
noncomputable def t41_5 (v13 : List (List Int)) (v14 : Int) (v15 : Int) (o11 : List ((List UInt8) × Bool)) (o5080 : List (List Int)) : Option ((List (List Int)) × Bool) := dec E41 (h41_5 v13 v14 v15 o11 o5080)
theorem q41_5 {v13 : List (List Int)} {v14 : Int} {v15 : Int} {o11 : List ((List UInt8) × Bool)} {o5080 : List (List Int)} : Imp E41 (h41_5 v13 v14 v15 o11 o5080) (t41_5 v13 v14 v15 o11 o5080) := dec_imp _ _
noncomputable def h41_10 (i9 : Int) (o11 : List ((List UInt8) × Bool)) (o5080 : List (List Int)) : Option Out := headT P cods H prim 41 10 [] [(5, (.ptr 5 0)), (6, (.cl 84 [.p 4, .p 5])), (9, (.pv (.int .i64 i9)))] [(4, (.box 98 [(.row 11)])), (5, (.box 64 [(.row 5080)])), (11, (.mp 9 4 (encMap V9 V4 o11).1 (encMap V9 V4 o11).2)), (5080, (.row 31 1 (List.map (eLst 1 (eInt .u64)) o5080)))]
noncomputable def t41_10 (i9 : Int) (o11 : List ((List UInt8) × Bool)) (o5080 : List (List Int)) : Option ((List (List Int)) × Bool) := dec E41 (h41_10 i9 o11 o5080)
theorem q41_10 {i9 : Int} {o11 : List ((List UInt8) × Bool)} {o5080 : List (List Int)} : Imp E41 (h41_10 i9 o11 o5080) (t41_10 i9 o11 o5080) := dec_imp _ _
noncomputable def h41_13 (i9 : Int) (k10 : Int) (o11 : List ((List UInt8) × Bool)) (o5080 : List (List Int)) : Option Out := headT P cods H prim 41 13 [] [(5, (.ptr 5 0)), (6, (.cl 84 [.p 4, .p 5])), (9, (.pv (.int .i64 i9))), (10, (.pv (.int .i64 k10)))] [(4, (.box 98 [(.row 11)])), (5, (.box 64 [(.row 5080)])), (11, (.mp 9 4 (encMap V9 V4 o11).1 (encMap V9 V4 o11).2)), (5080, (.row 31 1 (List.map (eLst 1 (eInt .u64)) o5080)))]
noncomputable def t41_13 (i9 : Int) (k10 : Int) (o11 : List ((List UInt8) × Bool)) (o5080 : List (List Int)) : Option ((List (List Int)) × Bool) := dec E41 (h41_13 i9 k10 o11 o5080)
theorem q41_13 {i9 : Int} {k10 : Int} {o11 : List ((List UInt8) × Bool)} {o5080 : List (List Int)} : Imp E41 (h41_13 i9 k10 o11 o5080) (t41_13 i9 k10 o11 o5080) := dec_imp _ _
abbrev E42.T : Type := Int
def E42 : E42.T → Out := (fun x : R42.T => ((R42.enc x, []) : Out))
instance : Inj E42 := ⟨fun a b h => by
 simp only [E42, Prod.mk.injEq, and_true] at h
 exact Inj.inj _ _ h⟩
noncomputable def r42 (l0 : List (List Int)) (is1_0 : List Int) : Option Out := Rn 42 [(.pv (.lst 1 (List.map (eLst 1 (eInt .u64)) l0))), (.pv (.fn 43 [(.ref [(.lst 1 (List.map (eInt .u64) is1_0))])]))] []
noncomputable def f42 (l0 : List (List Int)) (is1_0 : List Int) : Option Int := dec E42 (r42 l0 is1_0)
theorem s42 {l0 : List (List Int)} {is1_0 : List Int} : Imp E42 (r42 l0 is1_0) (f42 l0 is1_0) := dec_imp _ _
noncomputable def h42_2 (is1_0 : List Int) (v7 : List (List Int)) (v8 : Int) (v9 : Int) : Option Out := headT P cods H prim 42 2 [] [(1, (.pv (.fn 43 [(.ref [(.lst 1 (List.map (eInt .u64) is1_0))])]))), (7, (.pv (.lst 1 (List.map (eLst 1 (eInt .u64)) v7)))), (8, (.pv (.int .i64 v8))), (9, (.pv (.int .i64 v9)))] []
noncomputable def t42_2 (is1_0 : List Int) (v7 : List (List Int)) (v8 : Int) (v9 : Int) : Option Int := dec E42 (h42_2 is1_0 v7 v8 v9)
theorem q42_2 {is1_0 : List Int} {v7 : List (List Int)} {v8 : Int} {v9 : Int} : Imp E42 (h42_2 is1_0 v7 v8 v9) (t42_2 is1_0 v7 v8 v9) := dec_imp _ _
abbrev E43.T : Type := Bool
def E43 : E43.T → Out := (fun x : R43.T => ((R43.enc x, []) : Out))
instance : Inj E43 := ⟨fun a b h => by
 simp only [E43, Prod.mk.injEq, and_true] at h
 exact Inj.inj _ _ h⟩
noncomputable def r43 (c0 : List Int) (a1 : List Int) : Option Out := Rn 43 [(.pv (.lst 1 (List.map (eInt .u64) c0))), (.pv (.ref [(.lst 1 (List.map (eInt .u64) a1))]))] []
noncomputable def f43 (c0 : List Int) (a1 : List Int) : Option Bool := dec E43 (r43 c0 a1)
theorem s43 {c0 : List Int} {a1 : List Int} : Imp E43 (r43 c0 a1) (f43 c0 a1) := dec_imp _ _
abbrev E44.T : Type := List Int
def E44 : E44.T → Out := (fun x : R44.T => ((R44.enc x, []) : Out))
instance : Inj E44 := ⟨fun a b h => by
 simp only [E44, Prod.mk.injEq, and_true] at h
 exact Inj.inj _ _ h⟩
noncomputable def r44 (b0 : List Int) : Option Out := Rn 44 [(.pv (.lst 1 (List.map (eInt .u64) b0)))] []
noncomputable def f44 (b0 : List Int) : Option (List Int) := dec E44 (r44 b0)
theorem s44 {b0 : List Int} : Imp E44 (r44 b0) (f44 b0) := dec_imp _ _
noncomputable def h44_3 (v6 : List Int) (v7 : Int) (v8 : Int) (o3 : List Int) : Option Out := headT P cods H prim 44 3 [] [(3, (.row 3)), (6, (.pv (.lst 1 (List.map (eInt .u64) v6)))), (7, (.pv (.int .i64 v7))), (8, (.pv (.int .i64 v8)))] [(3, (.row 3 1 (List.map (eInt .i64) o3)))]
noncomputable def t44_3 (v6 : List Int) (v7 : Int) (v8 : Int) (o3 : List Int) : Option (List Int) := dec E44 (h44_3 v6 v7 v8 o3)
theorem q44_3 {v6 : List Int} {v7 : Int} {v8 : Int} {o3 : List Int} : Imp E44 (h44_3 v6 v7 v8 o3) (t44_3 v6 v7 v8 o3) := dec_imp _ _
noncomputable def h44_5 (i4 : Int) (w5 : Int) (v6 : List Int) (v7 : Int) (v8 : Int) (o3 : List Int) : Option Out := headT P cods H prim 44 5 [] [(3, (.row 3)), (4, (.pv (.int .i64 i4))), (5, (.pv (.int .u64 w5))), (6, (.pv (.lst 1 (List.map (eInt .u64) v6)))), (7, (.pv (.int .i64 v7))), (8, (.pv (.int .i64 v8)))] [(3, (.row 3 1 (List.map (eInt .i64) o3)))]
noncomputable def t44_5 (i4 : Int) (w5 : Int) (v6 : List Int) (v7 : Int) (v8 : Int) (o3 : List Int) : Option (List Int) := dec E44 (h44_5 i4 w5 v6 v7 v8 o3)
theorem q44_5 {i4 : Int} {w5 : Int} {v6 : List Int} {v7 : Int} {v8 : Int} {o3 : List Int} : Imp E44 (h44_5 i4 w5 v6 v7 v8 o3) (t44_5 i4 w5 v6 v7 v8 o3) := dec_imp _ _
abbrev E45.T : Type := List UInt8
def E45 : E45.T → Out := (fun x : R45.T => ((R45.enc x, []) : Out))
instance : Inj E45 := ⟨fun a b h => by
 simp only [E45, Prod.mk.injEq, and_true] at h
 exact Inj.inj _ _ h⟩
noncomputable def r45 (elems0 : List (List UInt8)) (sep1 : List UInt8) : Option Out := Rn 45 [(.pv (.lst 1 (List.map eStr elems0))), (.pv (.str sep1))] []
noncomputable def f45 (elems0 : List (List UInt8)) (sep1 : List UInt8) : Option (List UInt8) := dec E45 (r45 elems0 sep1)
theorem s45 {elems0 : List (List UInt8)} {sep1 : List UInt8} : Imp E45 (r45 elems0 sep1) (f45 elems0 sep1) := dec_imp _ _
abbrev E46.T : Type := List (List UInt8)
def E46 : E46.T → Out := (fun x : R46.T => ((R46.enc x, []) : Out))
instance : Inj E46 := ⟨fun a b h => by
 simp only [E46, Prod.mk.injEq, and_true] at h
 exact Inj.inj _ _ h⟩
noncomputable def r46 (d0 : List TypeDecl) (names1 : List (List UInt8)) : Option Out := Rn 46 [(.pv (.lst 3 (List.map TypeDecl.enc d0))), (.pv (.lst 1 (List.map eStr names1)))] []
noncomputable def f46 (d0 : List TypeDecl) (names1 : List (List UInt8)) : Option (List (List UInt8)) := dec E46 (r46 d0 names1)
theorem s46 {d0 : List TypeDecl} {names1 : List (List UInt8)} : Imp E46 (r46 d0 names1) (f46 d0 names1) := dec_imp _ _
noncomputable def h46_5 (l5 : List (List UInt8)) (to6 : List ((List UInt8) × (List (List UInt8)))) (v17 : List (List UInt8)) (v18 : Int) (v19 : Int) (o7 : List (List UInt8)) : Option Out := headT P cods H prim 46 5 [] [(5, (.pv (.lst 1 (List.map eStr l5)))), (6, (.pv (.mp (encMap V9 V54 to6).1 (encMap V9 V54 to6).2))), (7, (.row 7)), (17, (.pv (.lst 1 (List.map eStr v17)))), (18, (.pv (.int .i64 v18))), (19, (.pv (.int .i64 v19)))] [(7, (.row 9 1 (List.map eStr o7)))]
noncomputable def t46_5 (l5 : List (List UInt8)) (to6 : List ((List UInt8) × (List (List UInt8)))) (v17 : List (List UInt8)) (v18 : Int) (v19 : Int) (o7 : List (List UInt8)) : Option (List (List UInt8)) := dec E46 (h46_5 l5 to6 v17 v18 v19 o7)
theorem q46_5 {l5 : List (List UInt8)} {to6 : List ((List UInt8) × (List (List UInt8)))} {v17 : List (List UInt8)} {v18 : Int} {v19 : Int} {o7 : List (List UInt8)} : Imp E46 (h46_5 l5 to6 v17 v18 v19 o7) (t46_5 l5 to6 v17 v18 v19 o7) := dec_imp _ _
abbrev E47r.T : Type := Unit × (List Coded)
def E47r : E47r.T → Out := (fun x : Unit × (List Coded) => ((R47.enc x.1, [(10000, .row 36 2 (List.map Coded.enc x.2))]) : Out))
instance : Inj E47r := ⟨fun a b h => by
 obtain ⟨a0, a1⟩ := a
 obtain ⟨b0, b1⟩ := b
 simp only [E47r, Prod.mk.injEq, List.cons.injEq, Ob.row.injEq, Ob.mp.injEq, and_true, true_and] at h
 have h0 : a0 = b0 := rfl
 have h1 := h
 rw [h0, map_inj Inj.inj _ _ h1]⟩
noncomputable def r47 (w10000 : List Coded) : Option Out := Rn 47 [(.row 10000), (.pv (.fn 48 []))] [(10000, (.row 36 2 (List.map Coded.enc w10000)))]
noncomputable def f47 (w10000 : List Coded) : Option (Unit × (List Coded)) := dec E47r (r47 w10000)
theorem s47 {w10000 : List Coded} : Imp E47r (r47 w10000) (f47 w10000) := dec_imp _ _
abbrev E52.T : Type := List (List UInt8)
def E52 : E52.T → Out := (fun x : R52.T => ((R52.enc x, []) : Out))
instance : Inj E52 := ⟨fun a b h => by
 simp only [E52, Prod.mk.injEq, and_true] at h
 exact Inj.inj _ _ h⟩
noncomputable def r52 (d0 : List TypeDecl) : Option Out := Rn 52 [(.pv (.lst 3 (List.map TypeDecl.enc d0)))] []
noncomputable def f52 (d0 : List TypeDecl) : Option (List (List UInt8)) := dec E52 (r52 d0)
theorem s52 {d0 : List TypeDecl} : Imp E52 (r52 d0) (f52 d0) := dec_imp _ _
noncomputable def h52_3 (d0 : List TypeDecl) (out3 : List (List UInt8)) (i4 : Int) : Option Out := headT P cods H prim 52 3 [] [(0, (.pv (.lst 3 (List.map TypeDecl.enc d0)))), (3, (.pv (.lst 1 (List.map eStr out3)))), (4, (.pv (.int .i64 i4)))] []
noncomputable def t52_3 (d0 : List TypeDecl) (out3 : List (List UInt8)) (i4 : Int) : Option (List (List UInt8)) := dec E52 (h52_3 d0 out3 i4)
theorem q52_3 {d0 : List TypeDecl} {out3 : List (List UInt8)} {i4 : Int} : Imp E52 (h52_3 d0 out3 i4) (t52_3 d0 out3 i4) := dec_imp _ _
abbrev E53.T : Type := List Int
def E53 : E53.T → Out := (fun x : R53.T => ((R53.enc x, []) : Out))
instance : Inj E53 := ⟨fun a b h => by
 simp only [E53, Prod.mk.injEq, and_true] at h
 exact Inj.inj _ _ h⟩
noncomputable def r53 (d0 : List TypeDecl) (all1 : List (List UInt8)) (name2 : List UInt8) : Option Out := Rn 53 [(.pv (.lst 3 (List.map TypeDecl.enc d0))), (.pv (.lst 1 (List.map eStr all1))), (.pv (.str name2))] []
noncomputable def f53 (d0 : List TypeDecl) (all1 : List (List UInt8)) (name2 : List UInt8) : Option (List Int) := dec E53 (r53 d0 all1 name2)
theorem s53 {d0 : List TypeDecl} {all1 : List (List UInt8)} {name2 : List UInt8} : Imp E53 (r53 d0 all1 name2) (f53 d0 all1 name2) := dec_imp _ _
noncomputable def h53_4 (all1 : List (List UInt8)) (low7 : List (List UInt8)) (i9 : Int) (o8 : List Int) : Option Out := headT P cods H prim 53 4 [] [(1, (.pv (.lst 1 (List.map eStr all1)))), (7, (.pv (.lst 1 (List.map eStr low7)))), (8, (.row 8)), (9, (.pv (.int .i64 i9)))] [(8, (.row 3 1 (List.map (eInt .i64) o8)))]
noncomputable def t53_4 (all1 : List (List UInt8)) (low7 : List (List UInt8)) (i9 : Int) (o8 : List Int) : Option (List Int) := dec E53 (h53_4 all1 low7 i9 o8)
theorem q53_4 {all1 : List (List UInt8)} {low7 : List (List UInt8)} {i9 : Int} {o8 : List Int} : Imp E53 (h53_4 all1 low7 i9 o8) (t53_4 all1 low7 i9 o8) := dec_imp _ _
abbrev E54.T : Type := List (List Int)
def E54 : E54.T → Out := (fun x : R54.T => ((R54.enc x, []) : Out))
instance : Inj E54 := ⟨fun a b h => by
 simp only [E54, Prod.mk.injEq, and_true] at h
 exact Inj.inj _ _ h⟩
noncomputable def r54 (codes0 : List (List Int)) : Option Out := Rn 54 [(.pv (.lst 1 (List.map (eLst 1 (eInt .u64)) codes0)))] []
noncomputable def f54 (codes0 : List (List Int)) : Option (List (List Int)) := dec E54 (r54 codes0)
theorem s54 {codes0 : List (List Int)} : Imp E54 (r54 codes0) (f54 codes0) := dec_imp _ _
noncomputable def h54_3 (i4 : Int) (o7 : List (List Int)) : Option Out := headT P cods H prim 54 3 [] [(3, (.row 7)), (4, (.pv (.int .i64 i4)))] [(7, (.row 31 1 (List.map (eLst 1 (eInt .u64)) o7)))]
noncomputable def t54_3 (i4 : Int) (o7 : List (List Int)) : Option (List (List Int)) := dec E54 (h54_3 i4 o7)
theorem q54_3 {i4 : Int} {o7 : List (List Int)} : Imp E54 (h54_3 i4 o7) (t54_3 i4 o7) := dec_imp _ _
noncomputable def h54_6 (i4 : Int) (k5 : Int) (o7 : List (List Int)) : Option Out := headT P cods H prim 54 6 [] [(3, (.row 7)), (4, (.pv (.int .i64 i4))), (5, (.pv (.int .i64 k5)))] [(7, (.row 31 1 (List.map (eLst 1 (eInt .u64)) o7)))]
noncomputable def t54_6 (i4 : Int) (k5 : Int) (o7 : List (List Int)) : Option (List (List Int)) := dec E54 (h54_6 i4 k5 o7)
theorem q54_6 {i4 : Int} {k5 : Int} {o7 : List (List Int)} : Imp E54 (h54_6 i4 k5 o7) (t54_6 i4 k5 o7) := dec_imp _ _
abbrev E55.T : Type := List UInt8
def E55 : E55.T → Out := (fun x : R55.T => ((R55.enc x, []) : Out))
instance : Inj E55 := ⟨fun a b h => by
 simp only [E55, Prod.mk.injEq, and_true] at h
 exact Inj.inj _ _ h⟩
noncomputable def r55 (d0 : List TypeDecl) (all1 : List (List UInt8)) (codes2 : List (List Int)) (b3 : List Int) : Option Out := Rn 55 [(.pv (.lst 3 (List.map TypeDecl.enc d0))), (.pv (.lst 1 (List.map eStr all1))), (.pv (.lst 1 (List.map (eLst 1 (eInt .u64)) codes2))), (.pv (.lst 1 (List.map (eInt .u64) b3)))] []
noncomputable def f55 (d0 : List TypeDecl) (all1 : List (List UInt8)) (codes2 : List (List Int)) (b3 : List Int) : Option (List UInt8) := dec E55 (r55 d0 all1 codes2 b3)
theorem s55 {d0 : List TypeDecl} {all1 : List (List UInt8)} {codes2 : List (List Int)} {b3 : List Int} : Imp E55 (r55 d0 all1 codes2 b3) (f55 d0 all1 codes2 b3) := dec_imp _ _
noncomputable def h55_3 (d0 : List TypeDecl) (all1 : List (List UInt8)) (codes2 : List (List Int)) (b3 : List Int) (i10 : Int) (o9 : List (List UInt8)) : Option Out := headT P cods H prim 55 3 [] [(0, (.pv (.lst 3 (List.map TypeDecl.enc d0)))), (1, (.pv (.lst 1 (List.map eStr all1)))), (2, (.pv (.lst 1 (List.map (eLst 1 (eInt .u64)) codes2)))), (3, (.pv (.lst 1 (List.map (eInt .u64) b3)))), (9, (.row 9)), (10, (.pv (.int .i64 i10)))] [(9, (.row 9 1 (List.map eStr o9)))]
noncomputable def t55_3 (d0 : List TypeDecl) (all1 : List (List UInt8)) (codes2 : List (List Int)) (b3 : List Int) (i10 : Int) (o9 : List (List UInt8)) : Option (List UInt8) := dec E55 (h55_3 d0 all1 codes2 b3 i10 o9)
theorem q55_3 {d0 : List TypeDecl} {all1 : List (List UInt8)} {codes2 : List (List Int)} {b3 : List Int} {i10 : Int} {o9 : List (List UInt8)} : Imp E55 (h55_3 d0 all1 codes2 b3 i10 o9) (t55_3 d0 all1 codes2 b3 i10 o9) := dec_imp _ _
noncomputable def h55_12 (l9 : List (List UInt8)) (s11 : List UInt8) (i12 : Int) : Option Out := headT P cods H prim 55 12 [] [(9, (.pv (.lst 1 (List.map eStr l9)))), (11, (.pv (.str s11))), (12, (.pv (.int .i64 i12)))] []
noncomputable def t55_12 (l9 : List (List UInt8)) (s11 : List UInt8) (i12 : Int) : Option (List UInt8) := dec E55 (h55_12 l9 s11 i12)
theorem q55_12 {l9 : List (List UInt8)} {s11 : List UInt8} {i12 : Int} : Imp E55 (h55_12 l9 s11 i12) (t55_12 l9 s11 i12) := dec_imp _ _
abbrev E56.T : Type := Bool
def E56 : E56.T → Out := (fun x : R56.T => ((R56.enc x, []) : Out))
instance : Inj E56 := ⟨fun a b h => by
 simp only [E56, Prod.mk.injEq, and_true] at h
 exact Inj.inj _ _ h⟩
noncomputable def r56 (a0 : Coded) (b1 : Coded) : Option Out := Rn 56 [(.pv (.agg (Coded.enc a0))), (.pv (.agg (Coded.enc b1)))] []
noncomputable def f56 (a0 : Coded) (b1 : Coded) : Option Bool := dec E56 (r56 a0 b1)
theorem s56 {a0 : Coded} {b1 : Coded} : Imp E56 (r56 a0 b1) (f56 a0 b1) := dec_imp _ _
abbrev E57.T : Type := Bool
def E57 : E57.T → Out := (fun x : R57.T => ((R57.enc x, []) : Out))
instance : Inj E57 := ⟨fun a b h => by
 simp only [E57, Prod.mk.injEq, and_true] at h
 exact Inj.inj _ _ h⟩
noncomputable def r57 (a0 : List Int) (b1 : List Int) : Option Out := Rn 57 [(.pv (.lst 1 (List.map (eInt .u64) a0))), (.pv (.lst 1 (List.map (eInt .u64) b1)))] []
noncomputable def f57 (a0 : List Int) (b1 : List Int) : Option Bool := dec E57 (r57 a0 b1)
theorem s57 {a0 : List Int} {b1 : List Int} : Imp E57 (r57 a0 b1) (f57 a0 b1) := dec_imp _ _
noncomputable def h57_4 (a0 : List Int) (b1 : List Int) (i5 : Int) : Option Out := headT P cods H prim 57 4 [] [(0, (.pv (.lst 1 (List.map (eInt .u64) a0)))), (1, (.pv (.lst 1 (List.map (eInt .u64) b1)))), (5, (.pv (.int .i64 i5)))] []
noncomputable def t57_4 (a0 : List Int) (b1 : List Int) (i5 : Int) : Option Bool := dec E57 (h57_4 a0 b1 i5)
theorem q57_4 {a0 : List Int} {b1 : List Int} {i5 : Int} : Imp E57 (h57_4 a0 b1 i5) (t57_4 a0 b1 i5) := dec_imp _ _
abbrev E58.T : Type := Int
def E58 : E58.T → Out := (fun x : R58.T => ((R58.enc x, []) : Out))
instance : Inj E58 := ⟨fun a b h => by
 simp only [E58, Prod.mk.injEq, and_true] at h
 exact Inj.inj _ _ h⟩
noncomputable def r58 (l0 : List Coded) (is1_0 : List Int) : Option Out := Rn 58 [(.pv (.lst 2 (List.map Coded.enc l0))), (.pv (.fn 59 [(.ref [(.lst 1 (List.map (eInt .u64) is1_0))])]))] []
noncomputable def f58 (l0 : List Coded) (is1_0 : List Int) : Option Int := dec E58 (r58 l0 is1_0)
theorem s58 {l0 : List Coded} {is1_0 : List Int} : Imp E58 (r58 l0 is1_0) (f58 l0 is1_0) := dec_imp _ _
noncomputable def h58_2 (is1_0 : List Int) (v7 : List Coded) (v8 : Int) (v9 : Int) : Option Out := headT P cods H prim 58 2 [] [(1, (.pv (.fn 59 [(.ref [(.lst 1 (List.map (eInt .u64) is1_0))])]))), (7, (.pv (.lst 2 (List.map Coded.enc v7)))), (8, (.pv (.int .i64 v8))), (9, (.pv (.int .i64 v9)))] []
noncomputable def t58_2 (is1_0 : List Int) (v7 : List Coded) (v8 : Int) (v9 : Int) : Option Int := dec E58 (h58_2 is1_0 v7 v8 v9)
theorem q58_2 {is1_0 : List Int} {v7 : List Coded} {v8 : Int} {v9 : Int} : Imp E58 (h58_2 is1_0 v7 v8 v9) (t58_2 is1_0 v7 v8 v9) := dec_imp _ _
abbrev E59.T : Type := Bool
def E59 : E59.T → Out := (fun x : R59.T => ((R59.enc x, []) : Out))
instance : Inj E59 := ⟨fun a b h => by
 simp only [E59, Prod.mk.injEq, and_true] at h
 exact Inj.inj _ _ h⟩
noncomputable def r59 (x0 : Coded) (a1 : List Int) : Option Out := Rn 59 [(.pv (.agg (Coded.enc x0))), (.pv (.ref [(.lst 1 (List.map (eInt .u64) a1))]))] []
noncomputable def f59 (x0 : Coded) (a1 : List Int) : Option Bool := dec E59 (r59 x0 a1)
theorem s59 {x0 : Coded} {a1 : List Int} : Imp E59 (r59 x0 a1) (f59 x0 a1) := dec_imp _ _
abbrev E60.T : Type := List Int
def E60 : E60.T → Out := (fun x : R60.T => ((R60.enc x, []) : Out))
instance : Inj E60 := ⟨fun a b h => by
 simp only [E60, Prod.mk.injEq, and_true] at h
 exact Inj.inj _ _ h⟩
noncomputable def r60 (b0 : List Int) : Option Out := Rn 60 [(.pv (.lst 1 (List.map (eInt .u64) b0)))] []
noncomputable def f60 (b0 : List Int) : Option (List Int) := dec E60 (r60 b0)
theorem s60 {b0 : List Int} : Imp E60 (r60 b0) (f60 b0) := dec_imp _ _
noncomputable def h60_2 (b0 : List Int) (n3 : Int) : Option Out := headT P cods H prim 60 2 [] [(0, (.pv (.lst 1 (List.map (eInt .u64) b0)))), (3, (.pv (.int .i64 n3)))] []
noncomputable def t60_2 (b0 : List Int) (n3 : Int) : Option (List Int) := dec E60 (h60_2 b0 n3)
theorem q60_2 {b0 : List Int} {n3 : Int} : Imp E60 (h60_2 b0 n3) (t60_2 b0 n3) := dec_imp _ _
abbrev E61.T : Type := List Int
def E61 : E61.T → Out := (fun x : R61.T => ((R61.enc x, []) : Out))
instance : Inj E61 := ⟨fun a b h => by
 simp only [E61, Prod.mk.injEq, and_true] at h
 exact Inj.inj _ _ h⟩
noncomputable def r61 (a0 : List Int) (b1 : List Int) : Option Out := Rn 61 [(.pv (.lst 1 (List.map (eInt .u64) a0))), (.pv (.lst 1 (List.map (eInt .u64) b1)))] []
noncomputable def f61 (a0 : List Int) (b1 : List Int) : Option (List Int) := dec E61 (r61 a0 b1)
theorem s61 {a0 : List Int} {b1 : List Int} : Imp E61 (r61 a0 b1) (f61 a0 b1) := dec_imp _ _
noncomputable def h61_3 (a0 : List Int) (b1 : List Int) (i6 : Int) (o5 : List Int) : Option Out := headT P cods H prim 61 3 [] [(0, (.pv (.lst 1 (List.map (eInt .u64) a0)))), (1, (.pv (.lst 1 (List.map (eInt .u64) b1)))), (5, (.row 5)), (6, (.pv (.int .i64 i6)))] [(5, (.row 37 1 (List.map (eInt .u64) o5)))]
noncomputable def t61_3 (a0 : List Int) (b1 : List Int) (i6 : Int) (o5 : List Int) : Option (List Int) := dec E61 (h61_3 a0 b1 i6 o5)
theorem q61_3 {a0 : List Int} {b1 : List Int} {i6 : Int} {o5 : List Int} : Imp E61 (h61_3 a0 b1 i6 o5) (t61_3 a0 b1 i6 o5) := dec_imp _ _
abbrev E62.T : Type := List Int
def E62 : E62.T → Out := (fun x : R62.T => ((R62.enc x, []) : Out))
instance : Inj E62 := ⟨fun a b h => by
 simp only [E62, Prod.mk.injEq, and_true] at h
 exact Inj.inj _ _ h⟩
abbrev E63.T : Type := Bool
def E63 : E63.T → Out := (fun x : R63.T => ((R63.enc x, []) : Out))
instance : Inj E63 := ⟨fun a b h => by
 simp only [E63, Prod.mk.injEq, and_true] at h
 exact Inj.inj _ _ h⟩
noncomputable def r63 (a0 : List Int) (b1 : List Int) : Option Out := Rn 63 [(.pv (.lst 1 (List.map (eInt .u64) a0))), (.pv (.lst 1 (List.map (eInt .u64) b1)))] []
noncomputable def f63 (a0 : List Int) (b1 : List Int) : Option Bool := dec E63 (r63 a0 b1)
theorem s63 {a0 : List Int} {b1 : List Int} : Imp E63 (r63 a0 b1) (f63 a0 b1) := dec_imp _ _
noncomputable def h63_2 (b1 : List Int) (v7 : List Int) (v8 : Int) (v9 : Int) : Option Out := headT P cods H prim 63 2 [] [(1, (.pv (.lst 1 (List.map (eInt .u64) b1)))), (7, (.pv (.lst 1 (List.map (eInt .u64) v7)))), (8, (.pv (.int .i64 v8))), (9, (.pv (.int .i64 v9)))] []
noncomputable def t63_2 (b1 : List Int) (v7 : List Int) (v8 : Int) (v9 : Int) : Option Bool := dec E63 (h63_2 b1 v7 v8 v9)
theorem q63_2 {b1 : List Int} {v7 : List Int} {v8 : Int} {v9 : Int} : Imp E63 (h63_2 b1 v7 v8 v9) (t63_2 b1 v7 v8 v9) := dec_imp _ _
abbrev E64.T : Type := List Int
def E64 : E64.T → Out := (fun x : R64.T => ((R64.enc x, []) : Out))
instance : Inj E64 := ⟨fun a b h => by
 simp only [E64, Prod.mk.injEq, and_true] at h
 exact Inj.inj _ _ h⟩
noncomputable def h64_3 (a0 : List Int) (b1 : List Int) (i6 : Int) (o5 : List Int) : Option Out := headT P cods H prim 64 3 [] [(0, (.pv (.lst 1 (List.map (eInt .u64) a0)))), (1, (.pv (.lst 1 (List.map (eInt .u64) b1)))), (5, (.row 5)), (6, (.pv (.int .i64 i6)))] [(5, (.row 37 1 (List.map (eInt .u64) o5)))]
noncomputable def t64_3 (a0 : List Int) (b1 : List Int) (i6 : Int) (o5 : List Int) : Option (List Int) := dec E64 (h64_3 a0 b1 i6 o5)
theorem q64_3 {a0 : List Int} {b1 : List Int} {i6 : Int} {o5 : List Int} : Imp E64 (h64_3 a0 b1 i6 o5) (t64_3 a0 b1 i6 o5) := dec_imp _ _
abbrev E65.T : Type := Bool
def E65 : E65.T → Out := (fun x : R65.T => ((R65.enc x, []) : Out))
instance : Inj E65 := ⟨fun a b h => by
 simp only [E65, Prod.mk.injEq, and_true] at h
 exact Inj.inj _ _ h⟩
noncomputable def r65 (a0 : List Int) (b1 : List Int) : Option Out := Rn 65 [(.pv (.lst 1 (List.map (eInt .u64) a0))), (.pv (.lst 1 (List.map (eInt .u64) b1)))] []
noncomputable def f65 (a0 : List Int) (b1 : List Int) : Option Bool := dec E65 (r65 a0 b1)
theorem s65 {a0 : List Int} {b1 : List Int} : Imp E65 (r65 a0 b1) (f65 a0 b1) := dec_imp _ _
abbrev E66.T : Type := Bool
def E66 : E66.T → Out := (fun x : R66.T => ((R66.enc x, []) : Out))
instance : Inj E66 := ⟨fun a b h => by
 simp only [E66, Prod.mk.injEq, and_true] at h
 exact Inj.inj _ _ h⟩
abbrev E67.T : Type := Bool
def E67 : E67.T → Out := (fun x : R67.T => ((R67.enc x, []) : Out))
instance : Inj E67 := ⟨fun a b h => by
 simp only [E67, Prod.mk.injEq, and_true] at h
 exact Inj.inj _ _ h⟩
abbrev E68.T : Type := List Int
def E68 : E68.T → Out := (fun x : R68.T => ((R68.enc x, []) : Out))
instance : Inj E68 := ⟨fun a b h => by
 simp only [E68, Prod.mk.injEq, and_true] at h
 exact Inj.inj _ _ h⟩
noncomputable def r68 (b0 : List Int) : Option Out := Rn 68 [(.pv (.lst 1 (List.map (eInt .u64) b0)))] []
noncomputable def f68 (b0 : List Int) : Option (List Int) := dec E68 (r68 b0)
theorem s68 {b0 : List Int} : Imp E68 (r68 b0) (f68 b0) := dec_imp _ _
noncomputable def h68_2 (b0 : List Int) (n3 : Int) : Option Out := headT P cods H prim 68 2 [] [(0, (.pv (.lst 1 (List.map (eInt .u64) b0)))), (3, (.pv (.int .i64 n3)))] []
noncomputable def t68_2 (b0 : List Int) (n3 : Int) : Option (List Int) := dec E68 (h68_2 b0 n3)
theorem q68_2 {b0 : List Int} {n3 : Int} : Imp E68 (h68_2 b0 n3) (t68_2 b0 n3) := dec_imp _ _
abbrev E69.T : Type := Int
def E69 : E69.T → Out := (fun x : R69.T => ((R69.enc x, []) : Out))
instance : Inj E69 := ⟨fun a b h => by
 simp only [E69, Prod.mk.injEq, and_true] at h
 exact Inj.inj _ _ h⟩
noncomputable def r69 (x0 : Int) : Option Out := Rn 69 [(.pv (.int .u64 x0))] []
noncomputable def f69 (x0 : Int) : Option Int := dec E69 (r69 x0)
theorem s69 {x0 : Int} : Imp E69 (r69 x0) (f69 x0) := dec_imp _ _
abbrev E70.T : Type := Int
def E70 : E70.T → Out := (fun x : R70.T => ((R70.enc x, []) : Out))
instance : Inj E70 := ⟨fun a b h => by
 simp only [E70, Prod.mk.injEq, and_true] at h
 exact Inj.inj _ _ h⟩
noncomputable def r70 (d0 : List TypeDecl) : Option Out := Rn 70 [(.pv (.lst 3 (List.map TypeDecl.enc d0)))] []
noncomputable def f70 (d0 : List TypeDecl) : Option Int := dec E70 (r70 d0)
theorem s70 {d0 : List TypeDecl} : Imp E70 (r70 d0) (f70 d0) := dec_imp _ _
noncomputable def h70_4 (d0 : List TypeDecl) (i3 : Int) : Option Out := headT P cods H prim 70 4 [] [(0, (.pv (.lst 3 (List.map TypeDecl.enc d0)))), (3, (.pv (.int .i64 i3)))] []
noncomputable def t70_4 (d0 : List TypeDecl) (i3 : Int) : Option Int := dec E70 (h70_4 d0 i3)
theorem q70_4 {d0 : List TypeDecl} {i3 : Int} : Imp E70 (h70_4 d0 i3) (t70_4 d0 i3) := dec_imp _ _
abbrev E71.T : Type := Int
def E71 : E71.T → Out := (fun x : R71.T => ((R71.enc x, []) : Out))
instance : Inj E71 := ⟨fun a b h => by
 simp only [E71, Prod.mk.injEq, and_true] at h
 exact Inj.inj _ _ h⟩
noncomputable def r71 (d0 : List TypeDecl) : Option Out := Rn 71 [(.pv (.lst 3 (List.map TypeDecl.enc d0)))] []
noncomputable def f71 (d0 : List TypeDecl) : Option Int := dec E71 (r71 d0)
theorem s71 {d0 : List TypeDecl} : Imp E71 (r71 d0) (f71 d0) := dec_imp _ _
noncomputable def h71_2 (d0 : List TypeDecl) (i3 : Int) : Option Out := headT P cods H prim 71 2 [] [(0, (.pv (.lst 3 (List.map TypeDecl.enc d0)))), (3, (.pv (.int .i64 i3)))] []
noncomputable def t71_2 (d0 : List TypeDecl) (i3 : Int) : Option Int := dec E71 (h71_2 d0 i3)
theorem q71_2 {d0 : List TypeDecl} {i3 : Int} : Imp E71 (h71_2 d0 i3) (t71_2 d0 i3) := dec_imp _ _
abbrev E72.T : Type := Int
def E72 : E72.T → Out := (fun x : R72.T => ((R72.enc x, []) : Out))
instance : Inj E72 := ⟨fun a b h => by
 simp only [E72, Prod.mk.injEq, and_true] at h
 exact Inj.inj _ _ h⟩
noncomputable def r72 (d0 : List TypeDecl) : Option Out := Rn 72 [(.pv (.lst 3 (List.map TypeDecl.enc d0)))] []
noncomputable def f72 (d0 : List TypeDecl) : Option Int := dec E72 (r72 d0)
theorem s72 {d0 : List TypeDecl} : Imp E72 (r72 d0) (f72 d0) := dec_imp _ _
noncomputable def h72_2 (d0 : List TypeDecl) (i3 : Int) : Option Out := headT P cods H prim 72 2 [] [(0, (.pv (.lst 3 (List.map TypeDecl.enc d0)))), (3, (.pv (.int .i64 i3)))] []
noncomputable def t72_2 (d0 : List TypeDecl) (i3 : Int) : Option Int := dec E72 (h72_2 d0 i3)
theorem q72_2 {d0 : List TypeDecl} {i3 : Int} : Imp E72 (h72_2 d0 i3) (t72_2 d0 i3) := dec_imp _ _
noncomputable def h72_6 (d0 : List TypeDecl) (i3 : Int) (l4 : List (List UInt8)) (k5 : Int) : Option Out := headT P cods H prim 72 6 [] [(0, (.pv (.lst 3 (List.map TypeDecl.enc d0)))), (3, (.pv (.int .i64 i3))), (4, (.pv (.lst 1 (List.map eStr l4)))), (5, (.pv (.int .i64 k5)))] []
noncomputable def t72_6 (d0 : List TypeDecl) (i3 : Int) (l4 : List (List UInt8)) (k5 : Int) : Option Int := dec E72 (h72_6 d0 i3 l4 k5)
theorem q72_6 {d0 : List TypeDecl} {i3 : Int} {l4 : List (List UInt8)} {k5 : Int} : Imp E72 (h72_6 d0 i3 l4 k5) (t72_6 d0 i3 l4 k5) := dec_imp _ _
abbrev E73.T : Type := List (List UInt8)
def E73 : E73.T → Out := (fun x : R73.T => ((R73.enc x, []) : Out))
instance : Inj E73 := ⟨fun a b h => by
 simp only [E73, Prod.mk.injEq, and_true] at h
 exact Inj.inj _ _ h⟩
noncomputable def r73 (d0 : List TypeDecl) : Option Out := Rn 73 [(.pv (.lst 3 (List.map TypeDecl.enc d0)))] []
noncomputable def f73 (d0 : List TypeDecl) : Option (List (List UInt8)) := dec E73 (r73 d0)
theorem s73 {d0 : List TypeDecl} : Imp E73 (r73 d0) (f73 d0) := dec_imp _ _
noncomputable def h73_3 (d0 : List TypeDecl) (more4 : Bool) (o3 : List (List UInt8)) : Option Out := headT P cods H prim 73 3 [] [(0, (.pv (.lst 3 (List.map TypeDecl.enc d0)))), (3, (.row 3)), (4, (.pv (.bool more4)))] [(3, (.row 9 1 (List.map eStr o3)))]
noncomputable def t73_3 (d0 : List TypeDecl) (more4 : Bool) (o3 : List (List UInt8)) : Option (List (List UInt8)) := dec E73 (h73_3 d0 more4 o3)
theorem q73_3 {d0 : List TypeDecl} {more4 : Bool} {o3 : List (List UInt8)} : Imp E73 (h73_3 d0 more4 o3) (t73_3 d0 more4 o3) := dec_imp _ _
noncomputable def h73_7 (d0 : List TypeDecl) (more4 : Bool) (next5 : List UInt8) (i6 : Int) (o3 : List (List UInt8)) : Option Out := headT P cods H prim 73 7 [] [(0, (.pv (.lst 3 (List.map TypeDecl.enc d0)))), (3, (.row 3)), (4, (.pv (.bool more4))), (5, (.pv (.str next5))), (6, (.pv (.int .i64 i6)))] [(3, (.row 9 1 (List.map eStr o3)))]
noncomputable def t73_7 (d0 : List TypeDecl) (more4 : Bool) (next5 : List UInt8) (i6 : Int) (o3 : List (List UInt8)) : Option (List (List UInt8)) := dec E73 (h73_7 d0 more4 next5 i6 o3)
theorem q73_7 {d0 : List TypeDecl} {more4 : Bool} {next5 : List UInt8} {i6 : Int} {o3 : List (List UInt8)} : Imp E73 (h73_7 d0 more4 next5 i6 o3) (t73_7 d0 more4 next5 i6 o3) := dec_imp _ _
abbrev E74.T : Type := List (List UInt8)
def E74 : E74.T → Out := (fun x : R74.T => ((R74.enc x, []) : Out))
instance : Inj E74 := ⟨fun a b h => by
 simp only [E74, Prod.mk.injEq, and_true] at h
 exact Inj.inj _ _ h⟩
noncomputable def r74 (to0 : List ((List UInt8) × (List (List UInt8)))) (name1 : List UInt8) : Option Out := Rn 74 [(.pv (.mp (encMap V9 V54 to0).1 (encMap V9 V54 to0).2)), (.pv (.str name1))] []
noncomputable def f74 (to0 : List ((List UInt8) × (List (List UInt8)))) (name1 : List UInt8) : Option (List (List UInt8)) := dec E74 (r74 to0 name1)
theorem s74 {to0 : List ((List UInt8) × (List (List UInt8)))} {name1 : List UInt8} : Imp E74 (r74 to0 name1) (f74 to0 name1) := dec_imp _ _
noncomputable def h74_7 (to0 : List ((List UInt8) × (List (List UInt8)))) (i9 : Int) (o20 : List ((List UInt8) × Bool)) (o24 : List (List UInt8)) : Option Out := headT P cods H prim 74 7 [] [(0, (.pv (.mp (encMap V9 V54 to0).1 (encMap V9 V54 to0).2))), (7, (.row 20)), (8, (.row 24)), (9, (.pv (.int .i64 i9)))] [(20, (.mp 9 4 (encMap V9 V4 o20).1 (encMap V9 V4 o20).2)), (24, (.row 9 1 (List.map eStr o24)))]
noncomputable def t74_7 (to0 : List ((List UInt8) × (List (List UInt8)))) (i9 : Int) (o20 : List ((List UInt8) × Bool)) (o24 : List (List UInt8)) : Option (List (List UInt8)) := dec E74 (h74_7 to0 i9 o20 o24)
theorem q74_7 {to0 : List ((List UInt8) × (List (List UInt8)))} {i9 : Int} {o20 : List ((List UInt8) × Bool)} {o24 : List (List UInt8)} : Imp E74 (h74_7 to0 i9 o20 o24) (t74_7 to0 i9 o20 o24) := dec_imp _ _
noncomputable def h74_10 (to0 : List ((List UInt8) × (List (List UInt8)))) (i9 : Int) (v36 : List (List UInt8)) (v37 : Int) (v38 : Int) (o20 : List ((List UInt8) × Bool)) (o24 : List (List UInt8)) : Option Out := headT P cods H prim 74 10 [] [(0, (.pv (.mp (encMap V9 V54 to0).1 (encMap V9 V54 to0).2))), (7, (.row 20)), (8, (.row 24)), (9, (.pv (.int .i64 i9))), (36, (.pv (.lst 1 (List.map eStr v36)))), (37, (.pv (.int .i64 v37))), (38, (.pv (.int .i64 v38)))] [(20, (.mp 9 4 (encMap V9 V4 o20).1 (encMap V9 V4 o20).2)), (24, (.row 9 1 (List.map eStr o24)))]
noncomputable def t74_10 (to0 : List ((List UInt8) × (List (List UInt8)))) (i9 : Int) (v36 : List (List UInt8)) (v37 : Int) (v38 : Int) (o20 : List ((List UInt8) × Bool)) (o24 : List (List UInt8)) : Option (List (List UInt8)) := dec E74 (h74_10 to0 i9 v36 v37 v38 o20 o24)
theorem q74_10 {to0 : List ((List UInt8) × (List (List UInt8)))} {i9 : Int} {v36 : List (List UInt8)} {v37 : Int} {v38 : Int} {o20 : List ((List UInt8) × Bool)} {o24 : List (List UInt8)} : Imp E74 (h74_10 to0 i9 v36 v37 v38 o20 o24) (t74_10 to0 i9 v36 v37 v38 o20 o24) := dec_imp _ _
abbrev E75.T : Type := List ((List UInt8) × (List (List UInt8)))
def E75 : E75.T → Out := (fun x : R75.T => ((R75.enc x, []) : Out))
instance : Inj E75 := ⟨fun a b h => by
 simp only [E75, Prod.mk.injEq, and_true] at h
 exact Inj.inj _ _ h⟩
noncomputable def r75 (d0 : List TypeDecl) : Option Out := Rn 75 [(.pv (.lst 3 (List.map TypeDecl.enc d0)))] []
noncomputable def f75 (d0 : List TypeDecl) : Option (List ((List UInt8) × (List (List UInt8)))) := dec E75 (r75 d0)
theorem s75 {d0 : List TypeDecl} : Imp E75 (r75 d0) (f75 d0) := dec_imp _ _
noncomputable def h75_3 (v9 : List TypeDecl) (v10 : Int) (v11 : Int) (o8 : List ((List UInt8) × (List (List UInt8)))) : Option Out := headT P cods H prim 75 3 [] [(3, (.row 8)), (9, (.pv (.lst 3 (List.map TypeDecl.enc v9)))), (10, (.pv (.int .i64 v10))), (11, (.pv (.int .i64 v11)))] [(8, (.mp 9 54 (encMap V9 V54 o8).1 (encMap V9 V54 o8).2))]
noncomputable def t75_3 (v9 : List TypeDecl) (v10 : Int) (v11 : Int) (o8 : List ((List UInt8) × (List (List UInt8)))) : Option (List ((List UInt8) × (List (List UInt8)))) := dec E75 (h75_3 v9 v10 v11 o8)
theorem q75_3 {v9 : List TypeDecl} {v10 : Int} {v11 : Int} {o8 : List ((List UInt8) × (List (List UInt8)))} : Imp E75 (h75_3 v9 v10 v11 o8) (t75_3 v9 v10 v11 o8) := dec_imp _ _
abbrev E76.T : Type := Bool
def E76 : E76.T → Out := (fun x : R76.T => ((R76.enc x, []) : Out))
instance : Inj E76 := ⟨fun a b h => by
 simp only [E76, Prod.mk.injEq, and_true] at h
 exact Inj.inj _ _ h⟩
noncomputable def r76 (d0 : List TypeDecl) : Option Out := Rn 76 [(.pv (.lst 3 (List.map TypeDecl.enc d0)))] []
noncomputable def f76 (d0 : List TypeDecl) : Option Bool := dec E76 (r76 d0)
theorem s76 {d0 : List TypeDecl} : Imp E76 (r76 d0) (f76 d0) := dec_imp _ _
abbrev E77.T : Type := Int
def E77 : E77.T → Out := (fun x : R77.T => ((R77.enc x, []) : Out))
instance : Inj E77 := ⟨fun a b h => by
 simp only [E77, Prod.mk.injEq, and_true] at h
 exact Inj.inj _ _ h⟩
noncomputable def r77 (d0 : List TypeDecl) : Option Out := Rn 77 [(.pv (.lst 3 (List.map TypeDecl.enc d0)))] []
noncomputable def f77 (d0 : List TypeDecl) : Option Int := dec E77 (r77 d0)
theorem s77 {d0 : List TypeDecl} : Imp E77 (r77 d0) (f77 d0) := dec_imp _ _
noncomputable def h77_3 (v9 : List TypeDecl) (v10 : Int) (v11 : Int) (o8 : List ((List UInt8) × Bool)) : Option Out := headT P cods H prim 77 3 [] [(3, (.row 8)), (9, (.pv (.lst 3 (List.map TypeDecl.enc v9)))), (10, (.pv (.int .i64 v10))), (11, (.pv (.int .i64 v11)))] [(8, (.mp 9 4 (encMap V9 V4 o8).1 (encMap V9 V4 o8).2))]
noncomputable def t77_3 (v9 : List TypeDecl) (v10 : Int) (v11 : Int) (o8 : List ((List UInt8) × Bool)) : Option Int := dec E77 (h77_3 v9 v10 v11 o8)
theorem q77_3 {v9 : List TypeDecl} {v10 : Int} {v11 : Int} {o8 : List ((List UInt8) × Bool)} : Imp E77 (h77_3 v9 v10 v11 o8) (t77_3 v9 v10 v11 o8) := dec_imp _ _
abbrev E78.T : Type := Int
def E78 : E78.T → Out := (fun x : R78.T => ((R78.enc x, []) : Out))
instance : Inj E78 := ⟨fun a b h => by
 simp only [E78, Prod.mk.injEq, and_true] at h
 exact Inj.inj _ _ h⟩
noncomputable def r78 (d0 : List TypeDecl) : Option Out := Rn 78 [(.pv (.lst 3 (List.map TypeDecl.enc d0)))] []
noncomputable def f78 (d0 : List TypeDecl) : Option Int := dec E78 (r78 d0)
theorem s78 {d0 : List TypeDecl} : Imp E78 (r78 d0) (f78 d0) := dec_imp _ _
noncomputable def h78_3 (declared3 : List ((List UInt8) × (List (List UInt8)))) (v12 : List TypeDecl) (v13 : Int) (v14 : Int) : Option Out := headT P cods H prim 78 3 [] [(3, (.pv (.mp (encMap V9 V54 declared3).1 (encMap V9 V54 declared3).2))), (12, (.pv (.lst 3 (List.map TypeDecl.enc v12)))), (13, (.pv (.int .i64 v13))), (14, (.pv (.int .i64 v14)))] []
noncomputable def t78_3 (declared3 : List ((List UInt8) × (List (List UInt8)))) (v12 : List TypeDecl) (v13 : Int) (v14 : Int) : Option Int := dec E78 (h78_3 declared3 v12 v13 v14)
theorem q78_3 {declared3 : List ((List UInt8) × (List (List UInt8)))} {v12 : List TypeDecl} {v13 : Int} {v14 : Int} : Imp E78 (h78_3 declared3 v12 v13 v14) (t78_3 declared3 v12 v13 v14) := dec_imp _ _
noncomputable def h78_6 (declared3 : List ((List UInt8) × (List (List UInt8)))) (v12 : List TypeDecl) (v13 : Int) (v14 : Int) (v19 : List (List UInt8)) (v20 : Int) (v21 : Int) (o5 : TypeDecl) : Option Out := headT P cods H prim 78 6 [] [(3, (.pv (.mp (encMap V9 V54 declared3).1 (encMap V9 V54 declared3).2))), (5, (.ptr 5 0)), (12, (.pv (.lst 3 (List.map TypeDecl.enc v12)))), (13, (.pv (.int .i64 v13))), (14, (.pv (.int .i64 v14))), (19, (.pv (.lst 1 (List.map eStr v19)))), (20, (.pv (.int .i64 v20))), (21, (.pv (.int .i64 v21)))] [(5, (.box 57 (List.map .pv (TypeDecl.enc o5))))]
noncomputable def t78_6 (declared3 : List ((List UInt8) × (List (List UInt8)))) (v12 : List TypeDecl) (v13 : Int) (v14 : Int) (v19 : List (List UInt8)) (v20 : Int) (v21 : Int) (o5 : TypeDecl) : Option Int := dec E78 (h78_6 declared3 v12 v13 v14 v19 v20 v21 o5)
theorem q78_6 {declared3 : List ((List UInt8) × (List (List UInt8)))} {v12 : List TypeDecl} {v13 : Int} {v14 : Int} {v19 : List (List UInt8)} {v20 : Int} {v21 : Int} {o5 : TypeDecl} : Imp E78 (h78_6 declared3 v12 v13 v14 v19 v20 v21 o5) (t78_6 declared3 v12 v13 v14 v19 v20 v21 o5) := dec_imp _ _
abbrev E79.T : Type := List (List UInt8)
def E79 : E79.T → Out := (fun x : R79.T => ((R79.enc x, []) : Out))
instance : Inj E79 := ⟨fun a b h => by
 simp only [E79, Prod.mk.injEq, and_true] at h
 exact Inj.inj _ _ h⟩
noncomputable def r79 (d0 : List TypeDecl) : Option Out := Rn 79 [(.pv (.lst 3 (List.map TypeDecl.enc d0)))] []
noncomputable def f79 (d0 : List TypeDecl) : Option (List (List UInt8)) := dec E79 (r79 d0)
theorem s79 {d0 : List TypeDecl} : Imp E79 (r79 d0) (f79 d0) := dec_imp _ _
noncomputable def h79_5 (v18 : List TypeDecl) (v19 : Int) (v20 : Int) (o5 : List (List UInt8)) (o16 : List ((List UInt8) × Int)) (o17 : List ((List UInt8) × Option (List (List UInt8)))) : Option Out := headT P cods H prim 79 5 [] [(3, (.row 16)), (4, (.row 17)), (5, (.row 5)), (18, (.pv (.lst 3 (List.map TypeDecl.enc v18)))), (19, (.pv (.int .i64 v19))), (20, (.pv (.int .i64 v20)))] [(5, (.row 9 1 (List.map eStr o5))), (16, (.mp 9 3 (encMap V9 V3 o16).1 (encMap V9 V3 o16).2)), (17, (.mr 9 9 1 (encMr V9 C9 o17).1 (encMr V9 C9 o17).2))]
noncomputable def t79_5 (v18 : List TypeDecl) (v19 : Int) (v20 : Int) (o5 : List (List UInt8)) (o16 : List ((List UInt8) × Int)) (o17 : List ((List UInt8) × Option (List (List UInt8)))) : Option (List (List UInt8)) := dec E79 (h79_5 v18 v19 v20 o5 o16 o17)
theorem q79_5 {v18 : List TypeDecl} {v19 : Int} {v20 : Int} {o5 : List (List UInt8)} {o16 : List ((List UInt8) × Int)} {o17 : List ((List UInt8) × Option (List (List UInt8)))} : Imp E79 (h79_5 v18 v19 v20 o5 o16 o17) (t79_5 v18 v19 v20 o5 o16 o17) := dec_imp _ _
noncomputable def h79_11 (v18 : List TypeDecl) (v19 : Int) (v20 : Int) (v40 : List (List UInt8)) (v41 : Int) (v42 : Int) (o5 : List (List UInt8)) (o7 : TypeDecl) (o16 : List ((List UInt8) × Int)) (o17 : List ((List UInt8) × Option (List (List UInt8)))) : Option Out := headT P cods H prim 79 11 [] [(3, (.row 16)), (4, (.row 17)), (5, (.row 5)), (7, (.ptr 7 0)), (18, (.pv (.lst 3 (List.map TypeDecl.enc v18)))), (19, (.pv (.int .i64 v19))), (20, (.pv (.int .i64 v20))), (40, (.pv (.lst 1 (List.map eStr v40)))), (41, (.pv (.int .i64 v41))), (42, (.pv (.int .i64 v42)))] [(5, (.row 9 1 (List.map eStr o5))), (7, (.box 57 (List.map .pv (TypeDecl.enc o7)))), (16, (.mp 9 3 (encMap V9 V3 o16).1 (encMap V9 V3 o16).2)), (17, (.mr 9 9 1 (encMr V9 C9 o17).1 (encMr V9 C9 o17).2))]
noncomputable def t79_11 (v18 : List TypeDecl) (v19 : Int) (v20 : Int) (v40 : List (List UInt8)) (v41 : Int) (v42 : Int) (o5 : List (List UInt8)) (o7 : TypeDecl) (o16 : List ((List UInt8) × Int)) (o17 : List ((List UInt8) × Option (List (List UInt8)))) : Option (List (List UInt8)) := dec E79 (h79_11 v18 v19 v20 v40 v41 v42 o5 o7 o16 o17)
theorem q79_11 {v18 : List TypeDecl} {v19 : Int} {v20 : Int} {v40 : List (List UInt8)} {v41 : Int} {v42 : Int} {o5 : List (List UInt8)} {o7 : TypeDecl} {o16 : List ((List UInt8) × Int)} {o17 : List ((List UInt8) × Option (List (List UInt8)))} : Imp E79 (h79_11 v18 v19 v20 v40 v41 v42 o5 o7 o16 o17) (t79_11 v18 v19 v20 v40 v41 v42 o5 o7 o16 o17) := dec_imp _ _
noncomputable def h79_17 (below4 : List ((List UInt8) × (List (List UInt8)))) (o5 : List (List UInt8)) (o10 : List (List UInt8)) (o16 : List ((List UInt8) × Int)) : Option Out := headT P cods H prim 79 17 [] [(3, (.row 16)), (4, (.pv (.mp (encMap V9 V54 below4).1 (encMap V9 V54 below4).2))), (5, (.row 5)), (10, (.row 10))] [(5, (.row 9 1 (List.map eStr o5))), (10, (.row 9 1 (List.map eStr o10))), (16, (.mp 9 3 (encMap V9 V3 o16).1 (encMap V9 V3 o16).2))]
noncomputable def t79_17 (below4 : List ((List UInt8) × (List (List UInt8)))) (o5 : List (List UInt8)) (o10 : List (List UInt8)) (o16 : List ((List UInt8) × Int)) : Option (List (List UInt8)) := dec E79 (h79_17 below4 o5 o10 o16)
theorem q79_17 {below4 : List ((List UInt8) × (List (List UInt8)))} {o5 : List (List UInt8)} {o10 : List (List UInt8)} {o16 : List ((List UInt8) × Int)} : Imp E79 (h79_17 below4 o5 o10 o16) (t79_17 below4 o5 o10 o16) := dec_imp _ _
noncomputable def h79_22 (below4 : List ((List UInt8) × (List (List UInt8)))) (v71 : List (List UInt8)) (v72 : Int) (v73 : Int) (o5 : List (List UInt8)) (o10 : List (List UInt8)) (o16 : List ((List UInt8) × Int)) : Option Out := headT P cods H prim 79 22 [] [(3, (.row 16)), (4, (.pv (.mp (encMap V9 V54 below4).1 (encMap V9 V54 below4).2))), (5, (.row 5)), (10, (.row 10)), (71, (.pv (.lst 1 (List.map eStr v71)))), (72, (.pv (.int .i64 v72))), (73, (.pv (.int .i64 v73)))] [(5, (.row 9 1 (List.map eStr o5))), (10, (.row 9 1 (List.map eStr o10))), (16, (.mp 9 3 (encMap V9 V3 o16).1 (encMap V9 V3 o16).2))]
noncomputable def t79_22 (below4 : List ((List UInt8) × (List (List UInt8)))) (v71 : List (List UInt8)) (v72 : Int) (v73 : Int) (o5 : List (List UInt8)) (o10 : List (List UInt8)) (o16 : List ((List UInt8) × Int)) : Option (List (List UInt8)) := dec E79 (h79_22 below4 v71 v72 v73 o5 o10 o16)
theorem q79_22 {below4 : List ((List UInt8) × (List (List UInt8)))} {v71 : List (List UInt8)} {v72 : Int} {v73 : Int} {o5 : List (List UInt8)} {o10 : List (List UInt8)} {o16 : List ((List UInt8) × Int)} : Imp E79 (h79_22 below4 v71 v72 v73 o5 o10 o16) (t79_22 below4 v71 v72 v73 o5 o10 o16) := dec_imp _ _
abbrev E80r.T : Type := Unit × (List (List UInt8))
def E80r : E80r.T → Out := (fun x : Unit × (List (List UInt8)) => ((R80.enc x.1, [(10000, .row 9 1 (List.map eStr x.2))]) : Out))
instance : Inj E80r := ⟨fun a b h => by
 obtain ⟨a0, a1⟩ := a
 obtain ⟨b0, b1⟩ := b
 simp only [E80r, Prod.mk.injEq, List.cons.injEq, Ob.row.injEq, Ob.mp.injEq, and_true, true_and] at h
 have h0 : a0 = b0 := rfl
 have h1 := h
 rw [h0, map_inj Inj.inj _ _ h1]⟩
noncomputable def r80 (w10000 : List (List UInt8)) : Option Out := Rn 80 [(.row 10000)] [(10000, (.row 9 1 (List.map eStr w10000)))]
noncomputable def f80 (w10000 : List (List UInt8)) : Option (Unit × (List (List UInt8))) := dec E80r (r80 w10000)
theorem s80 {w10000 : List (List UInt8)} : Imp E80r (r80 w10000) (f80 w10000) := dec_imp _ _
abbrev E81.T : Type := List (List UInt8)
def E81 : E81.T → Out := (fun x : R81.T => ((R81.enc x, []) : Out))
instance : Inj E81 := ⟨fun a b h => by
 simp only [E81, Prod.mk.injEq, and_true] at h
 exact Inj.inj _ _ h⟩
noncomputable def r81 (d0 : List TypeDecl) (name1 : List UInt8) : Option Out := Rn 81 [(.pv (.lst 3 (List.map TypeDecl.enc d0))), (.pv (.str name1))] []
noncomputable def f81 (d0 : List TypeDecl) (name1 : List UInt8) : Option (List (List UInt8)) := dec E81 (r81 d0 name1)
theorem s81 {d0 : List TypeDecl} {name1 : List UInt8} : Imp E81 (r81 d0 name1) (f81 d0 name1) := dec_imp _ _
noncomputable def h81_3 (name1 : List UInt8) (v15 : List TypeDecl) (v16 : Int) (v17 : Int) (o14 : List ((List UInt8) × Option (List (List UInt8)))) : Option Out := headT P cods H prim 81 3 [] [(1, (.pv (.str name1))), (5, (.row 14)), (15, (.pv (.lst 3 (List.map TypeDecl.enc v15)))), (16, (.pv (.int .i64 v16))), (17, (.pv (.int .i64 v17)))] [(14, (.mr 9 9 1 (encMr V9 C9 o14).1 (encMr V9 C9 o14).2))]
noncomputable def t81_3 (name1 : List UInt8) (v15 : List TypeDecl) (v16 : Int) (v17 : Int) (o14 : List ((List UInt8) × Option (List (List UInt8)))) : Option (List (List UInt8)) := dec E81 (h81_3 name1 v15 v16 v17 o14)
theorem q81_3 {name1 : List UInt8} {v15 : List TypeDecl} {v16 : Int} {v17 : Int} {o14 : List ((List UInt8) × Option (List (List UInt8)))} : Imp E81 (h81_3 name1 v15 v16 v17 o14) (t81_3 name1 v15 v16 v17 o14) := dec_imp _ _
noncomputable def h81_9 (name1 : List UInt8) (v15 : List TypeDecl) (v16 : Int) (v17 : Int) (v34 : List (List UInt8)) (v35 : Int) (v36 : Int) (o7 : TypeDecl) (o14 : List ((List UInt8) × Option (List (List UInt8)))) : Option Out := headT P cods H prim 81 9 [] [(1, (.pv (.str name1))), (5, (.row 14)), (7, (.ptr 7 0)), (15, (.pv (.lst 3 (List.map TypeDecl.enc v15)))), (16, (.pv (.int .i64 v16))), (17, (.pv (.int .i64 v17))), (34, (.pv (.lst 1 (List.map eStr v34)))), (35, (.pv (.int .i64 v35))), (36, (.pv (.int .i64 v36)))] [(7, (.box 57 (List.map .pv (TypeDecl.enc o7)))), (14, (.mr 9 9 1 (encMr V9 C9 o14).1 (encMr V9 C9 o14).2))]
noncomputable def t81_9 (name1 : List UInt8) (v15 : List TypeDecl) (v16 : Int) (v17 : Int) (v34 : List (List UInt8)) (v35 : Int) (v36 : Int) (o7 : TypeDecl) (o14 : List ((List UInt8) × Option (List (List UInt8)))) : Option (List (List UInt8)) := dec E81 (h81_9 name1 v15 v16 v17 v34 v35 v36 o7 o14)
theorem q81_9 {name1 : List UInt8} {v15 : List TypeDecl} {v16 : Int} {v17 : Int} {v34 : List (List UInt8)} {v35 : Int} {v36 : Int} {o7 : TypeDecl} {o14 : List ((List UInt8) × Option (List (List UInt8)))} : Imp E81 (h81_9 name1 v15 v16 v17 v34 v35 v36 o7 o14) (t81_9 name1 v15 v16 v17 v34 v35 v36 o7 o14) := dec_imp _ _
abbrev E82.T : Type := Int × Bool
def E82 : E82.T → Out := (fun x : R82.T => ((R82.enc x, []) : Out))
instance : Inj E82 := ⟨fun a b h => by
 simp only [E82, Prod.mk.injEq, and_true] at h
 exact Inj.inj _ _ h⟩
noncomputable def r82 (x0 : List (List UInt8)) (target1 : List UInt8) : Option Out := Rn 82 [(.pv (.lst 1 (List.map eStr x0))), (.pv (.str target1))] []
noncomputable def f82 (x0 : List (List UInt8)) (target1 : List UInt8) : Option (Int × Bool) := dec E82 (r82 x0 target1)
theorem s82 {x0 : List (List UInt8)} {target1 : List UInt8} : Imp E82 (r82 x0 target1) (f82 x0 target1) := dec_imp _ _
noncomputable def h82_3 (x0 : List (List UInt8)) (target1 : List UInt8) (n6 : Int) (i7 : Int) (j8 : Int) : Option Out := headT P cods H prim 82 3 [] [(0, (.pv (.lst 1 (List.map eStr x0)))), (1, (.pv (.str target1))), (6, (.pv (.int .i64 n6))), (7, (.pv (.int .i64 i7))), (8, (.pv (.int .i64 j8)))] []
noncomputable def t82_3 (x0 : List (List UInt8)) (target1 : List UInt8) (n6 : Int) (i7 : Int) (j8 : Int) : Option (Int × Bool) := dec E82 (h82_3 x0 target1 n6 i7 j8)
theorem q82_3 {x0 : List (List UInt8)} {target1 : List UInt8} {n6 : Int} {i7 : Int} {j8 : Int} : Imp E82 (h82_3 x0 target1 n6 i7 j8) (t82_3 x0 target1 n6 i7 j8) := dec_imp _ _
abbrev E83.T : Type := (List Int) × Int
def E83 : E83.T → Out := (fun x : R83.T => ((R83.enc x, []) : Out))
instance : Inj E83 := ⟨fun a b h => by
 simp only [E83, Prod.mk.injEq, and_true] at h
 exact Inj.inj _ _ h⟩
noncomputable def r83 (l0 : List Int) : Option Out := Rn 83 [(.pv (.lst 1 (List.map (eInt .i64) l0)))] []
noncomputable def f83 (l0 : List Int) : Option ((List Int) × Int) := dec E83 (r83 l0)
theorem s83 {l0 : List Int} : Imp E83 (r83 l0) (f83 l0) := dec_imp _ _
noncomputable def h83_3 (l0 : List Int) (most4 : Int) (v10 : List Int) (v11 : Int) (v12 : Int) : Option Out := headT P cods H prim 83 3 [] [(0, (.pv (.lst 1 (List.map (eInt .i64) l0)))), (4, (.pv (.int .i64 most4))), (10, (.pv (.lst 1 (List.map (eInt .i64) v10)))), (11, (.pv (.int .i64 v11))), (12, (.pv (.int .i64 v12)))] []
noncomputable def t83_3 (l0 : List Int) (most4 : Int) (v10 : List Int) (v11 : Int) (v12 : Int) : Option ((List Int) × Int) := dec E83 (h83_3 l0 most4 v10 v11 v12)
theorem q83_3 {l0 : List Int} {most4 : Int} {v10 : List Int} {v11 : Int} {v12 : Int} : Imp E83 (h83_3 l0 most4 v10 v11 v12) (t83_3 l0 most4 v10 v11 v12) := dec_imp _ _
noncomputable def h83_11 (v30 : List Int) (v31 : Int) (v32 : Int) (o29 : List Int) : Option Out := headT P cods H prim 83 11 [] [(7, (.row 29)), (30, (.pv (.lst 1 (List.map (eInt .i64) v30)))), (31, (.pv (.int .i64 v31))), (32, (.pv (.int .i64 v32)))] [(29, (.row 37 1 (List.map (eInt .u64) o29)))]
noncomputable def t83_11 (v30 : List Int) (v31 : Int) (v32 : Int) (o29 : List Int) : Option ((List Int) × Int) := dec E83 (h83_11 v30 v31 v32 o29)
theorem q83_11 {v30 : List Int} {v31 : Int} {v32 : Int} {o29 : List Int} : Imp E83 (h83_11 v30 v31 v32 o29) (t83_11 v30 v31 v32 o29) := dec_imp _ _
abbrev E84r.T : Type := Unit × (List ((List UInt8) × Bool)) × (List (List Int))
def E84r : E84r.T → Out := (fun x : Unit × (List ((List UInt8) × Bool)) × (List (List Int)) => ((R84.enc x.1, [(10000, (.box 98 [(.row 10002)])), (10001, (.box 64 [(.row 20003)])), (10002, .mp 9 4 (encMap V9 V4 x.2.1).1 (encMap V9 V4 x.2.1).2), (20003, .row 31 1 (List.map (eLst 1 (eInt .u64)) x.2.2))]) : Out))
instance : Inj E84r := ⟨fun a b h => by
 obtain ⟨a0, a1, a2⟩ := a
 obtain ⟨b0, b1, b2⟩ := b
 simp only [E84r, Prod.mk.injEq, List.cons.injEq, Ob.row.injEq, Ob.mp.injEq, and_true, true_and] at h
 have h0 : a0 = b0 := rfl
 obtain ⟨h1, h2⟩ := h
 rw [h0, encMap_inj (K := V9) (V := V4) h1.1 h1.2, map_inj Inj.inj _ _ h2]⟩
noncomputable def r84 (b0 : List Int) (w10002 : List ((List UInt8) × Bool)) (w20003 : List (List Int)) : Option Out := Rn 84 [(.pv (.lst 1 (List.map (eInt .u64) b0))), (.ptr 10000 0), (.ptr 10001 0)] [(10000, (.box 98 [(.row 10002)])), (10001, (.box 64 [(.row 20003)])), (10002, (.mp 9 4 (encMap V9 V4 w10002).1 (encMap V9 V4 w10002).2)), (20003, (.row 31 1 (List.map (eLst 1 (eInt .u64)) w20003)))]
noncomputable def f84 (b0 : List Int) (w10002 : List ((List UInt8) × Bool)) (w20003 : List (List Int)) : Option (Unit × (List ((List UInt8) × Bool)) × (List (List Int))) := dec E84r (r84 b0 w10002 w20003)
theorem s84 {b0 : List Int} {w10002 : List ((List UInt8) × Bool)} {w20003 : List (List Int)} : Imp E84r (r84 b0 w10002 w20003) (f84 b0 w10002 w20003) := dec_imp _ _
abbrev E85.T : Type := List UInt8
def E85 : E85.T → Out := (fun x : R85.T => ((R85.enc x, []) : Out))
instance : Inj E85 := ⟨fun a b h => by
 simp only [E85, Prod.mk.injEq, and_true] at h
 exact Inj.inj _ _ h⟩
noncomputable def r85 (b0 : List Int) : Option Out := Rn 85 [(.pv (.lst 1 (List.map (eInt .u64) b0)))] []
noncomputable def f85 (b0 : List Int) : Option (List UInt8) := dec E85 (r85 b0)
theorem s85 {b0 : List Int} : Imp E85 (r85 b0) (f85 b0) := dec_imp _ _
noncomputable def h85_3 (v11 : List Int) (v12 : Int) (v13 : Int) (o10 : List Int) : Option Out := headT P cods H prim 85 3 [] [(3, (.row 10)), (11, (.pv (.lst 1 (List.map (eInt .u64) v11)))), (12, (.pv (.int .i64 v12))), (13, (.pv (.int .i64 v13)))] [(10, (.row 5 1 (List.map (eInt .u8) o10)))]
noncomputable def t85_3 (v11 : List Int) (v12 : Int) (v13 : Int) (o10 : List Int) : Option (List UInt8) := dec E85 (h85_3 v11 v12 v13 o10)
theorem q85_3 {v11 : List Int} {v12 : Int} {v13 : Int} {o10 : List Int} : Imp E85 (h85_3 v11 v12 v13 o10) (t85_3 v11 v12 v13 o10) := dec_imp _ _
noncomputable def h85_6 (w5 : Int) (k6 : Int) (v11 : List Int) (v12 : Int) (v13 : Int) (o10 : List Int) : Option Out := headT P cods H prim 85 6 [] [(3, (.row 10)), (5, (.pv (.int .u64 w5))), (6, (.pv (.int .i64 k6))), (11, (.pv (.lst 1 (List.map (eInt .u64) v11)))), (12, (.pv (.int .i64 v12))), (13, (.pv (.int .i64 v13)))] [(10, (.row 5 1 (List.map (eInt .u8) o10)))]
noncomputable def t85_6 (w5 : Int) (k6 : Int) (v11 : List Int) (v12 : Int) (v13 : Int) (o10 : List Int) : Option (List UInt8) := dec E85 (h85_6 w5 k6 v11 v12 v13 o10)
theorem q85_6 {w5 : Int} {k6 : Int} {v11 : List Int} {v12 : Int} {v13 : Int} {o10 : List Int} : Imp E85 (h85_6 w5 k6 v11 v12 v13 o10) (t85_6 w5 k6 v11 v12 v13 o10) := dec_imp _ _
abbrev E86.T : Type := Int
def E86 : E86.T → Out := (fun x : R86.T => ((R86.enc x, []) : Out))
instance : Inj E86 := ⟨fun a b h => by
 simp only [E86, Prod.mk.injEq, and_true] at h
 exact Inj.inj _ _ h⟩
noncomputable def r86 (x0 : Int) : Option Out := Rn 86 [(.pv (.int .u64 x0))] []
noncomputable def f86 (x0 : Int) : Option Int := dec E86 (r86 x0)
theorem s86 {x0 : Int} : Imp E86 (r86 x0) (f86 x0) := dec_imp _ _
abbrev E90.T : Type := List (List UInt8)
def E90 : E90.T → Out := (fun x : R90.T => ((R90.enc x, []) : Out))
instance : Inj E90 := ⟨fun a b h => by
 simp only [E90, Prod.mk.injEq, and_true] at h
 exact Inj.inj _ _ h⟩
noncomputable def r90 (d0 : List TypeDecl) (l1 : List (List UInt8)) : Option Out := Rn 90 [(.pv (.lst 3 (List.map TypeDecl.enc d0))), (.pv (.lst 1 (List.map eStr l1)))] []
noncomputable def f90 (d0 : List TypeDecl) (l1 : List (List UInt8)) : Option (List (List UInt8)) := dec E90 (r90 d0 l1)
theorem s90 {d0 : List TypeDecl} {l1 : List (List UInt8)} : Imp E90 (r90 d0 l1) (f90 d0 l1) := dec_imp _ _
noncomputable def h90_4 (known5 : List ((List UInt8) × (List (List UInt8)))) (v13 : List (List UInt8)) (v14 : Int) (v15 : Int) (o6 : List (List UInt8)) : Option Out := headT P cods H prim 90 4 [] [(5, (.pv (.mp (encMap V9 V54 known5).1 (encMap V9 V54 known5).2))), (6, (.row 6)), (13, (.pv (.lst 1 (List.map eStr v13)))), (14, (.pv (.int .i64 v14))), (15, (.pv (.int .i64 v15)))] [(6, (.row 9 1 (List.map eStr o6)))]
noncomputable def t90_4 (known5 : List ((List UInt8) × (List (List UInt8)))) (v13 : List (List UInt8)) (v14 : Int) (v15 : Int) (o6 : List (List UInt8)) : Option (List (List UInt8)) := dec E90 (h90_4 known5 v13 v14 v15 o6)
theorem q90_4 {known5 : List ((List UInt8) × (List (List UInt8)))} {v13 : List (List UInt8)} {v14 : Int} {v15 : Int} {o6 : List (List UInt8)} : Imp E90 (h90_4 known5 v13 v14 v15 o6) (t90_4 known5 v13 v14 v15 o6) := dec_imp _ _
abbrev E91.T : Type := Bool
def E91 : E91.T → Out := (fun x : R91.T => ((R91.enc x, []) : Out))
instance : Inj E91 := ⟨fun a b h => by
 simp only [E91, Prod.mk.injEq, and_true] at h
 exact Inj.inj _ _ h⟩
noncomputable def r91 (x0 : List UInt8) (a1 : List UInt8) (a2 : List (List UInt8)) : Option Out := Rn 91 [(.pv (.str x0)), (.pv (.ref [(.str a1)])), (.pv (.ref [(.lst 1 (List.map eStr a2))]))] []
noncomputable def f91 (x0 : List UInt8) (a1 : List UInt8) (a2 : List (List UInt8)) : Option Bool := dec E91 (r91 x0 a1 a2)
theorem s91 {x0 : List UInt8} {a1 : List UInt8} {a2 : List (List UInt8)} : Imp E91 (r91 x0 a1 a2) (f91 x0 a1 a2) := dec_imp _ _
abbrev E92.T : Type := Bool
def E92 : E92.T → Out := (fun x : R92.T => ((R92.enc x, []) : Out))
instance : Inj E92 := ⟨fun a b h => by
 simp only [E92, Prod.mk.injEq, and_true] at h
 exact Inj.inj _ _ h⟩
noncomputable def r92 (s0 : List (List UInt8)) (v1 : List UInt8) : Option Out := Rn 92 [(.pv (.lst 1 (List.map eStr s0))), (.pv (.str v1))] []
noncomputable def f92 (s0 : List (List UInt8)) (v1 : List UInt8) : Option Bool := dec E92 (r92 s0 v1)
theorem s92 {s0 : List (List UInt8)} {v1 : List UInt8} : Imp E92 (r92 s0 v1) (f92 s0 v1) := dec_imp _ _
abbrev E93.T : Type := Bool
def E93 : E93.T → Out := (fun x : R93.T => ((R93.enc x, []) : Out))
instance : Inj E93 := ⟨fun a b h => by
 simp only [E93, Prod.mk.injEq, and_true] at h
 exact Inj.inj _ _ h⟩
noncomputable def r93 (s0 : List (List UInt8)) (f1_0 : List UInt8) (f1_1 : List (List UInt8)) : Option Out := Rn 93 [(.pv (.lst 1 (List.map eStr s0))), (.pv (.fn 91 [(.ref [(.str f1_0)]), (.ref [(.lst 1 (List.map eStr f1_1))])]))] []
noncomputable def f93 (s0 : List (List UInt8)) (f1_0 : List UInt8) (f1_1 : List (List UInt8)) : Option Bool := dec E93 (r93 s0 f1_0 f1_1)
theorem s93 {s0 : List (List UInt8)} {f1_0 : List UInt8} {f1_1 : List (List UInt8)} : Imp E93 (r93 s0 f1_0 f1_1) (f93 s0 f1_0 f1_1) := dec_imp _ _
abbrev E97.T : Type := Bool
def E97 : E97.T → Out := (fun x : R97.T => ((R97.enc x, []) : Out))
instance : Inj E97 := ⟨fun a b h => by
 simp only [E97, Prod.mk.injEq, and_true] at h
 exact Inj.inj _ _ h⟩
noncomputable def r97 (x0 : List UInt8) : Option Out := Rn 97 [(.pv (.str x0))] []
noncomputable def f97 (x0 : List UInt8) : Option Bool := dec E97 (r97 x0)
theorem s97 {x0 : List UInt8} : Imp E97 (r97 x0) (f97 x0) := dec_imp _ _
abbrev E98.T : Type := List (List UInt8)
def E98 : E98.T → Out := (fun x : R98.T => ((R98.enc x, []) : Out))
instance : Inj E98 := ⟨fun a b h => by
 simp only [E98, Prod.mk.injEq, and_true] at h
 exact Inj.inj _ _ h⟩
noncomputable def r98 (l0 : List (List UInt8)) (s1 : List UInt8) : Option Out := Rn 98 [(.pv (.lst 1 (List.map eStr l0))), (.pv (.str s1))] []
noncomputable def f98 (l0 : List (List UInt8)) (s1 : List UInt8) : Option (List (List UInt8)) := dec E98 (r98 l0 s1)
theorem s98 {l0 : List (List UInt8)} {s1 : List UInt8} : Imp E98 (r98 l0 s1) (f98 l0 s1) := dec_imp _ _
noncomputable def h98_3 (l0 : List (List UInt8)) (s1 : List UInt8) (v6 : Int) (o5 : List (List UInt8)) : Option Out := headT P cods H prim 98 3 [] [(0, (.pv (.lst 1 (List.map eStr l0)))), (1, (.pv (.str s1))), (5, (.row 5)), (6, (.pv (.int .i64 v6)))] [(5, (.row 9 1 (List.map eStr o5)))]
noncomputable def t98_3 (l0 : List (List UInt8)) (s1 : List UInt8) (v6 : Int) (o5 : List (List UInt8)) : Option (List (List UInt8)) := dec E98 (h98_3 l0 s1 v6 o5)
theorem q98_3 {l0 : List (List UInt8)} {s1 : List UInt8} {v6 : Int} {o5 : List (List UInt8)} : Imp E98 (h98_3 l0 s1 v6 o5) (t98_3 l0 s1 v6 o5) := dec_imp _ _
abbrev E99.T : Type := List (List UInt8)
def E99 : E99.T → Out := (fun x : R99.T => ((R99.enc x, []) : Out))
instance : Inj E99 := ⟨fun a b h => by
 simp only [E99, Prod.mk.injEq, and_true] at h
 exact Inj.inj _ _ h⟩
noncomputable def r99 (d0 : List TypeDecl) (name1 : List UInt8) : Option Out := Rn 99 [(.pv (.lst 3 (List.map TypeDecl.enc d0))), (.pv (.str name1))] []
noncomputable def f99 (d0 : List TypeDecl) (name1 : List UInt8) : Option (List (List UInt8)) := dec E99 (r99 d0 name1)
theorem s99 {d0 : List TypeDecl} {name1 : List UInt8} : Imp E99 (r99 d0 name1) (f99 d0 name1) := dec_imp _ _
noncomputable def h99_5 (d0 : List TypeDecl) (i6 : Int) (o15 : List (List UInt8)) : Option Out := headT P cods H prim 99 5 [] [(0, (.pv (.lst 3 (List.map TypeDecl.enc d0)))), (5, (.row 15)), (6, (.pv (.int .i64 i6)))] [(15, (.row 9 1 (List.map eStr o15)))]
noncomputable def t99_5 (d0 : List TypeDecl) (i6 : Int) (o15 : List (List UInt8)) : Option (List (List UInt8)) := dec E99 (h99_5 d0 i6 o15)
theorem q99_5 {d0 : List TypeDecl} {i6 : Int} {o15 : List (List UInt8)} : Imp E99 (h99_5 d0 i6 o15) (t99_5 d0 i6 o15) := dec_imp _ _
noncomputable def h99_8 (d0 : List TypeDecl) (i6 : Int) (k7 : Int) (o15 : List (List UInt8)) : Option Out := headT P cods H prim 99 8 [] [(0, (.pv (.lst 3 (List.map TypeDecl.enc d0)))), (5, (.row 15)), (6, (.pv (.int .i64 i6))), (7, (.pv (.int .i64 k7)))] [(15, (.row 9 1 (List.map eStr o15)))]
noncomputable def t99_8 (d0 : List TypeDecl) (i6 : Int) (k7 : Int) (o15 : List (List UInt8)) : Option (List (List UInt8)) := dec E99 (h99_8 d0 i6 k7 o15)
theorem q99_8 {d0 : List TypeDecl} {i6 : Int} {k7 : Int} {o15 : List (List UInt8)} : Imp E99 (h99_8 d0 i6 k7 o15) (t99_8 d0 i6 k7 o15) := dec_imp _ _
noncomputable def h99_14 (out8 : List (List UInt8)) (i9 : Int) (o15 : List (List UInt8)) : Option Out := headT P cods H prim 99 14 [] [(5, (.row 15)), (8, (.pv (.lst 1 (List.map eStr out8)))), (9, (.pv (.int .i64 i9)))] [(15, (.row 9 1 (List.map eStr o15)))]
noncomputable def t99_14 (out8 : List (List UInt8)) (i9 : Int) (o15 : List (List UInt8)) : Option (List (List UInt8)) := dec E99 (h99_14 out8 i9 o15)
theorem q99_14 {out8 : List (List UInt8)} {i9 : Int} {o15 : List (List UInt8)} : Imp E99 (h99_14 out8 i9 o15) (t99_14 out8 i9 o15) := dec_imp _ _
abbrev E100.T : Type := (List Int) × Int
def E100 : E100.T → Out := (fun x : R100.T => ((R100.enc x, []) : Out))
instance : Inj E100 := ⟨fun a b h => by
 simp only [E100, Prod.mk.injEq, and_true] at h
 exact Inj.inj _ _ h⟩
noncomputable def r100 (l0 : List Int) : Option Out := Rn 100 [(.pv (.lst 1 (List.map (eInt .i64) l0)))] []
noncomputable def f100 (l0 : List Int) : Option ((List Int) × Int) := dec E100 (r100 l0)
theorem s100 {l0 : List Int} : Imp E100 (r100 l0) (f100 l0) := dec_imp _ _
noncomputable def h100_3 (l0 : List Int) (i5 : Int) (o6 : List Int) : Option Out := headT P cods H prim 100 3 [] [(0, (.pv (.lst 1 (List.map (eInt .i64) l0)))), (4, (.row 6)), (5, (.pv (.int .i64 i5)))] [(6, (.row 37 1 (List.map (eInt .u64) o6)))]
noncomputable def t100_3 (l0 : List Int) (i5 : Int) (o6 : List Int) : Option ((List Int) × Int) := dec E100 (h100_3 l0 i5 o6)
theorem q100_3 {l0 : List Int} {i5 : Int} {o6 : List Int} : Imp E100 (h100_3 l0 i5 o6) (t100_3 l0 i5 o6) := dec_imp _ _
abbrev E101.T : Type := Bool
def E101 : E101.T → Out := (fun x : R101.T => ((R101.enc x, []) : Out))
instance : Inj E101 := ⟨fun a b h => by
 simp only [E101, Prod.mk.injEq, and_true] at h
 exact Inj.inj _ _ h⟩
noncomputable def r101 (l0 : List (List Int)) (b1 : List Int) : Option Out := Rn 101 [(.pv (.lst 1 (List.map (eLst 1 (eInt .u64)) l0))), (.pv (.lst 1 (List.map (eInt .u64) b1)))] []
noncomputable def f101 (l0 : List (List Int)) (b1 : List Int) : Option Bool := dec E101 (r101 l0 b1)
theorem s101 {l0 : List (List Int)} {b1 : List Int} : Imp E101 (r101 l0 b1) (f101 l0 b1) := dec_imp _ _
noncomputable def h101_2 (l0 : List (List Int)) (b1 : List Int) (i5 : Int) : Option Out := headT P cods H prim 101 2 [] [(0, (.pv (.lst 1 (List.map (eLst 1 (eInt .u64)) l0)))), (1, (.pv (.lst 1 (List.map (eInt .u64) b1)))), (5, (.pv (.int .i64 i5)))] []
noncomputable def t101_2 (l0 : List (List Int)) (b1 : List Int) (i5 : Int) : Option Bool := dec E101 (h101_2 l0 b1 i5)
theorem q101_2 {l0 : List (List Int)} {b1 : List Int} {i5 : Int} : Imp E101 (h101_2 l0 b1 i5) (t101_2 l0 b1 i5) := dec_imp _ _
abbrev E102.T : Type := Bool
def E102 : E102.T → Out := (fun x : R102.T => ((R102.enc x, []) : Out))
instance : Inj E102 := ⟨fun a b h => by
 simp only [E102, Prod.mk.injEq, and_true] at h
 exact Inj.inj _ _ h⟩
noncomputable def r102 (a0 : List Int) (b1 : List Int) : Option Out := Rn 102 [(.pv (.lst 1 (List.map (eInt .u64) a0))), (.pv (.lst 1 (List.map (eInt .u64) b1)))] []
noncomputable def f102 (a0 : List Int) (b1 : List Int) : Option Bool := dec E102 (r102 a0 b1)
theorem s102 {a0 : List Int} {b1 : List Int} : Imp E102 (r102 a0 b1) (f102 a0 b1) := dec_imp _ _
abbrev E103.T : Type := Bool
def E103 : E103.T → Out := (fun x : R103.T => ((R103.enc x, []) : Out))
instance : Inj E103 := ⟨fun a b h => by
 simp only [E103, Prod.mk.injEq, and_true] at h
 exact Inj.inj _ _ h⟩
noncomputable def r103 (b0 : List Int) (i1 : Int) : Option Out := Rn 103 [(.pv (.lst 1 (List.map (eInt .u64) b0))), (.pv (.int .i64 i1))] []
noncomputable def f103 (b0 : List Int) (i1 : Int) : Option Bool := dec E103 (r103 b0 i1)
theorem s103 {b0 : List Int} {i1 : Int} : Imp E103 (r103 b0 i1) (f103 b0 i1) := dec_imp _ _
abbrev E104.T : Type := List (List UInt8)
def E104 : E104.T → Out := (fun x : R104.T => ((R104.enc x, []) : Out))
instance : Inj E104 := ⟨fun a b h => by
 simp only [E104, Prod.mk.injEq, and_true] at h
 exact Inj.inj _ _ h⟩
noncomputable def r104 (d0 : List TypeDecl) (l1 : List (List UInt8)) : Option Out := Rn 104 [(.pv (.lst 3 (List.map TypeDecl.enc d0))), (.pv (.lst 1 (List.map eStr l1)))] []
noncomputable def f104 (d0 : List TypeDecl) (l1 : List (List UInt8)) : Option (List (List UInt8)) := dec E104 (r104 d0 l1)
theorem s104 {d0 : List TypeDecl} {l1 : List (List UInt8)} : Imp E104 (r104 d0 l1) (f104 d0 l1) := dec_imp _ _
noncomputable def h104_4 (d0 : List TypeDecl) (all6 : List (List UInt8)) (i7 : Int) (o5 : List (List UInt8)) : Option Out := headT P cods H prim 104 4 [] [(0, (.pv (.lst 3 (List.map TypeDecl.enc d0)))), (5, (.row 5)), (6, (.pv (.lst 1 (List.map eStr all6)))), (7, (.pv (.int .i64 i7)))] [(5, (.row 9 1 (List.map eStr o5)))]
noncomputable def t104_4 (d0 : List TypeDecl) (all6 : List (List UInt8)) (i7 : Int) (o5 : List (List UInt8)) : Option (List (List UInt8)) := dec E104 (h104_4 d0 all6 i7 o5)
theorem q104_4 {d0 : List TypeDecl} {all6 : List (List UInt8)} {i7 : Int} {o5 : List (List UInt8)} : Imp E104 (h104_4 d0 all6 i7 o5) (t104_4 d0 all6 i7 o5) := dec_imp _ _
noncomputable def h104_9 (d0 : List TypeDecl) (all6 : List (List UInt8)) (i7 : Int) (up8 : List (List UInt8)) (free9 : Bool) (k10 : Int) (o5 : List (List UInt8)) : Option Out := headT P cods H prim 104 9 [] [(0, (.pv (.lst 3 (List.map TypeDecl.enc d0)))), (5, (.row 5)), (6, (.pv (.lst 1 (List.map eStr all6)))), (7, (.pv (.int .i64 i7))), (8, (.pv (.lst 1 (List.map eStr up8)))), (9, (.pv (.bool free9))), (10, (.pv (.int .i64 k10)))] [(5, (.row 9 1 (List.map eStr o5)))]
noncomputable def t104_9 (d0 : List TypeDecl) (all6 : List (List UInt8)) (i7 : Int) (up8 : List (List UInt8)) (free9 : Bool) (k10 : Int) (o5 : List (List UInt8)) : Option (List (List UInt8)) := dec E104 (h104_9 d0 all6 i7 up8 free9 k10 o5)
theorem q104_9 {d0 : List TypeDecl} {all6 : List (List UInt8)} {i7 : Int} {up8 : List (List UInt8)} {free9 : Bool} {k10 : Int} {o5 : List (List UInt8)} : Imp E104 (h104_9 d0 all6 i7 up8 free9 k10 o5) (t104_9 d0 all6 i7 up8 free9 k10 o5) := dec_imp _ _
abbrev E105.T : Type := Int
def E105 : E105.T → Out := (fun x : R105.T => ((R105.enc x, []) : Out))
instance : Inj E105 := ⟨fun a b h => by
 simp only [E105, Prod.mk.injEq, and_true] at h
 exact Inj.inj _ _ h⟩
noncomputable def r105 (b0 : List Int) : Option Out := Rn 105 [(.pv (.lst 1 (List.map (eInt .u64) b0)))] []
noncomputable def f105 (b0 : List Int) : Option Int := dec E105 (r105 b0)
theorem s105 {b0 : List Int} : Imp E105 (r105 b0) (f105 b0) := dec_imp _ _
abbrev E106.T : Type := Int
def E106 : E106.T → Out := (fun x : R106.T => ((R106.enc x, []) : Out))
instance : Inj E106 := ⟨fun a b h => by
 simp only [E106, Prod.mk.injEq, and_true] at h
 exact Inj.inj _ _ h⟩
noncomputable def r106 (b0 : List Int) (i1 : Int) : Option Out := Rn 106 [(.pv (.lst 1 (List.map (eInt .u64) b0))), (.pv (.int .i64 i1))] []
noncomputable def f106 (b0 : List Int) (i1 : Int) : Option Int := dec E106 (r106 b0 i1)
theorem s106 {b0 : List Int} {i1 : Int} : Imp E106 (r106 b0 i1) (f106 b0 i1) := dec_imp _ _
abbrev E107.T : Type := Int
def E107 : E107.T → Out := (fun x : R107.T => ((R107.enc x, []) : Out))
instance : Inj E107 := ⟨fun a b h => by
 simp only [E107, Prod.mk.injEq, and_true] at h
 exact Inj.inj _ _ h⟩
noncomputable def r107 (b0 : List Int) (i1 : Int) : Option Out := Rn 107 [(.pv (.lst 1 (List.map (eInt .u64) b0))), (.pv (.int .i64 i1))] []
noncomputable def f107 (b0 : List Int) (i1 : Int) : Option Int := dec E107 (r107 b0 i1)
theorem s107 {b0 : List Int} {i1 : Int} : Imp E107 (r107 b0 i1) (f107 b0 i1) := dec_imp _ _
abbrev E108.T : Type := List Int
def E108 : E108.T → Out := (fun x : R108.T => ((R108.enc x, []) : Out))
instance : Inj E108 := ⟨fun a b h => by
 simp only [E108, Prod.mk.injEq, and_true] at h
 exact Inj.inj _ _ h⟩
noncomputable def r108 (a0 : List Int) (b1 : List Int) : Option Out := Rn 108 [(.pv (.lst 1 (List.map (eInt .u64) a0))), (.pv (.lst 1 (List.map (eInt .u64) b1)))] []
noncomputable def f108 (a0 : List Int) (b1 : List Int) : Option (List Int) := dec E108 (r108 a0 b1)
theorem s108 {a0 : List Int} {b1 : List Int} : Imp E108 (r108 a0 b1) (f108 a0 b1) := dec_imp _ _
noncomputable def h108_3 (a0 : List Int) (b1 : List Int) (i6 : Int) (o5 : List Int) : Option Out := headT P cods H prim 108 3 [] [(0, (.pv (.lst 1 (List.map (eInt .u64) a0)))), (1, (.pv (.lst 1 (List.map (eInt .u64) b1)))), (5, (.row 5)), (6, (.pv (.int .i64 i6)))] [(5, (.row 37 1 (List.map (eInt .u64) o5)))]
noncomputable def t108_3 (a0 : List Int) (b1 : List Int) (i6 : Int) (o5 : List Int) : Option (List Int) := dec E108 (h108_3 a0 b1 i6 o5)
theorem q108_3 {a0 : List Int} {b1 : List Int} {i6 : Int} {o5 : List Int} : Imp E108 (h108_3 a0 b1 i6 o5) (t108_3 a0 b1 i6 o5) := dec_imp _ _
abbrev E109.T : Type := Int
def E109 : E109.T → Out := (fun x : R109.T => ((R109.enc x, []) : Out))
instance : Inj E109 := ⟨fun a b h => by
 simp only [E109, Prod.mk.injEq, and_true] at h
 exact Inj.inj _ _ h⟩
abbrev E110.T : Type := Bool
def E110 : E110.T → Out := (fun x : R110.T => ((R110.enc x, []) : Out))
instance : Inj E110 := ⟨fun a b h => by
 simp only [E110, Prod.mk.injEq, and_true] at h
 exact Inj.inj _ _ h⟩
noncomputable def r110 (s0 : List UInt8) : Option Out := Rn 110 [(.pv (.str s0))] []
noncomputable def f110 (s0 : List UInt8) : Option Bool := dec E110 (r110 s0)
theorem s110 {s0 : List UInt8} : Imp E110 (r110 s0) (f110 s0) := dec_imp _ _
abbrev E111.T : Type := Int
def E111 : E111.T → Out := (fun x : R111.T => ((R111.enc x, []) : Out))
instance : Inj E111 := ⟨fun a b h => by
 simp only [E111, Prod.mk.injEq, and_true] at h
 exact Inj.inj _ _ h⟩
noncomputable def r111 (d0 : List TypeDecl) (name1 : List UInt8) : Option Out := Rn 111 [(.pv (.lst 3 (List.map TypeDecl.enc d0))), (.pv (.str name1))] []
noncomputable def f111 (d0 : List TypeDecl) (name1 : List UInt8) : Option Int := dec E111 (r111 d0 name1)
theorem s111 {d0 : List TypeDecl} {name1 : List UInt8} : Imp E111 (r111 d0 name1) (f111 d0 name1) := dec_imp _ _
noncomputable def h111_2 (d0 : List TypeDecl) (name1 : List UInt8) (i5 : Int) : Option Out := headT P cods H prim 111 2 [] [(0, (.pv (.lst 3 (List.map TypeDecl.enc d0)))), (1, (.pv (.str name1))), (5, (.pv (.int .i64 i5)))] []
noncomputable def t111_2 (d0 : List TypeDecl) (name1 : List UInt8) (i5 : Int) : Option Int := dec E111 (h111_2 d0 name1 i5)
theorem q111_2 {d0 : List TypeDecl} {name1 : List UInt8} {i5 : Int} : Imp E111 (h111_2 d0 name1 i5) (t111_2 d0 name1 i5) := dec_imp _ _
abbrev E112.T : Type := Bool
def E112 : E112.T → Out := (fun x : R112.T => ((R112.enc x, []) : Out))
instance : Inj E112 := ⟨fun a b h => by
 simp only [E112, Prod.mk.injEq, and_true] at h
 exact Inj.inj _ _ h⟩
noncomputable def r112 (x0 : TypeDecl) (done1 : List (List UInt8)) : Option Out := Rn 112 [(.pv (.agg (TypeDecl.enc x0))), (.pv (.lst 1 (List.map eStr done1)))] []
noncomputable def f112 (x0 : TypeDecl) (done1 : List (List UInt8)) : Option Bool := dec E112 (r112 x0 done1)
theorem s112 {x0 : TypeDecl} {done1 : List (List UInt8)} : Imp E112 (r112 x0 done1) (f112 x0 done1) := dec_imp _ _
noncomputable def h112_2 (done1 : List (List UInt8)) (i5 : Int) (o2 : TypeDecl) : Option Out := headT P cods H prim 112 2 [] [(1, (.pv (.lst 1 (List.map eStr done1)))), (2, (.ptr 2 0)), (5, (.pv (.int .i64 i5)))] [(2, (.box 57 (List.map .pv (TypeDecl.enc o2))))]
noncomputable def t112_2 (done1 : List (List UInt8)) (i5 : Int) (o2 : TypeDecl) : Option Bool := dec E112 (h112_2 done1 i5 o2)
theorem q112_2 {done1 : List (List UInt8)} {i5 : Int} {o2 : TypeDecl} : Imp E112 (h112_2 done1 i5 o2) (t112_2 done1 i5 o2) := dec_imp _ _
abbrev E113.T : Type := Bool
def E113 : E113.T → Out := (fun x : R113.T => ((R113.enc x, []) : Out))
instance : Inj E113 := ⟨fun a b h => by
 simp only [E113, Prod.mk.injEq, and_true] at h
 exact Inj.inj _ _ h⟩
noncomputable def r113 (s0 : List TypeDecl) : Option Out := Rn 113 [(.pv (.lst 3 (List.map TypeDecl.enc s0))), (.pv (.fn 114 []))] []
noncomputable def f113 (s0 : List TypeDecl) : Option Bool := dec E113 (r113 s0)
theorem s113 {s0 : List TypeDecl} : Imp E113 (r113 s0) (f113 s0) := dec_imp _ _
abbrev E114.T : Type := Bool
def E114 : E114.T → Out := (fun x : R114.T => ((R114.enc x, []) : Out))
instance : Inj E114 := ⟨fun a b h => by
 simp only [E114, Prod.mk.injEq, and_true] at h
 exact Inj.inj _ _ h⟩
noncomputable def r114 (x0 : TypeDecl) : Option Out := Rn 114 [(.pv (.agg (TypeDecl.enc x0)))] []
noncomputable def f114 (x0 : TypeDecl) : Option Bool := dec E114 (r114 x0)
theorem s114 {x0 : TypeDecl} : Imp E114 (r114 x0) (f114 x0) := dec_imp _ _
abbrev E115.T : Type := Bool
def E115 : E115.T → Out := (fun x : R115.T => ((R115.enc x, []) : Out))
instance : Inj E115 := ⟨fun a b h => by
 simp only [E115, Prod.mk.injEq, and_true] at h
 exact Inj.inj _ _ h⟩
noncomputable def r115 (s0 : List UInt8) : Option Out := Rn 115 [(.pv (.str s0))] []
noncomputable def f115 (s0 : List UInt8) : Option Bool := dec E115 (r115 s0)
theorem s115 {s0 : List UInt8} : Imp E115 (r115 s0) (f115 s0) := dec_imp _ _
abbrev E116.T : Type := List UInt8
def E116 : E116.T → Out := (fun x : R116.T => ((R116.enc x, []) : Out))
instance : Inj E116 := ⟨fun a b h => by
 simp only [E116, Prod.mk.injEq, and_true] at h
 exact Inj.inj _ _ h⟩
noncomputable def r116 (x0 : List (List UInt8)) : Option Out := Rn 116 [(.pv (.lst 1 (List.map eStr x0)))] []
noncomputable def f116 (x0 : List (List UInt8)) : Option (List UInt8) := dec E116 (r116 x0)
theorem s116 {x0 : List (List UInt8)} : Imp E116 (r116 x0) (f116 x0) := dec_imp _ _
noncomputable def h116_5 (x0 : List (List UInt8)) (m3 : List UInt8) (i4 : Int) : Option Out := headT P cods H prim 116 5 [] [(0, (.pv (.lst 1 (List.map eStr x0)))), (3, (.pv (.str m3))), (4, (.pv (.int .i64 i4)))] []
noncomputable def t116_5 (x0 : List (List UInt8)) (m3 : List UInt8) (i4 : Int) : Option (List UInt8) := dec E116 (h116_5 x0 m3 i4)
theorem q116_5 {x0 : List (List UInt8)} {m3 : List UInt8} {i4 : Int} : Imp E116 (h116_5 x0 m3 i4) (t116_5 x0 m3 i4) := dec_imp _ _
abbrev E117r.T : Type := Nat × (List (List UInt8))
def E117r : E117r.T → Out := (fun x : Nat × (List (List UInt8)) => ((R117.enc x.1, [(10000, .row 9 1 (List.map eStr x.2))]) : Out))
instance : Inj E117r := ⟨fun a b h => by
 obtain ⟨a0, a1⟩ := a
 obtain ⟨b0, b1⟩ := b
 simp only [E117r, Prod.mk.injEq, List.cons.injEq, Ob.row.injEq, Ob.mp.injEq, and_true, true_and] at h
 obtain ⟨h0, h1⟩ := h
 rw [Inj.inj _ _ h0, map_inj Inj.inj _ _ h1]⟩
noncomputable def r117 (del1_0 : List UInt8) (w10000 : List (List UInt8)) : Option Out := Rn 117 [(.row 10000), (.pv (.fn 118 [(.ref [(.str del1_0)])]))] [(10000, (.row 9 1 (List.map eStr w10000)))]
noncomputable def f117 (del1_0 : List UInt8) (w10000 : List (List UInt8)) : Option (Nat × (List (List UInt8))) := dec E117r (r117 del1_0 w10000)
theorem s117 {del1_0 : List UInt8} {w10000 : List (List UInt8)} : Imp E117r (r117 del1_0 w10000) (f117 del1_0 w10000) := dec_imp _ _
noncomputable def h117_5 (del1_0 : List UInt8) (i5 : Int) (j6 : Int) (o10000 : List (List UInt8)) : Option Out := headT P cods H prim 117 5 [10000] [(0, (.row 10000)), (1, (.pv (.fn 118 [(.ref [(.str del1_0)])]))), (5, (.pv (.int .i64 i5))), (6, (.pv (.int .i64 j6)))] [(10000, (.row 9 1 (List.map eStr o10000)))]
noncomputable def t117_5 (del1_0 : List UInt8) (i5 : Int) (j6 : Int) (o10000 : List (List UInt8)) : Option (Nat × (List (List UInt8))) := dec E117r (h117_5 del1_0 i5 j6 o10000)
theorem q117_5 {del1_0 : List UInt8} {i5 : Int} {j6 : Int} {o10000 : List (List UInt8)} : Imp E117r (h117_5 del1_0 i5 j6 o10000) (t117_5 del1_0 i5 j6 o10000) := dec_imp _ _
abbrev E118.T : Type := Bool
def E118 : E118.T → Out := (fun x : R118.T => ((R118.enc x, []) : Out))
instance : Inj E118 := ⟨fun a b h => by
 simp only [E118, Prod.mk.injEq, and_true] at h
 exact Inj.inj _ _ h⟩
noncomputable def r118 (s0 : List UInt8) (a1 : List UInt8) : Option Out := Rn 118 [(.pv (.str s0)), (.pv (.ref [(.str a1)]))] []
noncomputable def f118 (s0 : List UInt8) (a1 : List UInt8) : Option Bool := dec E118 (r118 s0 a1)
theorem s118 {s0 : List UInt8} {a1 : List UInt8} : Imp E118 (r118 s0 a1) (f118 s0 a1) := dec_imp _ _
abbrev E120.T : Type := Bool
def E120 : E120.T → Out := (fun x : R120.T => ((R120.enc x, []) : Out))
instance : Inj E120 := ⟨fun a b h => by
 simp only [E120, Prod.mk.injEq, and_true] at h
 exact Inj.inj _ _ h⟩
noncomputable def r120 (x0 : List UInt8) (y1 : List UInt8) : Option Out := Rn 120 [(.pv (.str x0)), (.pv (.str y1))] []
noncomputable def f120 (x0 : List UInt8) (y1 : List UInt8) : Option Bool := dec E120 (r120 x0 y1)
theorem s120 {x0 : List UInt8} {y1 : List UInt8} : Imp E120 (r120 x0 y1) (f120 x0 y1) := dec_imp _ _
abbrev E121.T : Type := Bool
def E121 : E121.T → Out := (fun x : R121.T => ((R121.enc x, []) : Out))
instance : Inj E121 := ⟨fun a b h => by
 simp only [E121, Prod.mk.injEq, and_true] at h
 exact Inj.inj _ _ h⟩
noncomputable def r121 (x0 : List UInt8) : Option Out := Rn 121 [(.pv (.str x0))] []
noncomputable def f121 (x0 : List UInt8) : Option Bool := dec E121 (r121 x0)
theorem s121 {x0 : List UInt8} : Imp E121 (r121 x0) (f121 x0) := dec_imp _ _
abbrev E124r.T : Type := Nat × (List (List UInt8))
def E124r : E124r.T → Out := (fun x : Nat × (List (List UInt8)) => ((R124.enc x.1, [(10000, .row 9 1 (List.map eStr x.2))]) : Out))
instance : Inj E124r := ⟨fun a b h => by
 obtain ⟨a0, a1⟩ := a
 obtain ⟨b0, b1⟩ := b
 simp only [E124r, Prod.mk.injEq, List.cons.injEq, Ob.row.injEq, Ob.mp.injEq, and_true, true_and] at h
 obtain ⟨h0, h1⟩ := h
 rw [Inj.inj _ _ h0, map_inj Inj.inj _ _ h1]⟩
noncomputable def r124 (w10000 : List (List UInt8)) : Option Out := Rn 124 [(.row 10000)] [(10000, (.row 9 1 (List.map eStr w10000)))]
noncomputable def f124 (w10000 : List (List UInt8)) : Option (Nat × (List (List UInt8))) := dec E124r (r124 w10000)
theorem s124 {w10000 : List (List UInt8)} : Imp E124r (r124 w10000) (f124 w10000) := dec_imp _ _
noncomputable def h124_4 (k3 : Int) (o10000 : List (List UInt8)) : Option Out := headT P cods H prim 124 4 [10000] [(0, (.row 10000)), (3, (.pv (.int .i64 k3)))] [(10000, (.row 9 1 (List.map eStr o10000)))]
noncomputable def t124_4 (k3 : Int) (o10000 : List (List UInt8)) : Option (Nat × (List (List UInt8))) := dec E124r (h124_4 k3 o10000)
theorem q124_4 {k3 : Int} {o10000 : List (List UInt8)} : Imp E124r (h124_4 k3 o10000) (t124_4 k3 o10000) := dec_imp _ _
noncomputable def h124_9 (k3 : Int) (s24_0 : Nat) (s24_1 : Nat) (k25 : Int) (o10000 : List (List UInt8)) : Option Out := headT P cods H prim 124 9 [10000] [(0, (.row 10000)), (3, (.pv (.int .i64 k3))), (4, (.sub 10000 1 s24_0 s24_1)), (5, (.pv (.int .i64 k25)))] [(10000, (.row 9 1 (List.map eStr o10000)))]
noncomputable def t124_9 (k3 : Int) (s24_0 : Nat) (s24_1 : Nat) (k25 : Int) (o10000 : List (List UInt8)) : Option (Nat × (List (List UInt8))) := dec E124r (h124_9 k3 s24_0 s24_1 k25 o10000)
theorem q124_9 {k3 : Int} {s24_0 : Nat} {s24_1 : Nat} {k25 : Int} {o10000 : List (List UInt8)} : Imp E124r (h124_9 k3 s24_0 s24_1 k25 o10000) (t124_9 k3 s24_0 s24_1 k25 o10000) := dec_imp _ _
abbrev E125.T : Type := Int
def E125 : E125.T → Out := (fun x : R125.T => ((R125.enc x, []) : Out))
instance : Inj E125 := ⟨fun a b h => by
 simp only [E125, Prod.mk.injEq, and_true] at h
 exact Inj.inj _ _ h⟩
noncomputable def r125 (s0 : List (List UInt8)) (v1 : List UInt8) : Option Out := Rn 125 [(.pv (.lst 1 (List.map eStr s0))), (.pv (.str v1))] []
noncomputable def f125 (s0 : List (List UInt8)) (v1 : List UInt8) : Option Int := dec E125 (r125 s0 v1)
theorem s125 {s0 : List (List UInt8)} {v1 : List UInt8} : Imp E125 (r125 s0 v1) (f125 s0 v1) := dec_imp _ _
noncomputable def h125_2 (s0 : List (List UInt8)) (v1 : List UInt8) (v7 : Int) (v8 : Int) : Option Out := headT P cods H prim 125 2 [] [(0, (.pv (.lst 1 (List.map eStr s0)))), (1, (.pv (.str v1))), (7, (.pv (.int .i64 v7))), (8, (.pv (.int .i64 v8)))] []
noncomputable def t125_2 (s0 : List (List UInt8)) (v1 : List UInt8) (v7 : Int) (v8 : Int) : Option Int := dec E125 (h125_2 s0 v1 v7 v8)
theorem q125_2 {s0 : List (List UInt8)} {v1 : List UInt8} {v7 : Int} {v8 : Int} : Imp E125 (h125_2 s0 v1 v7 v8) (t125_2 s0 v1 v7 v8) := dec_imp _ _
abbrev E126.T : Type := Int
def E126 : E126.T → Out := (fun x : R126.T => ((R126.enc x, []) : Out))
instance : Inj E126 := ⟨fun a b h => by
 simp only [E126, Prod.mk.injEq, and_true] at h
 exact Inj.inj _ _ h⟩
noncomputable def r126 (s0 : List (List UInt8)) (f1_0 : List UInt8) (f1_1 : List (List UInt8)) : Option Out := Rn 126 [(.pv (.lst 1 (List.map eStr s0))), (.pv (.fn 91 [(.ref [(.str f1_0)]), (.ref [(.lst 1 (List.map eStr f1_1))])]))] []
noncomputable def f126 (s0 : List (List UInt8)) (f1_0 : List UInt8) (f1_1 : List (List UInt8)) : Option Int := dec E126 (r126 s0 f1_0 f1_1)
theorem s126 {s0 : List (List UInt8)} {f1_0 : List UInt8} {f1_1 : List (List UInt8)} : Imp E126 (r126 s0 f1_0 f1_1) (f126 s0 f1_0 f1_1) := dec_imp _ _
noncomputable def r126a (s0 : List (List UInt8)) (f1_0 : List UInt8) : Option Out := Rn 126 [(.pv (.lst 1 (List.map eStr s0))), (.pv (.fn 118 [(.ref [(.str f1_0)])]))] []
noncomputable def f126a (s0 : List (List UInt8)) (f1_0 : List UInt8) : Option Int := dec E126 (r126a s0 f1_0)
theorem s126a {s0 : List (List UInt8)} {f1_0 : List UInt8} : Imp E126 (r126a s0 f1_0) (f126a s0 f1_0) := dec_imp _ _
noncomputable def h126_2 (s0 : List (List UInt8)) (f1_0 : List UInt8) (f1_1 : List (List UInt8)) (v7 : Int) (v8 : Int) : Option Out := headT P cods H prim 126 2 [] [(0, (.pv (.lst 1 (List.map eStr s0)))), (1, (.pv (.fn 91 [(.ref [(.str f1_0)]), (.ref [(.lst 1 (List.map eStr f1_1))])]))), (7, (.pv (.int .i64 v7))), (8, (.pv (.int .i64 v8)))] []
noncomputable def t126_2 (s0 : List (List UInt8)) (f1_0 : List UInt8) (f1_1 : List (List UInt8)) (v7 : Int) (v8 : Int) : Option Int := dec E126 (h126_2 s0 f1_0 f1_1 v7 v8)
theorem q126_2 {s0 : List (List UInt8)} {f1_0 : List UInt8} {f1_1 : List (List UInt8)} {v7 : Int} {v8 : Int} : Imp E126 (h126_2 s0 f1_0 f1_1 v7 v8) (t126_2 s0 f1_0 f1_1 v7 v8) := dec_imp _ _
noncomputable def h126_2a (s0 : List (List UInt8)) (f1_0 : List UInt8) (v7 : Int) (v8 : Int) : Option Out := headT P cods H prim 126 2 [] [(0, (.pv (.lst 1 (List.map eStr s0)))), (1, (.pv (.fn 118 [(.ref [(.str f1_0)])]))), (7, (.pv (.int .i64 v7))), (8, (.pv (.int .i64 v8)))] []
noncomputable def t126_2a (s0 : List (List UInt8)) (f1_0 : List UInt8) (v7 : Int) (v8 : Int) : Option Int := dec E126 (h126_2a s0 f1_0 v7 v8)
theorem q126_2a {s0 : List (List UInt8)} {f1_0 : List UInt8} {v7 : Int} {v8 : Int} : Imp E126 (h126_2a s0 f1_0 v7 v8) (t126_2a s0 f1_0 v7 v8) := dec_imp _ _
abbrev E137.T : Type := List (List UInt8)
def E137 : E137.T → Out := (fun x : R137.T => ((R137.enc x, []) : Out))
instance : Inj E137 := ⟨fun a b h => by
 simp only [E137, Prod.mk.injEq, and_true] at h
 exact Inj.inj _ _ h⟩
noncomputable def r137 (d0 : List TypeDecl) (l1 : List (List UInt8)) : Option Out := Rn 137 [(.pv (.lst 3 (List.map TypeDecl.enc d0))), (.pv (.lst 1 (List.map eStr l1)))] []
noncomputable def f137 (d0 : List TypeDecl) (l1 : List (List UInt8)) : Option (List (List UInt8)) := dec E137 (r137 d0 l1)
theorem s137 {d0 : List TypeDecl} {l1 : List (List UInt8)} : Imp E137 (r137 d0 l1) (f137 d0 l1) := dec_imp _ _
noncomputable def h137_3 (d0 : List TypeDecl) (l1 : List (List UInt8)) (out5 : List (List UInt8)) (i6 : Int) : Option Out := headT P cods H prim 137 3 [] [(0, (.pv (.lst 3 (List.map TypeDecl.enc d0)))), (1, (.pv (.lst 1 (List.map eStr l1)))), (5, (.pv (.lst 1 (List.map eStr out5)))), (6, (.pv (.int .i64 i6)))] []
noncomputable def t137_3 (d0 : List TypeDecl) (l1 : List (List UInt8)) (out5 : List (List UInt8)) (i6 : Int) : Option (List (List UInt8)) := dec E137 (h137_3 d0 l1 out5 i6)
theorem q137_3 {d0 : List TypeDecl} {l1 : List (List UInt8)} {out5 : List (List UInt8)} {i6 : Int} : Imp E137 (h137_3 d0 l1 out5 i6) (t137_3 d0 l1 out5 i6) := dec_imp _ _
abbrev E138.T : Type := List (List UInt8)
def E138 : E138.T → Out := (fun x : R138.T => ((R138.enc x, []) : Out))
instance : Inj E138 := ⟨fun a b h => by
 simp only [E138, Prod.mk.injEq, and_true] at h
 exact Inj.inj _ _ h⟩
noncomputable def r138 (d0 : List TypeDecl) (name1 : List UInt8) : Option Out := Rn 138 [(.pv (.lst 3 (List.map TypeDecl.enc d0))), (.pv (.str name1))] []
noncomputable def f138 (d0 : List TypeDecl) (name1 : List UInt8) : Option (List (List UInt8)) := dec E138 (r138 d0 name1)
theorem s138 {d0 : List TypeDecl} {name1 : List UInt8} : Imp E138 (r138 d0 name1) (f138 d0 name1) := dec_imp _ _
noncomputable def h138_5 (d0 : List TypeDecl) (i6 : Int) (o16 : List (List UInt8)) : Option Out := headT P cods H prim 138 5 [] [(0, (.pv (.lst 3 (List.map TypeDecl.enc d0)))), (5, (.row 16)), (6, (.pv (.int .i64 i6)))] [(16, (.row 9 1 (List.map eStr o16)))]
noncomputable def t138_5 (d0 : List TypeDecl) (i6 : Int) (o16 : List (List UInt8)) : Option (List (List UInt8)) := dec E138 (h138_5 d0 i6 o16)
theorem q138_5 {d0 : List TypeDecl} {i6 : Int} {o16 : List (List UInt8)} : Imp E138 (h138_5 d0 i6 o16) (t138_5 d0 i6 o16) := dec_imp _ _
noncomputable def h138_9 (d0 : List TypeDecl) (i6 : Int) (l7 : List (List UInt8)) (k8 : Int) (o16 : List (List UInt8)) : Option Out := headT P cods H prim 138 9 [] [(0, (.pv (.lst 3 (List.map TypeDecl.enc d0)))), (5, (.row 16)), (6, (.pv (.int .i64 i6))), (7, (.pv (.lst 1 (List.map eStr l7)))), (8, (.pv (.int .i64 k8)))] [(16, (.row 9 1 (List.map eStr o16)))]
noncomputable def t138_9 (d0 : List TypeDecl) (i6 : Int) (l7 : List (List UInt8)) (k8 : Int) (o16 : List (List UInt8)) : Option (List (List UInt8)) := dec E138 (h138_9 d0 i6 l7 k8 o16)
theorem q138_9 {d0 : List TypeDecl} {i6 : Int} {l7 : List (List UInt8)} {k8 : Int} {o16 : List (List UInt8)} : Imp E138 (h138_9 d0 i6 l7 k8 o16) (t138_9 d0 i6 l7 k8 o16) := dec_imp _ _
noncomputable def h138_15 (out9 : List (List UInt8)) (i10 : Int) (o16 : List (List UInt8)) : Option Out := headT P cods H prim 138 15 [] [(5, (.row 16)), (9, (.pv (.lst 1 (List.map eStr out9)))), (10, (.pv (.int .i64 i10)))] [(16, (.row 9 1 (List.map eStr o16)))]
noncomputable def t138_15 (out9 : List (List UInt8)) (i10 : Int) (o16 : List (List UInt8)) : Option (List (List UInt8)) := dec E138 (h138_15 out9 i10 o16)
theorem q138_15 {out9 : List (List UInt8)} {i10 : Int} {o16 : List (List UInt8)} : Imp E138 (h138_15 out9 i10 o16) (t138_15 out9 i10 o16) := dec_imp _ _
abbrev E139.T : Type := List Int
def E139 : E139.T → Out := (fun x : R139.T => ((R139.enc x, []) : Out))
instance : Inj E139 := ⟨fun a b h => by
 simp only [E139, Prod.mk.injEq, and_true] at h
 exact Inj.inj _ _ h⟩
noncomputable def r139 (b0 : List Int) : Option Out := Rn 139 [(.pv (.lst 1 (List.map (eInt .u64) b0)))] []
noncomputable def f139 (b0 : List Int) : Option (List Int) := dec E139 (r139 b0)
theorem s139 {b0 : List Int} : Imp E139 (r139 b0) (f139 b0) := dec_imp _ _
noncomputable def h139_3 (b0 : List Int) (i4 : Int) (o3 : List Int) : Option Out := headT P cods H prim 139 3 [] [(0, (.pv (.lst 1 (List.map (eInt .u64) b0)))), (3, (.row 3)), (4, (.pv (.int .i64 i4)))] [(3, (.row 3 1 (List.map (eInt .i64) o3)))]
noncomputable def t139_3 (b0 : List Int) (i4 : Int) (o3 : List Int) : Option (List Int) := dec E139 (h139_3 b0 i4 o3)
theorem q139_3 {b0 : List Int} {i4 : Int} {o3 : List Int} : Imp E139 (h139_3 b0 i4 o3) (t139_3 b0 i4 o3) := dec_imp _ _
abbrev E140.T : Type := Bool
def E140 : E140.T → Out := (fun x : R140.T => ((R140.enc x, []) : Out))
instance : Inj E140 := ⟨fun a b h => by
 simp only [E140, Prod.mk.injEq, and_true] at h
 exact Inj.inj _ _ h⟩
noncomputable def r140 (s0 : List UInt8) (big1 : Bool) : Option Out := Rn 140 [(.pv (.str s0)), (.pv (.bool big1))] []
noncomputable def f140 (s0 : List UInt8) (big1 : Bool) : Option Bool := dec E140 (r140 s0 big1)
theorem s140 {s0 : List UInt8} {big1 : Bool} : Imp E140 (r140 s0 big1) (f140 s0 big1) := dec_imp _ _
noncomputable def h140_4 (s0 : List UInt8) (big1 : Bool) (i5 : Int) : Option Out := headT P cods H prim 140 4 [] [(0, (.pv (.str s0))), (1, (.pv (.bool big1))), (5, (.pv (.int .i64 i5)))] []
noncomputable def t140_4 (s0 : List UInt8) (big1 : Bool) (i5 : Int) : Option Bool := dec E140 (h140_4 s0 big1 i5)
theorem q140_4 {s0 : List UInt8} {big1 : Bool} {i5 : Int} : Imp E140 (h140_4 s0 big1 i5) (t140_4 s0 big1 i5) := dec_imp _ _
abbrev E141.T : Type := Int
def E141 : E141.T → Out := (fun x : R141.T => ((R141.enc x, []) : Out))
instance : Inj E141 := ⟨fun a b h => by
 simp only [E141, Prod.mk.injEq, and_true] at h
 exact Inj.inj _ _ h⟩
noncomputable def r141 (s0 : List TypeDecl) : Option Out := Rn 141 [(.pv (.lst 3 (List.map TypeDecl.enc s0))), (.pv (.fn 114 []))] []
noncomputable def f141 (s0 : List TypeDecl) : Option Int := dec E141 (r141 s0)
theorem s141 {s0 : List TypeDecl} : Imp E141 (r141 s0) (f141 s0) := dec_imp _ _
noncomputable def h141_2 (s0 : List TypeDecl) (v7 : Int) (v8 : Int) : Option Out := headT P cods H prim 141 2 [] [(0, (.pv (.lst 3 (List.map TypeDecl.enc s0)))), (1, (.pv (.fn 114 []))), (7, (.pv (.int .i64 v7))), (8, (.pv (.int .i64 v8)))] []
noncomputable def t141_2 (s0 : List TypeDecl) (v7 : Int) (v8 : Int) : Option Int := dec E141 (h141_2 s0 v7 v8)
theorem q141_2 {s0 : List TypeDecl} {v7 : Int} {v8 : Int} : Imp E141 (h141_2 s0 v7 v8) (t141_2 s0 v7 v8) := dec_imp _ _
abbrev E142.T : Type := Bool
def E142 : E142.T → Out := (fun x : R142.T => ((R142.enc x, []) : Out))
instance : Inj E142 := ⟨fun a b h => by
 simp only [E142, Prod.mk.injEq, and_true] at h
 exact Inj.inj _ _ h⟩
noncomputable def r142 (s0 : List UInt8) : Option Out := Rn 142 [(.pv (.str s0)), (.pv (.fn 143 []))] []
noncomputable def f142 (s0 : List UInt8) : Option Bool := dec E142 (r142 s0)
theorem s142 {s0 : List UInt8} : Imp E142 (r142 s0) (f142 s0) := dec_imp _ _
noncomputable def h142_4 (o16_s : List UInt8) (o16_p : Nat) : Option Out := headT P cods H prim 142 4 [] [(1, (.pv (.fn 143 []))), (16, (.ptr 16 0))] [(16, (.it o16_s o16_p))]
noncomputable def t142_4 (o16_s : List UInt8) (o16_p : Nat) : Option Bool := dec E142 (h142_4 o16_s o16_p)
theorem q142_4 {o16_s : List UInt8} {o16_p : Nat} : Imp E142 (h142_4 o16_s o16_p) (t142_4 o16_s o16_p) := dec_imp _ _
abbrev E143.T : Type := Bool
def E143 : E143.T → Out := (fun x : R143.T => ((R143.enc x, []) : Out))
instance : Inj E143 := ⟨fun a b h => by
 simp only [E143, Prod.mk.injEq, and_true] at h
 exact Inj.inj _ _ h⟩
noncomputable def r143 (c0 : Int) : Option Out := Rn 143 [(.pv (.int .i32 c0))] []
noncomputable def f143 (c0 : Int) : Option Bool := dec E143 (r143 c0)
theorem s143 {c0 : Int} : Imp E143 (r143 c0) (f143 c0) := dec_imp _ _
abbrev E159.T : Type := Bool
def E159 : E159.T → Out := (fun x : R159.T => ((R159.enc x, []) : Out))
instance : Inj E159 := ⟨fun a b h => by
 simp only [E159, Prod.mk.injEq, and_true] at h
 exact Inj.inj _ _ h⟩
noncomputable def r159 (c0 : Int) : Option Out := Rn 159 [(.pv (.int .u8 c0))] []
noncomputable def f159 (c0 : Int) : Option Bool := dec E159 (r159 c0)
theorem s159 {c0 : Int} : Imp E159 (r159 c0) (f159 c0) := dec_imp _ _
abbrev E160.T : Type := Bool
def E160 : E160.T → Out := (fun x : R160.T => ((R160.enc x, []) : Out))
instance : Inj E160 := ⟨fun a b h => by
 simp only [E160, Prod.mk.injEq, and_true] at h
 exact Inj.inj _ _ h⟩
noncomputable def r160 (c0 : Int) (big1 : Bool) : Option Out := Rn 160 [(.pv (.int .u8 c0)), (.pv (.bool big1))] []
noncomputable def f160 (c0 : Int) (big1 : Bool) : Option Bool := dec E160 (r160 c0 big1)
theorem s160 {c0 : Int} {big1 : Bool} : Imp E160 (r160 c0 big1) (f160 c0 big1) := dec_imp _ _
abbrev E161.T : Type := Bool
def E161 : E161.T → Out := (fun x : R161.T => ((R161.enc x, []) : Out))
instance : Inj E161 := ⟨fun a b h => by
 simp only [E161, Prod.mk.injEq, and_true] at h
 exact Inj.inj _ _ h⟩
noncomputable def r161 (c0 : Int) : Option Out := Rn 161 [(.pv (.int .i32 c0))] []
noncomputable def f161 (c0 : Int) : Option Bool := dec E161 (r161 c0)
theorem s161 {c0 : Int} : Imp E161 (r161 c0) (f161 c0) := dec_imp _ _
abbrev E166.T : Type := Bool
def E166 : E166.T → Out := (fun x : R166.T => ((R166.enc x, []) : Out))
instance : Inj E166 := ⟨fun a b h => by
 simp only [E166, Prod.mk.injEq, and_true] at h
 exact Inj.inj _ _ h⟩
noncomputable def r166 (c0 : Int) : Option Out := Rn 166 [(.pv (.int .u8 c0))] []
noncomputable def f166 (c0 : Int) : Option Bool := dec E166 (r166 c0)
theorem s166 {c0 : Int} : Imp E166 (r166 c0) (f166 c0) := dec_imp _ _
abbrev E167.T : Type := Bool
def E167 : E167.T → Out := (fun x : R167.T => ((R167.enc x, []) : Out))
instance : Inj E167 := ⟨fun a b h => by
 simp only [E167, Prod.mk.injEq, and_true] at h
 exact Inj.inj _ _ h⟩
noncomputable def r167 (c0 : Int) : Option Out := Rn 167 [(.pv (.int .u8 c0))] []
noncomputable def f167 (c0 : Int) : Option Bool := dec E167 (r167 c0)
theorem s167 {c0 : Int} : Imp E167 (r167 c0) (f167 c0) := dec_imp _ _
end Go.Proofs.YtneahmpmicoplaaGreatDoor.cl
