/-
  The Closure laws: the functions and loops as plain ones, by program (decomp.py).
-/
import Derived.Test.YtneahmpmicoplaaGreatDoorClT
set_option linter.unusedVariables false
set_option linter.unusedSimpArgs false
set_option maxRecDepth 100000
namespace Go.Proofs.YtneahmpmicoplaaGreatDoor.cl
open Go Go.AM
abbrev E4.T : Type := Bool
def E4 : E4.T → Out := (fun x : R4.T => ((R4.enc x, []) : Out))
instance : Inj E4 := ⟨fun a b h => by
  simp only [E4, Prod.mk.injEq, and_true] at h
  exact Inj.inj _ _ h⟩

/-- grammarlab/grammarlablaw04.ClosureFinds -/
noncomputable def f4 (d0 : List TypeDecl) (code1 : List Int) (i2 : Int) : Option Bool := dec E4 (Rn 4 [(.pv (.lst 3 (List.map TypeDecl.enc d0))), (.pv (.lst 1 (List.map (eInt .u64) code1))), (.pv (.int .u8 i2))] [])
theorem s4 {d0 : List TypeDecl} {code1 : List Int} {i2 : Int} : Imp E4 (Rn 4 [(.pv (.lst 3 (List.map TypeDecl.enc d0))), (.pv (.lst 1 (List.map (eInt .u64) code1))), (.pv (.int .u8 i2))] []) (f4 d0 code1 i2) := dec_imp _ _

abbrev E5.T : Type := Bool
def E5 : E5.T → Out := (fun x : R5.T => ((R5.enc x, []) : Out))
instance : Inj E5 := ⟨fun a b h => by
  simp only [E5, Prod.mk.injEq, and_true] at h
  exact Inj.inj _ _ h⟩

/-- grammarlab/grammarlablaw04.ClosureRelations -/
noncomputable def f5 (d0 : List TypeDecl) (i1 : Int) (j2 : Int) : Option Bool := dec E5 (Rn 5 [(.pv (.lst 3 (List.map TypeDecl.enc d0))), (.pv (.int .u8 i1)), (.pv (.int .u8 j2))] [])
theorem s5 {d0 : List TypeDecl} {i1 : Int} {j2 : Int} : Imp E5 (Rn 5 [(.pv (.lst 3 (List.map TypeDecl.enc d0))), (.pv (.int .u8 i1)), (.pv (.int .u8 j2))] []) (f5 d0 i1 j2) := dec_imp _ _

abbrev E8.T : Type := Bool
def E8 : E8.T → Out := (fun x : R8.T => ((R8.enc x, []) : Out))
instance : Inj E8 := ⟨fun a b h => by
  simp only [E8, Prod.mk.injEq, and_true] at h
  exact Inj.inj _ _ h⟩

/-- grammarlab/grammarlablaw04.ClosureLaws -/
noncomputable def f8 (d0 : List TypeDecl) (a1_0 : Int) (a1_1 : Int) (a1_2 : Int) : Option Bool := dec E8 (Rn 8 [(.pv (.lst 3 (List.map TypeDecl.enc d0))), (.pv (.agg [(.int .u8 a1_0), (.int .u8 a1_1), (.int .u8 a1_2)]))] [])
theorem s8 {d0 : List TypeDecl} {a1_0 : Int} {a1_1 : Int} {a1_2 : Int} : Imp E8 (Rn 8 [(.pv (.lst 3 (List.map TypeDecl.enc d0))), (.pv (.agg [(.int .u8 a1_0), (.int .u8 a1_1), (.int .u8 a1_2)]))] []) (f8 d0 a1_0 a1_1 a1_2) := dec_imp _ _

abbrev E9.T : Type := Bool
def E9 : E9.T → Out := (fun x : R9.T => ((R9.enc x, []) : Out))
instance : Inj E9 := ⟨fun a b h => by
  simp only [E9, Prod.mk.injEq, and_true] at h
  exact Inj.inj _ _ h⟩

/-- grammarlab/grammarlablaw04.ClosureChains -/
noncomputable def f9 (d0 : List TypeDecl) (i1 : Int) : Option Bool := dec E9 (Rn 9 [(.pv (.lst 3 (List.map TypeDecl.enc d0))), (.pv (.int .u8 i1))] [])
theorem s9 {d0 : List TypeDecl} {i1 : Int} : Imp E9 (Rn 9 [(.pv (.lst 3 (List.map TypeDecl.enc d0))), (.pv (.int .u8 i1))] []) (f9 d0 i1) := dec_imp _ _

/-- grammarlab/grammarlablaw04.ClosureChains, loop 8 -/
noncomputable def t9_8 (l5 : List Coded) (a6 : Int) (n11 : Int) (o29 : List Bool) (o34 : List Int) : Option Bool := dec E9 (headT P cods H prim 9 8 [] [(5, (.pv (.lst 2 (List.map Coded.enc l5)))), (6, (.pv (.int .i64 a6))), (9, (.row 29)), (10, (.row 34)), (11, (.pv (.int .i64 n11)))] [(29, (.row 4 1 (List.map eBool o29))), (34, (.row 3 1 (List.map (eInt .i64) o34)))])
theorem q9_8 {l5 : List Coded} {a6 : Int} {n11 : Int} {o29 : List Bool} {o34 : List Int} : Imp E9 (headT P cods H prim 9 8 [] [(5, (.pv (.lst 2 (List.map Coded.enc l5)))), (6, (.pv (.int .i64 a6))), (9, (.row 29)), (10, (.row 34)), (11, (.pv (.int .i64 n11)))] [(29, (.row 4 1 (List.map eBool o29))), (34, (.row 3 1 (List.map (eInt .i64) o34)))]) (t9_8 l5 a6 n11 o29 o34) := dec_imp _ _

/-- grammarlab/grammarlablaw04.ClosureChains, loop 14 -/
noncomputable def t9_14 (l5 : List Coded) (a6 : Int) (n11 : Int) (v69 : List Int) (v70 : Int) (v71 : Int) (o29 : List Bool) (o34 : List Int) : Option Bool := dec E9 (headT P cods H prim 9 14 [] [(5, (.pv (.lst 2 (List.map Coded.enc l5)))), (6, (.pv (.int .i64 a6))), (9, (.row 29)), (10, (.row 34)), (11, (.pv (.int .i64 n11))), (69, (.pv (.lst 1 (List.map (eInt .i64) v69)))), (70, (.pv (.int .i64 v70))), (71, (.pv (.int .i64 v71)))] [(29, (.row 4 1 (List.map eBool o29))), (34, (.row 3 1 (List.map (eInt .i64) o34)))])
theorem q9_14 {l5 : List Coded} {a6 : Int} {n11 : Int} {v69 : List Int} {v70 : Int} {v71 : Int} {o29 : List Bool} {o34 : List Int} : Imp E9 (headT P cods H prim 9 14 [] [(5, (.pv (.lst 2 (List.map Coded.enc l5)))), (6, (.pv (.int .i64 a6))), (9, (.row 29)), (10, (.row 34)), (11, (.pv (.int .i64 n11))), (69, (.pv (.lst 1 (List.map (eInt .i64) v69)))), (70, (.pv (.int .i64 v70))), (71, (.pv (.int .i64 v71)))] [(29, (.row 4 1 (List.map eBool o29))), (34, (.row 3 1 (List.map (eInt .i64) o34)))]) (t9_14 l5 a6 n11 v69 v70 v71 o29 o34) := dec_imp _ _

/-- grammarlab/grammarlablaw04.ClosureChains, loop 23 -/
noncomputable def t9_23 (l5 : List Coded) (a6 : Int) (v99 : Int) (v100 : Int) (o29 : List Bool) : Option Bool := dec E9 (headT P cods H prim 9 23 [] [(5, (.pv (.lst 2 (List.map Coded.enc l5)))), (6, (.pv (.int .i64 a6))), (9, (.row 29)), (99, (.pv (.int .i64 v99))), (100, (.pv (.int .i64 v100)))] [(29, (.row 4 1 (List.map eBool o29)))])
theorem q9_23 {l5 : List Coded} {a6 : Int} {v99 : Int} {v100 : Int} {o29 : List Bool} : Imp E9 (headT P cods H prim 9 23 [] [(5, (.pv (.lst 2 (List.map Coded.enc l5)))), (6, (.pv (.int .i64 a6))), (9, (.row 29)), (99, (.pv (.int .i64 v99))), (100, (.pv (.int .i64 v100)))] [(29, (.row 4 1 (List.map eBool o29)))]) (t9_23 l5 a6 v99 v100 o29) := dec_imp _ _

abbrev E12.T : Type := Bool
def E12 : E12.T → Out := (fun x : R12.T => ((R12.enc x, []) : Out))
instance : Inj E12 := ⟨fun a b h => by
  simp only [E12, Prod.mk.injEq, and_true] at h
  exact Inj.inj _ _ h⟩

/-- grammarlab/grammarlablaw04.light -/
noncomputable def f12 (d0 : List TypeDecl) : Option Bool := dec E12 (Rn 12 [(.pv (.lst 3 (List.map TypeDecl.enc d0)))] [])
theorem s12 {d0 : List TypeDecl} : Imp E12 (Rn 12 [(.pv (.lst 3 (List.map TypeDecl.enc d0)))] []) (f12 d0) := dec_imp _ _

abbrev E13.T : Type := Bool
def E13 : E13.T → Out := (fun x : R13.T => ((R13.enc x, []) : Out))
instance : Inj E13 := ⟨fun a b h => by
  simp only [E13, Prod.mk.injEq, and_true] at h
  exact Inj.inj _ _ h⟩

/-- grammarlab/grammarlablaw04.exampleHolds -/
noncomputable def f13  : Option Bool := dec E13 (Rn 13 [] [])
theorem s13  : Imp E13 (Rn 13 [] []) (f13 ) := dec_imp _ _

abbrev E15.T : Type := (List Coded) × Int
def E15 : E15.T → Out := (fun x : R15.T => ((R15.enc x, []) : Out))
instance : Inj E15 := ⟨fun a b h => by
  simp only [E15, Prod.mk.injEq, and_true] at h
  exact Inj.inj _ _ h⟩

/-- grammarlab/grammarlabref04.Codes -/
noncomputable def f15 (d0 : List TypeDecl) : Option ((List Coded) × Int) := dec E15 (Rn 15 [(.pv (.lst 3 (List.map TypeDecl.enc d0)))] [])
theorem s15 {d0 : List TypeDecl} : Imp E15 (Rn 15 [(.pv (.lst 3 (List.map TypeDecl.enc d0)))] []) (f15 d0) := dec_imp _ _

/-- grammarlab/grammarlabref04.Codes, loop 7 -/
noncomputable def t15_7 (d0 : List TypeDecl) (all5 : List (List UInt8)) (i7 : Int) (o6 : List (List Int)) : Option ((List Coded) × Int) := dec E15 (headT P cods H prim 15 7 [] [(0, (.pv (.lst 3 (List.map TypeDecl.enc d0)))), (5, (.pv (.lst 1 (List.map eStr all5)))), (6, (.row 6)), (7, (.pv (.int .i64 i7)))] [(6, (.row 31 1 (List.map (eLst 1 (eInt .u64)) o6)))])
theorem q15_7 {d0 : List TypeDecl} {all5 : List (List UInt8)} {i7 : Int} {o6 : List (List Int)} : Imp E15 (headT P cods H prim 15 7 [] [(0, (.pv (.lst 3 (List.map TypeDecl.enc d0)))), (5, (.pv (.lst 1 (List.map eStr all5)))), (6, (.row 6)), (7, (.pv (.int .i64 i7)))] [(6, (.row 31 1 (List.map (eLst 1 (eInt .u64)) o6)))]) (t15_7 d0 all5 i7 o6) := dec_imp _ _

/-- grammarlab/grammarlabref04.Codes, loop 15 -/
noncomputable def t15_15 (d0 : List TypeDecl) (all5 : List (List UInt8)) (codes6 : List (List Int)) (f8 : List (List Int)) (out9 : List Coded) (i10 : Int) : Option ((List Coded) × Int) := dec E15 (headT P cods H prim 15 15 [] [(0, (.pv (.lst 3 (List.map TypeDecl.enc d0)))), (5, (.pv (.lst 1 (List.map eStr all5)))), (6, (.pv (.lst 1 (List.map (eLst 1 (eInt .u64)) codes6)))), (8, (.pv (.lst 1 (List.map (eLst 1 (eInt .u64)) f8)))), (9, (.pv (.lst 2 (List.map Coded.enc out9)))), (10, (.pv (.int .i64 i10)))] [])
theorem q15_15 {d0 : List TypeDecl} {all5 : List (List UInt8)} {codes6 : List (List Int)} {f8 : List (List Int)} {out9 : List Coded} {i10 : Int} : Imp E15 (headT P cods H prim 15 15 [] [(0, (.pv (.lst 3 (List.map TypeDecl.enc d0)))), (5, (.pv (.lst 1 (List.map eStr all5)))), (6, (.pv (.lst 1 (List.map (eLst 1 (eInt .u64)) codes6)))), (8, (.pv (.lst 1 (List.map (eLst 1 (eInt .u64)) f8)))), (9, (.pv (.lst 2 (List.map Coded.enc out9)))), (10, (.pv (.int .i64 i10)))] []) (t15_15 d0 all5 codes6 f8 out9 i10) := dec_imp _ _

/-- grammarlab/grammarlabref04.Codes, loop 19 -/
noncomputable def t15_19 (d0 : List TypeDecl) (all5 : List (List UInt8)) (codes6 : List (List Int)) (f8 : List (List Int)) (out9 : List Coded) (i10 : Int) (v12 : Int) (o11 : Coded) : Option ((List Coded) × Int) := dec E15 (headT P cods H prim 15 19 [] [(0, (.pv (.lst 3 (List.map TypeDecl.enc d0)))), (5, (.pv (.lst 1 (List.map eStr all5)))), (6, (.pv (.lst 1 (List.map (eLst 1 (eInt .u64)) codes6)))), (8, (.pv (.lst 1 (List.map (eLst 1 (eInt .u64)) f8)))), (9, (.pv (.lst 2 (List.map Coded.enc out9)))), (10, (.pv (.int .i64 i10))), (11, (.ptr 11 0)), (12, (.pv (.int .i64 v12)))] [(11, (.box 36 (List.map .pv (Coded.enc o11))))])
theorem q15_19 {d0 : List TypeDecl} {all5 : List (List UInt8)} {codes6 : List (List Int)} {f8 : List (List Int)} {out9 : List Coded} {i10 : Int} {v12 : Int} {o11 : Coded} : Imp E15 (headT P cods H prim 15 19 [] [(0, (.pv (.lst 3 (List.map TypeDecl.enc d0)))), (5, (.pv (.lst 1 (List.map eStr all5)))), (6, (.pv (.lst 1 (List.map (eLst 1 (eInt .u64)) codes6)))), (8, (.pv (.lst 1 (List.map (eLst 1 (eInt .u64)) f8)))), (9, (.pv (.lst 2 (List.map Coded.enc out9)))), (10, (.pv (.int .i64 i10))), (11, (.ptr 11 0)), (12, (.pv (.int .i64 v12)))] [(11, (.box 36 (List.map .pv (Coded.enc o11))))]) (t15_19 d0 all5 codes6 f8 out9 i10 v12 o11) := dec_imp _ _

abbrev E17.T : Type := (List Coded) × Int × Int × Bool
def E17 : E17.T → Out := (fun x : R17.T => ((R17.enc x, []) : Out))
instance : Inj E17 := ⟨fun a b h => by
  simp only [E17, Prod.mk.injEq, and_true] at h
  exact Inj.inj _ _ h⟩

/-- grammarlab/grammarlablaw04.types -/
noncomputable def f17 (d0 : List TypeDecl) (i1 : Int) (j2 : Int) : Option ((List Coded) × Int × Int × Bool) := dec E17 (Rn 17 [(.pv (.lst 3 (List.map TypeDecl.enc d0))), (.pv (.int .u8 i1)), (.pv (.int .u8 j2))] [])
theorem s17 {d0 : List TypeDecl} {i1 : Int} {j2 : Int} : Imp E17 (Rn 17 [(.pv (.lst 3 (List.map TypeDecl.enc d0))), (.pv (.int .u8 i1)), (.pv (.int .u8 j2))] []) (f17 d0 i1 j2) := dec_imp _ _

abbrev E18.T : Type := Int
def E18 : E18.T → Out := (fun x : R18.T => ((R18.enc x, []) : Out))
instance : Inj E18 := ⟨fun a b h => by
  simp only [E18, Prod.mk.injEq, and_true] at h
  exact Inj.inj _ _ h⟩

/-- grammarlab/closure.Find -/
noncomputable def f18 (l0 : List Coded) (code1 : List Int) : Option Int := dec E18 (Rn 18 [(.pv (.lst 2 (List.map Coded.enc l0))), (.pv (.lst 1 (List.map (eInt .u64) code1)))] [])
theorem s18 {l0 : List Coded} {code1 : List Int} : Imp E18 (Rn 18 [(.pv (.lst 2 (List.map Coded.enc l0))), (.pv (.lst 1 (List.map (eInt .u64) code1)))] []) (f18 l0 code1) := dec_imp _ _

abbrev E19.T : Type := Int
def E19 : E19.T → Out := (fun x : R19.T => ((R19.enc x, []) : Out))
instance : Inj E19 := ⟨fun a b h => by
  simp only [E19, Prod.mk.injEq, and_true] at h
  exact Inj.inj _ _ h⟩

/-- grammarlab/grammarlabref04.Find -/
noncomputable def f19 (l0 : List Coded) (b1 : List Int) : Option Int := dec E19 (Rn 19 [(.pv (.lst 2 (List.map Coded.enc l0))), (.pv (.lst 1 (List.map (eInt .u64) b1)))] [])
theorem s19 {l0 : List Coded} {b1 : List Int} : Imp E19 (Rn 19 [(.pv (.lst 2 (List.map Coded.enc l0))), (.pv (.lst 1 (List.map (eInt .u64) b1)))] []) (f19 l0 b1) := dec_imp _ _

/-- grammarlab/grammarlabref04.Find, loop 3 -/
noncomputable def t19_3 (l0 : List Coded) (n5 : List Int) (i6 : Int) : Option Int := dec E19 (headT P cods H prim 19 3 [] [(0, (.pv (.lst 2 (List.map Coded.enc l0)))), (5, (.pv (.lst 1 (List.map (eInt .u64) n5)))), (6, (.pv (.int .i64 i6)))] [])
theorem q19_3 {l0 : List Coded} {n5 : List Int} {i6 : Int} : Imp E19 (headT P cods H prim 19 3 [] [(0, (.pv (.lst 2 (List.map Coded.enc l0)))), (5, (.pv (.lst 1 (List.map (eInt .u64) n5)))), (6, (.pv (.int .i64 i6)))] []) (t19_3 l0 n5 i6) := dec_imp _ _

abbrev E20.T : Type := Int
def E20 : E20.T → Out := (fun x : R20.T => ((R20.enc x, []) : Out))
instance : Inj E20 := ⟨fun a b h => by
  simp only [E20, Prod.mk.injEq, and_true] at h
  exact Inj.inj _ _ h⟩

/-- grammarlab/closure.Meet -/
noncomputable def f20 (l0 : List Coded) (i1 : Int) (j2 : Int) : Option Int := dec E20 (Rn 20 [(.pv (.lst 2 (List.map Coded.enc l0))), (.pv (.int .i64 i1)), (.pv (.int .i64 j2))] [])
theorem s20 {l0 : List Coded} {i1 : Int} {j2 : Int} : Imp E20 (Rn 20 [(.pv (.lst 2 (List.map Coded.enc l0))), (.pv (.int .i64 i1)), (.pv (.int .i64 j2))] []) (f20 l0 i1 j2) := dec_imp _ _

abbrev E21.T : Type := Int
def E21 : E21.T → Out := (fun x : R21.T => ((R21.enc x, []) : Out))
instance : Inj E21 := ⟨fun a b h => by
  simp only [E21, Prod.mk.injEq, and_true] at h
  exact Inj.inj _ _ h⟩

/-- grammarlab/grammarlabref04.Meet -/
noncomputable def f21 (l0 : List Coded) (i1 : Int) (j2 : Int) : Option Int := dec E21 (Rn 21 [(.pv (.lst 2 (List.map Coded.enc l0))), (.pv (.int .i64 i1)), (.pv (.int .i64 j2))] [])
theorem s21 {l0 : List Coded} {i1 : Int} {j2 : Int} : Imp E21 (Rn 21 [(.pv (.lst 2 (List.map Coded.enc l0))), (.pv (.int .i64 i1)), (.pv (.int .i64 j2))] []) (f21 l0 i1 j2) := dec_imp _ _

abbrev E22.T : Type := Int
def E22 : E22.T → Out := (fun x : R22.T => ((R22.enc x, []) : Out))
instance : Inj E22 := ⟨fun a b h => by
  simp only [E22, Prod.mk.injEq, and_true] at h
  exact Inj.inj _ _ h⟩

/-- grammarlab/closure.Join -/
noncomputable def f22 (l0 : List Coded) (i1 : Int) (j2 : Int) : Option Int := dec E22 (Rn 22 [(.pv (.lst 2 (List.map Coded.enc l0))), (.pv (.int .i64 i1)), (.pv (.int .i64 j2))] [])
theorem s22 {l0 : List Coded} {i1 : Int} {j2 : Int} : Imp E22 (Rn 22 [(.pv (.lst 2 (List.map Coded.enc l0))), (.pv (.int .i64 i1)), (.pv (.int .i64 j2))] []) (f22 l0 i1 j2) := dec_imp _ _

/-- grammarlab/closure.Join, loop 4 -/
noncomputable def t22_4 (l0 : List Coded) (both7 : List Int) (out8 : List Int) (v26 : List Coded) (v27 : Int) (v28 : Int) : Option Int := dec E22 (headT P cods H prim 22 4 [] [(0, (.pv (.lst 2 (List.map Coded.enc l0)))), (7, (.pv (.lst 1 (List.map (eInt .u64) both7)))), (8, (.pv (.lst 1 (List.map (eInt .u64) out8)))), (26, (.pv (.lst 2 (List.map Coded.enc v26)))), (27, (.pv (.int .i64 v27))), (28, (.pv (.int .i64 v28)))] [])
theorem q22_4 {l0 : List Coded} {both7 : List Int} {out8 : List Int} {v26 : List Coded} {v27 : Int} {v28 : Int} : Imp E22 (headT P cods H prim 22 4 [] [(0, (.pv (.lst 2 (List.map Coded.enc l0)))), (7, (.pv (.lst 1 (List.map (eInt .u64) both7)))), (8, (.pv (.lst 1 (List.map (eInt .u64) out8)))), (26, (.pv (.lst 2 (List.map Coded.enc v26)))), (27, (.pv (.int .i64 v27))), (28, (.pv (.int .i64 v28)))] []) (t22_4 l0 both7 out8 v26 v27 v28) := dec_imp _ _

abbrev E23.T : Type := Int
def E23 : E23.T → Out := (fun x : R23.T => ((R23.enc x, []) : Out))
instance : Inj E23 := ⟨fun a b h => by
  simp only [E23, Prod.mk.injEq, and_true] at h
  exact Inj.inj _ _ h⟩

/-- grammarlab/grammarlabref04.Join -/
noncomputable def f23 (l0 : List Coded) (i1 : Int) (j2 : Int) : Option Int := dec E23 (Rn 23 [(.pv (.lst 2 (List.map Coded.enc l0))), (.pv (.int .i64 i1)), (.pv (.int .i64 j2))] [])
theorem s23 {l0 : List Coded} {i1 : Int} {j2 : Int} : Imp E23 (Rn 23 [(.pv (.lst 2 (List.map Coded.enc l0))), (.pv (.int .i64 i1)), (.pv (.int .i64 j2))] []) (f23 l0 i1 j2) := dec_imp _ _

/-- grammarlab/grammarlabref04.Join, loop 4 -/
noncomputable def t23_4 (l0 : List Coded) (both7 : List Int) (b8 : List Int) (k9 : Int) : Option Int := dec E23 (headT P cods H prim 23 4 [] [(0, (.pv (.lst 2 (List.map Coded.enc l0)))), (7, (.pv (.lst 1 (List.map (eInt .u64) both7)))), (8, (.pv (.lst 1 (List.map (eInt .u64) b8)))), (9, (.pv (.int .i64 k9)))] [])
theorem q23_4 {l0 : List Coded} {both7 : List Int} {b8 : List Int} {k9 : Int} : Imp E23 (headT P cods H prim 23 4 [] [(0, (.pv (.lst 2 (List.map Coded.enc l0)))), (7, (.pv (.lst 1 (List.map (eInt .u64) both7)))), (8, (.pv (.lst 1 (List.map (eInt .u64) b8)))), (9, (.pv (.int .i64 k9)))] []) (t23_4 l0 both7 b8 k9) := dec_imp _ _

abbrev E24.T : Type := Bool
def E24 : E24.T → Out := (fun x : R24.T => ((R24.enc x, []) : Out))
instance : Inj E24 := ⟨fun a b h => by
  simp only [E24, Prod.mk.injEq, and_true] at h
  exact Inj.inj _ _ h⟩

/-- grammarlab/closure.Subsumes -/
noncomputable def f24 (l0 : List Coded) (i1 : Int) (j2 : Int) : Option Bool := dec E24 (Rn 24 [(.pv (.lst 2 (List.map Coded.enc l0))), (.pv (.int .i64 i1)), (.pv (.int .i64 j2))] [])
theorem s24 {l0 : List Coded} {i1 : Int} {j2 : Int} : Imp E24 (Rn 24 [(.pv (.lst 2 (List.map Coded.enc l0))), (.pv (.int .i64 i1)), (.pv (.int .i64 j2))] []) (f24 l0 i1 j2) := dec_imp _ _

abbrev E25.T : Type := Bool
def E25 : E25.T → Out := (fun x : R25.T => ((R25.enc x, []) : Out))
instance : Inj E25 := ⟨fun a b h => by
  simp only [E25, Prod.mk.injEq, and_true] at h
  exact Inj.inj _ _ h⟩

/-- grammarlab/grammarlabref04.Subsumes -/
noncomputable def f25 (l0 : List Coded) (i1 : Int) (j2 : Int) : Option Bool := dec E25 (Rn 25 [(.pv (.lst 2 (List.map Coded.enc l0))), (.pv (.int .i64 i1)), (.pv (.int .i64 j2))] [])
theorem s25 {l0 : List Coded} {i1 : Int} {j2 : Int} : Imp E25 (Rn 25 [(.pv (.lst 2 (List.map Coded.enc l0))), (.pv (.int .i64 i1)), (.pv (.int .i64 j2))] []) (f25 l0 i1 j2) := dec_imp _ _

abbrev E26.T : Type := Bool
def E26 : E26.T → Out := (fun x : R26.T => ((R26.enc x, []) : Out))
instance : Inj E26 := ⟨fun a b h => by
  simp only [E26, Prod.mk.injEq, and_true] at h
  exact Inj.inj _ _ h⟩

/-- grammarlab/grammarlabref02.SameInts -/
noncomputable def f26 (a0 : List Int) (b1 : List Int) : Option Bool := dec E26 (Rn 26 [(.pv (.lst 1 (List.map (eInt .i64) a0))), (.pv (.lst 1 (List.map (eInt .i64) b1)))] [])
theorem s26 {a0 : List Int} {b1 : List Int} : Imp E26 (Rn 26 [(.pv (.lst 1 (List.map (eInt .i64) a0))), (.pv (.lst 1 (List.map (eInt .i64) b1)))] []) (f26 a0 b1) := dec_imp _ _

/-- grammarlab/grammarlabref02.SameInts, loop 4 -/
noncomputable def t26_4 (a0 : List Int) (b1 : List Int) (i5 : Int) : Option Bool := dec E26 (headT P cods H prim 26 4 [] [(0, (.pv (.lst 1 (List.map (eInt .i64) a0)))), (1, (.pv (.lst 1 (List.map (eInt .i64) b1)))), (5, (.pv (.int .i64 i5)))] [])
theorem q26_4 {a0 : List Int} {b1 : List Int} {i5 : Int} : Imp E26 (headT P cods H prim 26 4 [] [(0, (.pv (.lst 1 (List.map (eInt .i64) a0)))), (1, (.pv (.lst 1 (List.map (eInt .i64) b1)))), (5, (.pv (.int .i64 i5)))] []) (t26_4 a0 b1 i5) := dec_imp _ _

abbrev E27.T : Type := List Int
def E27 : E27.T → Out := (fun x : R27.T => ((R27.enc x, []) : Out))
instance : Inj E27 := ⟨fun a b h => by
  simp only [E27, Prod.mk.injEq, and_true] at h
  exact Inj.inj _ _ h⟩

/-- grammarlab/closure.Supers -/
noncomputable def f27 (l0 : List Coded) (i1 : Int) : Option (List Int) := dec E27 (Rn 27 [(.pv (.lst 2 (List.map Coded.enc l0))), (.pv (.int .i64 i1))] [])
theorem s27 {l0 : List Coded} {i1 : Int} : Imp E27 (Rn 27 [(.pv (.lst 2 (List.map Coded.enc l0))), (.pv (.int .i64 i1))] []) (f27 l0 i1) := dec_imp _ _

/-- grammarlab/closure.Supers, loop 3 -/
noncomputable def t27_3 (i1 : Int) (v12 : Int) (v13 : Int) (o2_0 : List Coded) (o5 : List Int) (o6 : List Int) : Option (List Int) := dec E27 (headT P cods H prim 27 3 [] [(1, (.pv (.int .i64 i1))), (2, (.ptr 2 0)), (5, (.row 5)), (6, (.row 6)), (12, (.pv (.int .i64 v12))), (13, (.pv (.int .i64 v13)))] [(2, (.box 25 [(.pv (.lst 2 (List.map Coded.enc o2_0)))])), (5, (.row 3 1 (List.map (eInt .i64) o5))), (6, (.row 3 1 (List.map (eInt .i64) o6)))])
theorem q27_3 {i1 : Int} {v12 : Int} {v13 : Int} {o2_0 : List Coded} {o5 : List Int} {o6 : List Int} : Imp E27 (headT P cods H prim 27 3 [] [(1, (.pv (.int .i64 i1))), (2, (.ptr 2 0)), (5, (.row 5)), (6, (.row 6)), (12, (.pv (.int .i64 v12))), (13, (.pv (.int .i64 v13)))] [(2, (.box 25 [(.pv (.lst 2 (List.map Coded.enc o2_0)))])), (5, (.row 3 1 (List.map (eInt .i64) o5))), (6, (.row 3 1 (List.map (eInt .i64) o6)))]) (t27_3 i1 v12 v13 o2_0 o5 o6) := dec_imp _ _

/-- grammarlab/closure.Supers, loop 9 -/
noncomputable def t27_9 (l2 : List Coded) (v31 : Int) (v32 : Int) (o5 : List Int) (o6 : List Int) : Option (List Int) := dec E27 (headT P cods H prim 27 9 [] [(2, (.cp [(.lst 2 (List.map Coded.enc l2))])), (5, (.row 5)), (6, (.row 6)), (30, (.row 5)), (31, (.pv (.int .i64 v31))), (32, (.pv (.int .i64 v32)))] [(5, (.row 3 1 (List.map (eInt .i64) o5))), (6, (.row 3 1 (List.map (eInt .i64) o6)))])
theorem q27_9 {l2 : List Coded} {v31 : Int} {v32 : Int} {o5 : List Int} {o6 : List Int} : Imp E27 (headT P cods H prim 27 9 [] [(2, (.cp [(.lst 2 (List.map Coded.enc l2))])), (5, (.row 5)), (6, (.row 6)), (30, (.row 5)), (31, (.pv (.int .i64 v31))), (32, (.pv (.int .i64 v32)))] [(5, (.row 3 1 (List.map (eInt .i64) o5))), (6, (.row 3 1 (List.map (eInt .i64) o6)))]) (t27_9 l2 v31 v32 o5 o6) := dec_imp _ _

abbrev E28.T : Type := List Int
def E28 : E28.T → Out := (fun x : R28.T => ((R28.enc x, []) : Out))
instance : Inj E28 := ⟨fun a b h => by
  simp only [E28, Prod.mk.injEq, and_true] at h
  exact Inj.inj _ _ h⟩

/-- grammarlab/grammarlabref04.Supers -/
noncomputable def f28 (l0 : List Coded) (i1 : Int) : Option (List Int) := dec E28 (Rn 28 [(.pv (.lst 2 (List.map Coded.enc l0))), (.pv (.int .i64 i1))] [])
theorem s28 {l0 : List Coded} {i1 : Int} : Imp E28 (Rn 28 [(.pv (.lst 2 (List.map Coded.enc l0))), (.pv (.int .i64 i1))] []) (f28 l0 i1) := dec_imp _ _

/-- grammarlab/grammarlabref04.Supers, loop 3 -/
noncomputable def t28_3 (l0 : List Coded) (i1 : Int) (k6 : Int) (o5 : List Int) : Option (List Int) := dec E28 (headT P cods H prim 28 3 [] [(0, (.pv (.lst 2 (List.map Coded.enc l0)))), (1, (.pv (.int .i64 i1))), (5, (.row 5)), (6, (.pv (.int .i64 k6)))] [(5, (.row 3 1 (List.map (eInt .i64) o5)))])
theorem q28_3 {l0 : List Coded} {i1 : Int} {k6 : Int} {o5 : List Int} : Imp E28 (headT P cods H prim 28 3 [] [(0, (.pv (.lst 2 (List.map Coded.enc l0)))), (1, (.pv (.int .i64 i1))), (5, (.row 5)), (6, (.pv (.int .i64 k6)))] [(5, (.row 3 1 (List.map (eInt .i64) o5)))]) (t28_3 l0 i1 k6 o5) := dec_imp _ _

/-- grammarlab/grammarlabref04.Supers, loop 8 -/
noncomputable def t28_8 (l0 : List Coded) (i1 : Int) (k6 : Int) (direct7 : Bool) (m8 : Int) (o5 : List Int) : Option (List Int) := dec E28 (headT P cods H prim 28 8 [] [(0, (.pv (.lst 2 (List.map Coded.enc l0)))), (1, (.pv (.int .i64 i1))), (5, (.row 5)), (6, (.pv (.int .i64 k6))), (7, (.pv (.bool direct7))), (8, (.pv (.int .i64 m8)))] [(5, (.row 3 1 (List.map (eInt .i64) o5)))])
theorem q28_8 {l0 : List Coded} {i1 : Int} {k6 : Int} {direct7 : Bool} {m8 : Int} {o5 : List Int} : Imp E28 (headT P cods H prim 28 8 [] [(0, (.pv (.lst 2 (List.map Coded.enc l0)))), (1, (.pv (.int .i64 i1))), (5, (.row 5)), (6, (.pv (.int .i64 k6))), (7, (.pv (.bool direct7))), (8, (.pv (.int .i64 m8)))] [(5, (.row 3 1 (List.map (eInt .i64) o5)))]) (t28_8 l0 i1 k6 direct7 m8 o5) := dec_imp _ _

abbrev E29.T : Type := List Int
def E29 : E29.T → Out := (fun x : R29.T => ((R29.enc x, []) : Out))
instance : Inj E29 := ⟨fun a b h => by
  simp only [E29, Prod.mk.injEq, and_true] at h
  exact Inj.inj _ _ h⟩

/-- grammarlab/bits.And -/
noncomputable def f29 (a0 : List Int) (b1 : List Int) : Option (List Int) := dec E29 (Rn 29 [(.pv (.lst 1 (List.map (eInt .u64) a0))), (.pv (.lst 1 (List.map (eInt .u64) b1)))] [])
theorem s29 {a0 : List Int} {b1 : List Int} : Imp E29 (Rn 29 [(.pv (.lst 1 (List.map (eInt .u64) a0))), (.pv (.lst 1 (List.map (eInt .u64) b1)))] []) (f29 a0 b1) := dec_imp _ _

/-- grammarlab/bits.And, loop 3 -/
noncomputable def t29_3 (a0 : List Int) (b1 : List Int) (v14 : Int) (v15 : Int) (o12 : List Int) : Option (List Int) := dec E29 (headT P cods H prim 29 3 [] [(0, (.pv (.lst 1 (List.map (eInt .u64) a0)))), (1, (.pv (.lst 1 (List.map (eInt .u64) b1)))), (5, (.row 12)), (14, (.pv (.int .i64 v14))), (15, (.pv (.int .i64 v15)))] [(12, (.row 37 1 (List.map (eInt .u64) o12)))])
theorem q29_3 {a0 : List Int} {b1 : List Int} {v14 : Int} {v15 : Int} {o12 : List Int} : Imp E29 (headT P cods H prim 29 3 [] [(0, (.pv (.lst 1 (List.map (eInt .u64) a0)))), (1, (.pv (.lst 1 (List.map (eInt .u64) b1)))), (5, (.row 12)), (14, (.pv (.int .i64 v14))), (15, (.pv (.int .i64 v15)))] [(12, (.row 37 1 (List.map (eInt .u64) o12)))]) (t29_3 a0 b1 v14 v15 o12) := dec_imp _ _

abbrev E31.T : Type := Bool
def E31 : E31.T → Out := (fun x : R31.T => ((R31.enc x, []) : Out))
instance : Inj E31 := ⟨fun a b h => by
  simp only [E31, Prod.mk.injEq, and_true] at h
  exact Inj.inj _ _ h⟩

/-- grammarlab/bits.Equal -/
noncomputable def f31 (a0 : List Int) (b1 : List Int) : Option Bool := dec E31 (Rn 31 [(.pv (.lst 1 (List.map (eInt .u64) a0))), (.pv (.lst 1 (List.map (eInt .u64) b1)))] [])
theorem s31 {a0 : List Int} {b1 : List Int} : Imp E31 (Rn 31 [(.pv (.lst 1 (List.map (eInt .u64) a0))), (.pv (.lst 1 (List.map (eInt .u64) b1)))] []) (f31 a0 b1) := dec_imp _ _

abbrev E32.T : Type := Int
def E32 : E32.T → Out := (fun x : R32.T => ((R32.enc x, []) : Out))
instance : Inj E32 := ⟨fun a b h => by
  simp only [E32, Prod.mk.injEq, and_true] at h
  exact Inj.inj _ _ h⟩

/-- grammarlab/grammarlabref03.Check -/
noncomputable def f32 (d0 : List TypeDecl) : Option Int := dec E32 (Rn 32 [(.pv (.lst 3 (List.map TypeDecl.enc d0)))] [])
theorem s32 {d0 : List TypeDecl} : Imp E32 (Rn 32 [(.pv (.lst 3 (List.map TypeDecl.enc d0)))] []) (f32 d0) := dec_imp _ _

/-- grammarlab/grammarlabref03.Check, loop 12 -/
noncomputable def t32_12 (d0 : List TypeDecl) (n6 : Int) (i7 : Int) : Option Int := dec E32 (headT P cods H prim 32 12 [] [(0, (.pv (.lst 3 (List.map TypeDecl.enc d0)))), (6, (.pv (.int .i64 n6))), (7, (.pv (.int .i64 i7)))] [])
theorem q32_12 {d0 : List TypeDecl} {n6 : Int} {i7 : Int} : Imp E32 (headT P cods H prim 32 12 [] [(0, (.pv (.lst 3 (List.map TypeDecl.enc d0)))), (6, (.pv (.int .i64 n6))), (7, (.pv (.int .i64 i7)))] []) (t32_12 d0 n6 i7) := dec_imp _ _

abbrev E33.T : Type := Int
def E33 : E33.T → Out := (fun x : R33.T => ((R33.enc x, []) : Out))
instance : Inj E33 := ⟨fun a b h => by
  simp only [E33, Prod.mk.injEq, and_true] at h
  exact Inj.inj _ _ h⟩

/-- grammarlab/grammarlablaw04.meet3 -/
noncomputable def f33 (l0 : List Coded) (a1 : Int) (b2 : Int) (c3 : Int) : Option Int := dec E33 (Rn 33 [(.pv (.lst 2 (List.map Coded.enc l0))), (.pv (.int .i64 a1)), (.pv (.int .i64 b2)), (.pv (.int .i64 c3))] [])
theorem s33 {l0 : List Coded} {a1 : Int} {b2 : Int} {c3 : Int} : Imp E33 (Rn 33 [(.pv (.lst 2 (List.map Coded.enc l0))), (.pv (.int .i64 a1)), (.pv (.int .i64 b2)), (.pv (.int .i64 c3))] []) (f33 l0 a1 b2 c3) := dec_imp _ _

abbrev E37.T : Type := Bool
def E37 : E37.T → Out := (fun x : R37.T => ((R37.enc x, []) : Out))
instance : Inj E37 := ⟨fun a b h => by
  simp only [E37, Prod.mk.injEq, and_true] at h
  exact Inj.inj _ _ h⟩

/-- grammarlab/grammarlabref03.Among -/
noncomputable def f37 (l0 : List (List UInt8)) (s1 : List UInt8) : Option Bool := dec E37 (Rn 37 [(.pv (.lst 1 (List.map eStr l0))), (.pv (.str s1))] [])
theorem s37 {l0 : List (List UInt8)} {s1 : List UInt8} : Imp E37 (Rn 37 [(.pv (.lst 1 (List.map eStr l0))), (.pv (.str s1))] []) (f37 l0 s1) := dec_imp _ _

/-- grammarlab/grammarlabref03.Among, loop 2 -/
noncomputable def t37_2 (l0 : List (List UInt8)) (s1 : List UInt8) (i5 : Int) : Option Bool := dec E37 (headT P cods H prim 37 2 [] [(0, (.pv (.lst 1 (List.map eStr l0)))), (1, (.pv (.str s1))), (5, (.pv (.int .i64 i5)))] [])
theorem q37_2 {l0 : List (List UInt8)} {s1 : List UInt8} {i5 : Int} : Imp E37 (headT P cods H prim 37 2 [] [(0, (.pv (.lst 1 (List.map eStr l0)))), (1, (.pv (.str s1))), (5, (.pv (.int .i64 i5)))] []) (t37_2 l0 s1 i5) := dec_imp _ _

abbrev E38.T : Type := Bool
def E38 : E38.T → Out := (fun x : R38.T => ((R38.enc x, []) : Out))
instance : Inj E38 := ⟨fun a b h => by
  simp only [E38, Prod.mk.injEq, and_true] at h
  exact Inj.inj _ _ h⟩

/-- grammarlab/grammarlabref03.Light -/
noncomputable def f38 (d0 : List TypeDecl) : Option Bool := dec E38 (Rn 38 [(.pv (.lst 3 (List.map TypeDecl.enc d0)))] [])
theorem s38 {d0 : List TypeDecl} : Imp E38 (Rn 38 [(.pv (.lst 3 (List.map TypeDecl.enc d0)))] []) (f38 d0) := dec_imp _ _

/-- grammarlab/grammarlabref03.Light, loop 4 -/
noncomputable def t38_4 (d0 : List TypeDecl) (i3 : Int) : Option Bool := dec E38 (headT P cods H prim 38 4 [] [(0, (.pv (.lst 3 (List.map TypeDecl.enc d0)))), (3, (.pv (.int .i64 i3)))] [])
theorem q38_4 {d0 : List TypeDecl} {i3 : Int} : Imp E38 (headT P cods H prim 38 4 [] [(0, (.pv (.lst 3 (List.map TypeDecl.enc d0)))), (3, (.pv (.int .i64 i3)))] []) (t38_4 d0 i3) := dec_imp _ _

abbrev E52.T : Type := List (List UInt8)
def E52 : E52.T → Out := (fun x : R52.T => ((R52.enc x, []) : Out))
instance : Inj E52 := ⟨fun a b h => by
  simp only [E52, Prod.mk.injEq, and_true] at h
  exact Inj.inj _ _ h⟩

/-- grammarlab/grammarlabref03.Names -/
noncomputable def f52 (d0 : List TypeDecl) : Option (List (List UInt8)) := dec E52 (Rn 52 [(.pv (.lst 3 (List.map TypeDecl.enc d0)))] [])
theorem s52 {d0 : List TypeDecl} : Imp E52 (Rn 52 [(.pv (.lst 3 (List.map TypeDecl.enc d0)))] []) (f52 d0) := dec_imp _ _

/-- grammarlab/grammarlabref03.Names, loop 3 -/
noncomputable def t52_3 (d0 : List TypeDecl) (out3 : List (List UInt8)) (i4 : Int) : Option (List (List UInt8)) := dec E52 (headT P cods H prim 52 3 [] [(0, (.pv (.lst 3 (List.map TypeDecl.enc d0)))), (3, (.pv (.lst 1 (List.map eStr out3)))), (4, (.pv (.int .i64 i4)))] [])
theorem q52_3 {d0 : List TypeDecl} {out3 : List (List UInt8)} {i4 : Int} : Imp E52 (headT P cods H prim 52 3 [] [(0, (.pv (.lst 3 (List.map TypeDecl.enc d0)))), (3, (.pv (.lst 1 (List.map eStr out3)))), (4, (.pv (.int .i64 i4)))] []) (t52_3 d0 out3 i4) := dec_imp _ _

abbrev E53.T : Type := List Int
def E53 : E53.T → Out := (fun x : R53.T => ((R53.enc x, []) : Out))
instance : Inj E53 := ⟨fun a b h => by
  simp only [E53, Prod.mk.injEq, and_true] at h
  exact Inj.inj _ _ h⟩

/-- grammarlab/grammarlabref04.code -/
noncomputable def f53 (d0 : List TypeDecl) (all1 : List (List UInt8)) (name2 : List UInt8) : Option (List Int) := dec E53 (Rn 53 [(.pv (.lst 3 (List.map TypeDecl.enc d0))), (.pv (.lst 1 (List.map eStr all1))), (.pv (.str name2))] [])
theorem s53 {d0 : List TypeDecl} {all1 : List (List UInt8)} {name2 : List UInt8} : Imp E53 (Rn 53 [(.pv (.lst 3 (List.map TypeDecl.enc d0))), (.pv (.lst 1 (List.map eStr all1))), (.pv (.str name2))] []) (f53 d0 all1 name2) := dec_imp _ _

/-- grammarlab/grammarlabref04.code, loop 4 -/
noncomputable def t53_4 (all1 : List (List UInt8)) (low7 : List (List UInt8)) (i9 : Int) (o8 : List Int) : Option (List Int) := dec E53 (headT P cods H prim 53 4 [] [(1, (.pv (.lst 1 (List.map eStr all1)))), (7, (.pv (.lst 1 (List.map eStr low7)))), (8, (.row 8)), (9, (.pv (.int .i64 i9)))] [(8, (.row 3 1 (List.map (eInt .i64) o8)))])
theorem q53_4 {all1 : List (List UInt8)} {low7 : List (List UInt8)} {i9 : Int} {o8 : List Int} : Imp E53 (headT P cods H prim 53 4 [] [(1, (.pv (.lst 1 (List.map eStr all1)))), (7, (.pv (.lst 1 (List.map eStr low7)))), (8, (.row 8)), (9, (.pv (.int .i64 i9)))] [(8, (.row 3 1 (List.map (eInt .i64) o8)))]) (t53_4 all1 low7 i9 o8) := dec_imp _ _

abbrev E54.T : Type := List (List Int)
def E54 : E54.T → Out := (fun x : R54.T => ((R54.enc x, []) : Out))
instance : Inj E54 := ⟨fun a b h => by
  simp only [E54, Prod.mk.injEq, and_true] at h
  exact Inj.inj _ _ h⟩

/-- grammarlab/grammarlabref04.family -/
noncomputable def f54 (codes0 : List (List Int)) : Option (List (List Int)) := dec E54 (Rn 54 [(.pv (.lst 1 (List.map (eLst 1 (eInt .u64)) codes0)))] [])
theorem s54 {codes0 : List (List Int)} : Imp E54 (Rn 54 [(.pv (.lst 1 (List.map (eLst 1 (eInt .u64)) codes0)))] []) (f54 codes0) := dec_imp _ _

/-- grammarlab/grammarlabref04.family, loop 3 -/
noncomputable def t54_3 (i4 : Int) (o7 : List (List Int)) : Option (List (List Int)) := dec E54 (headT P cods H prim 54 3 [] [(3, (.row 7)), (4, (.pv (.int .i64 i4)))] [(7, (.row 31 1 (List.map (eLst 1 (eInt .u64)) o7)))])
theorem q54_3 {i4 : Int} {o7 : List (List Int)} : Imp E54 (headT P cods H prim 54 3 [] [(3, (.row 7)), (4, (.pv (.int .i64 i4)))] [(7, (.row 31 1 (List.map (eLst 1 (eInt .u64)) o7)))]) (t54_3 i4 o7) := dec_imp _ _

/-- grammarlab/grammarlabref04.family, loop 6 -/
noncomputable def t54_6 (i4 : Int) (k5 : Int) (o7 : List (List Int)) : Option (List (List Int)) := dec E54 (headT P cods H prim 54 6 [] [(3, (.row 7)), (4, (.pv (.int .i64 i4))), (5, (.pv (.int .i64 k5)))] [(7, (.row 31 1 (List.map (eLst 1 (eInt .u64)) o7)))])
theorem q54_6 {i4 : Int} {k5 : Int} {o7 : List (List Int)} : Imp E54 (headT P cods H prim 54 6 [] [(3, (.row 7)), (4, (.pv (.int .i64 i4))), (5, (.pv (.int .i64 k5)))] [(7, (.row 31 1 (List.map (eLst 1 (eInt .u64)) o7)))]) (t54_6 i4 k5 o7) := dec_imp _ _

abbrev E55.T : Type := List UInt8
def E55 : E55.T → Out := (fun x : R55.T => ((R55.enc x, []) : Out))
instance : Inj E55 := ⟨fun a b h => by
  simp only [E55, Prod.mk.injEq, and_true] at h
  exact Inj.inj _ _ h⟩

/-- grammarlab/grammarlabref04.name -/
noncomputable def f55 (d0 : List TypeDecl) (all1 : List (List UInt8)) (codes2 : List (List Int)) (b3 : List Int) : Option (List UInt8) := dec E55 (Rn 55 [(.pv (.lst 3 (List.map TypeDecl.enc d0))), (.pv (.lst 1 (List.map eStr all1))), (.pv (.lst 1 (List.map (eLst 1 (eInt .u64)) codes2))), (.pv (.lst 1 (List.map (eInt .u64) b3)))] [])
theorem s55 {d0 : List TypeDecl} {all1 : List (List UInt8)} {codes2 : List (List Int)} {b3 : List Int} : Imp E55 (Rn 55 [(.pv (.lst 3 (List.map TypeDecl.enc d0))), (.pv (.lst 1 (List.map eStr all1))), (.pv (.lst 1 (List.map (eLst 1 (eInt .u64)) codes2))), (.pv (.lst 1 (List.map (eInt .u64) b3)))] []) (f55 d0 all1 codes2 b3) := dec_imp _ _

/-- grammarlab/grammarlabref04.name, loop 3 -/
noncomputable def t55_3 (d0 : List TypeDecl) (all1 : List (List UInt8)) (codes2 : List (List Int)) (b3 : List Int) (i10 : Int) (o9 : List (List UInt8)) : Option (List UInt8) := dec E55 (headT P cods H prim 55 3 [] [(0, (.pv (.lst 3 (List.map TypeDecl.enc d0)))), (1, (.pv (.lst 1 (List.map eStr all1)))), (2, (.pv (.lst 1 (List.map (eLst 1 (eInt .u64)) codes2)))), (3, (.pv (.lst 1 (List.map (eInt .u64) b3)))), (9, (.row 9)), (10, (.pv (.int .i64 i10)))] [(9, (.row 9 1 (List.map eStr o9)))])
theorem q55_3 {d0 : List TypeDecl} {all1 : List (List UInt8)} {codes2 : List (List Int)} {b3 : List Int} {i10 : Int} {o9 : List (List UInt8)} : Imp E55 (headT P cods H prim 55 3 [] [(0, (.pv (.lst 3 (List.map TypeDecl.enc d0)))), (1, (.pv (.lst 1 (List.map eStr all1)))), (2, (.pv (.lst 1 (List.map (eLst 1 (eInt .u64)) codes2)))), (3, (.pv (.lst 1 (List.map (eInt .u64) b3)))), (9, (.row 9)), (10, (.pv (.int .i64 i10)))] [(9, (.row 9 1 (List.map eStr o9)))]) (t55_3 d0 all1 codes2 b3 i10 o9) := dec_imp _ _

/-- grammarlab/grammarlabref04.name, loop 12 -/
noncomputable def t55_12 (l9 : List (List UInt8)) (s11 : List UInt8) (i12 : Int) : Option (List UInt8) := dec E55 (headT P cods H prim 55 12 [] [(9, (.pv (.lst 1 (List.map eStr l9)))), (11, (.pv (.str s11))), (12, (.pv (.int .i64 i12)))] [])
theorem q55_12 {l9 : List (List UInt8)} {s11 : List UInt8} {i12 : Int} : Imp E55 (headT P cods H prim 55 12 [] [(9, (.pv (.lst 1 (List.map eStr l9)))), (11, (.pv (.str s11))), (12, (.pv (.int .i64 i12)))] []) (t55_12 l9 s11 i12) := dec_imp _ _

abbrev E56.T : Type := Bool
def E56 : E56.T → Out := (fun x : R56.T => ((R56.enc x, []) : Out))
instance : Inj E56 := ⟨fun a b h => by
  simp only [E56, Prod.mk.injEq, and_true] at h
  exact Inj.inj _ _ h⟩

/-- grammarlab/grammarlabref04.before -/
noncomputable def f56 (a0 : Coded) (b1 : Coded) : Option Bool := dec E56 (Rn 56 [(.pv (.agg (Coded.enc a0))), (.pv (.agg (Coded.enc b1)))] [])
theorem s56 {a0 : Coded} {b1 : Coded} : Imp E56 (Rn 56 [(.pv (.agg (Coded.enc a0))), (.pv (.agg (Coded.enc b1)))] []) (f56 a0 b1) := dec_imp _ _

abbrev E57.T : Type := Bool
def E57 : E57.T → Out := (fun x : R57.T => ((R57.enc x, []) : Out))
instance : Inj E57 := ⟨fun a b h => by
  simp only [E57, Prod.mk.injEq, and_true] at h
  exact Inj.inj _ _ h⟩

/-- grammarlab/grammarlabref02.Same -/
noncomputable def f57 (a0 : List Int) (b1 : List Int) : Option Bool := dec E57 (Rn 57 [(.pv (.lst 1 (List.map (eInt .u64) a0))), (.pv (.lst 1 (List.map (eInt .u64) b1)))] [])
theorem s57 {a0 : List Int} {b1 : List Int} : Imp E57 (Rn 57 [(.pv (.lst 1 (List.map (eInt .u64) a0))), (.pv (.lst 1 (List.map (eInt .u64) b1)))] []) (f57 a0 b1) := dec_imp _ _

/-- grammarlab/grammarlabref02.Same, loop 4 -/
noncomputable def t57_4 (a0 : List Int) (b1 : List Int) (i5 : Int) : Option Bool := dec E57 (headT P cods H prim 57 4 [] [(0, (.pv (.lst 1 (List.map (eInt .u64) a0)))), (1, (.pv (.lst 1 (List.map (eInt .u64) b1)))), (5, (.pv (.int .i64 i5)))] [])
theorem q57_4 {a0 : List Int} {b1 : List Int} {i5 : Int} : Imp E57 (headT P cods H prim 57 4 [] [(0, (.pv (.lst 1 (List.map (eInt .u64) a0)))), (1, (.pv (.lst 1 (List.map (eInt .u64) b1)))), (5, (.pv (.int .i64 i5)))] []) (t57_4 a0 b1 i5) := dec_imp _ _

abbrev E58.T : Type := Int
def E58 : E58.T → Out := (fun x : R58.T => ((R58.enc x, []) : Out))
instance : Inj E58 := ⟨fun a b h => by
  simp only [E58, Prod.mk.injEq, and_true] at h
  exact Inj.inj _ _ h⟩

/-- grammarlab/closure.lookup[grammarlab/api.Coded] -/
noncomputable def f58 (l0 : List Coded) (is1_0 : List Int) : Option Int := dec E58 (Rn 58 [(.pv (.lst 2 (List.map Coded.enc l0))), (.pv (.fn 59 [(.ref [(.lst 1 (List.map (eInt .u64) is1_0))])]))] [])
theorem s58 {l0 : List Coded} {is1_0 : List Int} : Imp E58 (Rn 58 [(.pv (.lst 2 (List.map Coded.enc l0))), (.pv (.fn 59 [(.ref [(.lst 1 (List.map (eInt .u64) is1_0))])]))] []) (f58 l0 is1_0) := dec_imp _ _

/-- grammarlab/closure.lookup[grammarlab/api.Coded], loop 2 -/
noncomputable def t58_2 (is1_0 : List Int) (v7 : List Coded) (v8 : Int) (v9 : Int) : Option Int := dec E58 (headT P cods H prim 58 2 [] [(1, (.pv (.fn 59 [(.ref [(.lst 1 (List.map (eInt .u64) is1_0))])]))), (7, (.pv (.lst 2 (List.map Coded.enc v7)))), (8, (.pv (.int .i64 v8))), (9, (.pv (.int .i64 v9)))] [])
theorem q58_2 {is1_0 : List Int} {v7 : List Coded} {v8 : Int} {v9 : Int} : Imp E58 (headT P cods H prim 58 2 [] [(1, (.pv (.fn 59 [(.ref [(.lst 1 (List.map (eInt .u64) is1_0))])]))), (7, (.pv (.lst 2 (List.map Coded.enc v7)))), (8, (.pv (.int .i64 v8))), (9, (.pv (.int .i64 v9)))] []) (t58_2 is1_0 v7 v8 v9) := dec_imp _ _

abbrev E59.T : Type := Bool
def E59 : E59.T → Out := (fun x : R59.T => ((R59.enc x, []) : Out))
instance : Inj E59 := ⟨fun a b h => by
  simp only [E59, Prod.mk.injEq, and_true] at h
  exact Inj.inj _ _ h⟩

/-- grammarlab/closure.Find$1 -/
noncomputable def f59 (x0 : Coded) (a1 : List Int) : Option Bool := dec E59 (Rn 59 [(.pv (.agg (Coded.enc x0))), (.pv (.ref [(.lst 1 (List.map (eInt .u64) a1))]))] [])
theorem s59 {x0 : Coded} {a1 : List Int} : Imp E59 (Rn 59 [(.pv (.agg (Coded.enc x0))), (.pv (.ref [(.lst 1 (List.map (eInt .u64) a1))]))] []) (f59 x0 a1) := dec_imp _ _

abbrev E60.T : Type := List Int
def E60 : E60.T → Out := (fun x : R60.T => ((R60.enc x, []) : Out))
instance : Inj E60 := ⟨fun a b h => by
  simp only [E60, Prod.mk.injEq, and_true] at h
  exact Inj.inj _ _ h⟩

/-- grammarlab/grammarlabref02.Normal -/
noncomputable def f60 (b0 : List Int) : Option (List Int) := dec E60 (Rn 60 [(.pv (.lst 1 (List.map (eInt .u64) b0)))] [])
theorem s60 {b0 : List Int} : Imp E60 (Rn 60 [(.pv (.lst 1 (List.map (eInt .u64) b0)))] []) (f60 b0) := dec_imp _ _

/-- grammarlab/grammarlabref02.Normal, loop 2 -/
noncomputable def t60_2 (b0 : List Int) (n3 : Int) : Option (List Int) := dec E60 (headT P cods H prim 60 2 [] [(0, (.pv (.lst 1 (List.map (eInt .u64) b0)))), (3, (.pv (.int .i64 n3)))] [])
theorem q60_2 {b0 : List Int} {n3 : Int} : Imp E60 (headT P cods H prim 60 2 [] [(0, (.pv (.lst 1 (List.map (eInt .u64) b0)))), (3, (.pv (.int .i64 n3)))] []) (t60_2 b0 n3) := dec_imp _ _

abbrev E61.T : Type := List Int
def E61 : E61.T → Out := (fun x : R61.T => ((R61.enc x, []) : Out))
instance : Inj E61 := ⟨fun a b h => by
  simp only [E61, Prod.mk.injEq, and_true] at h
  exact Inj.inj _ _ h⟩

/-- grammarlab/grammarlabref02.And -/
noncomputable def f61 (a0 : List Int) (b1 : List Int) : Option (List Int) := dec E61 (Rn 61 [(.pv (.lst 1 (List.map (eInt .u64) a0))), (.pv (.lst 1 (List.map (eInt .u64) b1)))] [])
theorem s61 {a0 : List Int} {b1 : List Int} : Imp E61 (Rn 61 [(.pv (.lst 1 (List.map (eInt .u64) a0))), (.pv (.lst 1 (List.map (eInt .u64) b1)))] []) (f61 a0 b1) := dec_imp _ _

/-- grammarlab/grammarlabref02.And, loop 3 -/
noncomputable def t61_3 (a0 : List Int) (b1 : List Int) (i6 : Int) (o5 : List Int) : Option (List Int) := dec E61 (headT P cods H prim 61 3 [] [(0, (.pv (.lst 1 (List.map (eInt .u64) a0)))), (1, (.pv (.lst 1 (List.map (eInt .u64) b1)))), (5, (.row 5)), (6, (.pv (.int .i64 i6)))] [(5, (.row 37 1 (List.map (eInt .u64) o5)))])
theorem q61_3 {a0 : List Int} {b1 : List Int} {i6 : Int} {o5 : List Int} : Imp E61 (headT P cods H prim 61 3 [] [(0, (.pv (.lst 1 (List.map (eInt .u64) a0)))), (1, (.pv (.lst 1 (List.map (eInt .u64) b1)))), (5, (.row 5)), (6, (.pv (.int .i64 i6)))] [(5, (.row 37 1 (List.map (eInt .u64) o5)))]) (t61_3 a0 b1 i6 o5) := dec_imp _ _

abbrev E62.T : Type := List Int
def E62 : E62.T → Out := (fun x : R62.T => ((R62.enc x, []) : Out))
instance : Inj E62 := ⟨fun a b h => by
  simp only [E62, Prod.mk.injEq, and_true] at h
  exact Inj.inj _ _ h⟩

/-- grammarlab/bits.Or -/
noncomputable def f62 (a0 : List Int) (b1 : List Int) : Option (List Int) := dec E62 (Rn 62 [(.pv (.lst 1 (List.map (eInt .u64) a0))), (.pv (.lst 1 (List.map (eInt .u64) b1)))] [])
theorem s62 {a0 : List Int} {b1 : List Int} : Imp E62 (Rn 62 [(.pv (.lst 1 (List.map (eInt .u64) a0))), (.pv (.lst 1 (List.map (eInt .u64) b1)))] []) (f62 a0 b1) := dec_imp _ _

/-- grammarlab/bits.Or, loop 3 -/
noncomputable def t62_3 (a0 : List Int) (b1 : List Int) (v14 : Int) (v15 : Int) (o12 : List Int) : Option (List Int) := dec E62 (headT P cods H prim 62 3 [] [(0, (.pv (.lst 1 (List.map (eInt .u64) a0)))), (1, (.pv (.lst 1 (List.map (eInt .u64) b1)))), (5, (.row 12)), (14, (.pv (.int .i64 v14))), (15, (.pv (.int .i64 v15)))] [(12, (.row 37 1 (List.map (eInt .u64) o12)))])
theorem q62_3 {a0 : List Int} {b1 : List Int} {v14 : Int} {v15 : Int} {o12 : List Int} : Imp E62 (headT P cods H prim 62 3 [] [(0, (.pv (.lst 1 (List.map (eInt .u64) a0)))), (1, (.pv (.lst 1 (List.map (eInt .u64) b1)))), (5, (.row 12)), (14, (.pv (.int .i64 v14))), (15, (.pv (.int .i64 v15)))] [(12, (.row 37 1 (List.map (eInt .u64) o12)))]) (t62_3 a0 b1 v14 v15 o12) := dec_imp _ _

abbrev E63.T : Type := Bool
def E63 : E63.T → Out := (fun x : R63.T => ((R63.enc x, []) : Out))
instance : Inj E63 := ⟨fun a b h => by
  simp only [E63, Prod.mk.injEq, and_true] at h
  exact Inj.inj _ _ h⟩

/-- grammarlab/bits.Subset -/
noncomputable def f63 (a0 : List Int) (b1 : List Int) : Option Bool := dec E63 (Rn 63 [(.pv (.lst 1 (List.map (eInt .u64) a0))), (.pv (.lst 1 (List.map (eInt .u64) b1)))] [])
theorem s63 {a0 : List Int} {b1 : List Int} : Imp E63 (Rn 63 [(.pv (.lst 1 (List.map (eInt .u64) a0))), (.pv (.lst 1 (List.map (eInt .u64) b1)))] []) (f63 a0 b1) := dec_imp _ _

/-- grammarlab/bits.Subset, loop 2 -/
noncomputable def t63_2 (b1 : List Int) (v7 : List Int) (v8 : Int) (v9 : Int) : Option Bool := dec E63 (headT P cods H prim 63 2 [] [(1, (.pv (.lst 1 (List.map (eInt .u64) b1)))), (7, (.pv (.lst 1 (List.map (eInt .u64) v7)))), (8, (.pv (.int .i64 v8))), (9, (.pv (.int .i64 v9)))] [])
theorem q63_2 {b1 : List Int} {v7 : List Int} {v8 : Int} {v9 : Int} : Imp E63 (headT P cods H prim 63 2 [] [(1, (.pv (.lst 1 (List.map (eInt .u64) b1)))), (7, (.pv (.lst 1 (List.map (eInt .u64) v7)))), (8, (.pv (.int .i64 v8))), (9, (.pv (.int .i64 v9)))] []) (t63_2 b1 v7 v8 v9) := dec_imp _ _

abbrev E64.T : Type := List Int
def E64 : E64.T → Out := (fun x : R64.T => ((R64.enc x, []) : Out))
instance : Inj E64 := ⟨fun a b h => by
  simp only [E64, Prod.mk.injEq, and_true] at h
  exact Inj.inj _ _ h⟩

/-- grammarlab/grammarlabref02.Or -/
noncomputable def f64 (a0 : List Int) (b1 : List Int) : Option (List Int) := dec E64 (Rn 64 [(.pv (.lst 1 (List.map (eInt .u64) a0))), (.pv (.lst 1 (List.map (eInt .u64) b1)))] [])
theorem s64 {a0 : List Int} {b1 : List Int} : Imp E64 (Rn 64 [(.pv (.lst 1 (List.map (eInt .u64) a0))), (.pv (.lst 1 (List.map (eInt .u64) b1)))] []) (f64 a0 b1) := dec_imp _ _

/-- grammarlab/grammarlabref02.Or, loop 3 -/
noncomputable def t64_3 (a0 : List Int) (b1 : List Int) (i6 : Int) (o5 : List Int) : Option (List Int) := dec E64 (headT P cods H prim 64 3 [] [(0, (.pv (.lst 1 (List.map (eInt .u64) a0)))), (1, (.pv (.lst 1 (List.map (eInt .u64) b1)))), (5, (.row 5)), (6, (.pv (.int .i64 i6)))] [(5, (.row 37 1 (List.map (eInt .u64) o5)))])
theorem q64_3 {a0 : List Int} {b1 : List Int} {i6 : Int} {o5 : List Int} : Imp E64 (headT P cods H prim 64 3 [] [(0, (.pv (.lst 1 (List.map (eInt .u64) a0)))), (1, (.pv (.lst 1 (List.map (eInt .u64) b1)))), (5, (.row 5)), (6, (.pv (.int .i64 i6)))] [(5, (.row 37 1 (List.map (eInt .u64) o5)))]) (t64_3 a0 b1 i6 o5) := dec_imp _ _

abbrev E65.T : Type := Bool
def E65 : E65.T → Out := (fun x : R65.T => ((R65.enc x, []) : Out))
instance : Inj E65 := ⟨fun a b h => by
  simp only [E65, Prod.mk.injEq, and_true] at h
  exact Inj.inj _ _ h⟩

/-- grammarlab/grammarlabref02.Subset -/
noncomputable def f65 (a0 : List Int) (b1 : List Int) : Option Bool := dec E65 (Rn 65 [(.pv (.lst 1 (List.map (eInt .u64) a0))), (.pv (.lst 1 (List.map (eInt .u64) b1)))] [])
theorem s65 {a0 : List Int} {b1 : List Int} : Imp E65 (Rn 65 [(.pv (.lst 1 (List.map (eInt .u64) a0))), (.pv (.lst 1 (List.map (eInt .u64) b1)))] []) (f65 a0 b1) := dec_imp _ _

abbrev E66.T : Type := Bool
def E66 : E66.T → Out := (fun x : R66.T => ((R66.enc x, []) : Out))
instance : Inj E66 := ⟨fun a b h => by
  simp only [E66, Prod.mk.injEq, and_true] at h
  exact Inj.inj _ _ h⟩

/-- grammarlab/closure.Supers$1 -/
noncomputable def f66 (m0 : Int) (a1 : Int) (a2 : List Coded) : Option Bool := dec E66 (Rn 66 [(.pv (.int .i64 m0)), (.pv (.ref [(.int .i64 a1)])), (.pv (.ref [(.lst 2 (List.map Coded.enc a2))]))] [])
theorem s66 {m0 : Int} {a1 : Int} {a2 : List Coded} : Imp E66 (Rn 66 [(.pv (.int .i64 m0)), (.pv (.ref [(.int .i64 a1)])), (.pv (.ref [(.lst 2 (List.map Coded.enc a2))]))] []) (f66 m0 a1 a2) := dec_imp _ _

abbrev E67.T : Type := Bool
def E67 : E67.T → Out := (fun x : R67.T => ((R67.enc x, []) : Out))
instance : Inj E67 := ⟨fun a b h => by
  simp only [E67, Prod.mk.injEq, and_true] at h
  exact Inj.inj _ _ h⟩

/-- slices.ContainsFunc[[]int,int] -/
noncomputable def f67 (s0 : List Int) (f1_0 : Int) (f1_1 : List Coded) : Option Bool := dec E67 (Rn 67 [(.pv (.lst 1 (List.map (eInt .i64) s0))), (.pv (.fn 66 [(.ref [(.int .i64 f1_0)]), (.ref [(.lst 2 (List.map Coded.enc f1_1))])]))] [])
theorem s67 {s0 : List Int} {f1_0 : Int} {f1_1 : List Coded} : Imp E67 (Rn 67 [(.pv (.lst 1 (List.map (eInt .i64) s0))), (.pv (.fn 66 [(.ref [(.int .i64 f1_0)]), (.ref [(.lst 2 (List.map Coded.enc f1_1))])]))] []) (f67 s0 f1_0 f1_1) := dec_imp _ _

abbrev E68.T : Type := List Int
def E68 : E68.T → Out := (fun x : R68.T => ((R68.enc x, []) : Out))
instance : Inj E68 := ⟨fun a b h => by
  simp only [E68, Prod.mk.injEq, and_true] at h
  exact Inj.inj _ _ h⟩

/-- grammarlab/bits.normal -/
noncomputable def f68 (b0 : List Int) : Option (List Int) := dec E68 (Rn 68 [(.pv (.lst 1 (List.map (eInt .u64) b0)))] [])
theorem s68 {b0 : List Int} : Imp E68 (Rn 68 [(.pv (.lst 1 (List.map (eInt .u64) b0)))] []) (f68 b0) := dec_imp _ _

/-- grammarlab/bits.normal, loop 2 -/
noncomputable def t68_2 (b0 : List Int) (n3 : Int) : Option (List Int) := dec E68 (headT P cods H prim 68 2 [] [(0, (.pv (.lst 1 (List.map (eInt .u64) b0)))), (3, (.pv (.int .i64 n3)))] [])
theorem q68_2 {b0 : List Int} {n3 : Int} : Imp E68 (headT P cods H prim 68 2 [] [(0, (.pv (.lst 1 (List.map (eInt .u64) b0)))), (3, (.pv (.int .i64 n3)))] []) (t68_2 b0 n3) := dec_imp _ _

abbrev E70.T : Type := Int
def E70 : E70.T → Out := (fun x : R70.T => ((R70.enc x, []) : Out))
instance : Inj E70 := ⟨fun a b h => by
  simp only [E70, Prod.mk.injEq, and_true] at h
  exact Inj.inj _ _ h⟩

/-- grammarlab/grammarlabref03.sizes -/
noncomputable def f70 (d0 : List TypeDecl) : Option Int := dec E70 (Rn 70 [(.pv (.lst 3 (List.map TypeDecl.enc d0)))] [])
theorem s70 {d0 : List TypeDecl} : Imp E70 (Rn 70 [(.pv (.lst 3 (List.map TypeDecl.enc d0)))] []) (f70 d0) := dec_imp _ _

/-- grammarlab/grammarlabref03.sizes, loop 4 -/
noncomputable def t70_4 (d0 : List TypeDecl) (i3 : Int) : Option Int := dec E70 (headT P cods H prim 70 4 [] [(0, (.pv (.lst 3 (List.map TypeDecl.enc d0)))), (3, (.pv (.int .i64 i3)))] [])
theorem q70_4 {d0 : List TypeDecl} {i3 : Int} : Imp E70 (headT P cods H prim 70 4 [] [(0, (.pv (.lst 3 (List.map TypeDecl.enc d0)))), (3, (.pv (.int .i64 i3)))] []) (t70_4 d0 i3) := dec_imp _ _

abbrev E71.T : Type := Int
def E71 : E71.T → Out := (fun x : R71.T => ((R71.enc x, []) : Out))
instance : Inj E71 := ⟨fun a b h => by
  simp only [E71, Prod.mk.injEq, and_true] at h
  exact Inj.inj _ _ h⟩

/-- grammarlab/grammarlabref03.names -/
noncomputable def f71 (d0 : List TypeDecl) : Option Int := dec E71 (Rn 71 [(.pv (.lst 3 (List.map TypeDecl.enc d0)))] [])
theorem s71 {d0 : List TypeDecl} : Imp E71 (Rn 71 [(.pv (.lst 3 (List.map TypeDecl.enc d0)))] []) (f71 d0) := dec_imp _ _

/-- grammarlab/grammarlabref03.names, loop 2 -/
noncomputable def t71_2 (d0 : List TypeDecl) (i3 : Int) : Option Int := dec E71 (headT P cods H prim 71 2 [] [(0, (.pv (.lst 3 (List.map TypeDecl.enc d0)))), (3, (.pv (.int .i64 i3)))] [])
theorem q71_2 {d0 : List TypeDecl} {i3 : Int} : Imp E71 (headT P cods H prim 71 2 [] [(0, (.pv (.lst 3 (List.map TypeDecl.enc d0)))), (3, (.pv (.int .i64 i3)))] []) (t71_2 d0 i3) := dec_imp _ _

abbrev E72.T : Type := Int
def E72 : E72.T → Out := (fun x : R72.T => ((R72.enc x, []) : Out))
instance : Inj E72 := ⟨fun a b h => by
  simp only [E72, Prod.mk.injEq, and_true] at h
  exact Inj.inj _ _ h⟩

/-- grammarlab/grammarlabref03.supers -/
noncomputable def f72 (d0 : List TypeDecl) : Option Int := dec E72 (Rn 72 [(.pv (.lst 3 (List.map TypeDecl.enc d0)))] [])
theorem s72 {d0 : List TypeDecl} : Imp E72 (Rn 72 [(.pv (.lst 3 (List.map TypeDecl.enc d0)))] []) (f72 d0) := dec_imp _ _

/-- grammarlab/grammarlabref03.supers, loop 2 -/
noncomputable def t72_2 (d0 : List TypeDecl) (i3 : Int) : Option Int := dec E72 (headT P cods H prim 72 2 [] [(0, (.pv (.lst 3 (List.map TypeDecl.enc d0)))), (3, (.pv (.int .i64 i3)))] [])
theorem q72_2 {d0 : List TypeDecl} {i3 : Int} : Imp E72 (headT P cods H prim 72 2 [] [(0, (.pv (.lst 3 (List.map TypeDecl.enc d0)))), (3, (.pv (.int .i64 i3)))] []) (t72_2 d0 i3) := dec_imp _ _

/-- grammarlab/grammarlabref03.supers, loop 6 -/
noncomputable def t72_6 (d0 : List TypeDecl) (i3 : Int) (l4 : List (List UInt8)) (k5 : Int) : Option Int := dec E72 (headT P cods H prim 72 6 [] [(0, (.pv (.lst 3 (List.map TypeDecl.enc d0)))), (3, (.pv (.int .i64 i3))), (4, (.pv (.lst 1 (List.map eStr l4)))), (5, (.pv (.int .i64 k5)))] [])
theorem q72_6 {d0 : List TypeDecl} {i3 : Int} {l4 : List (List UInt8)} {k5 : Int} : Imp E72 (headT P cods H prim 72 6 [] [(0, (.pv (.lst 3 (List.map TypeDecl.enc d0)))), (3, (.pv (.int .i64 i3))), (4, (.pv (.lst 1 (List.map eStr l4)))), (5, (.pv (.int .i64 k5)))] []) (t72_6 d0 i3 l4 k5) := dec_imp _ _

abbrev E73.T : Type := List (List UInt8)
def E73 : E73.T → Out := (fun x : R73.T => ((R73.enc x, []) : Out))
instance : Inj E73 := ⟨fun a b h => by
  simp only [E73, Prod.mk.injEq, and_true] at h
  exact Inj.inj _ _ h⟩

/-- grammarlab/grammarlabref03.placed -/
noncomputable def f73 (d0 : List TypeDecl) : Option (List (List UInt8)) := dec E73 (Rn 73 [(.pv (.lst 3 (List.map TypeDecl.enc d0)))] [])
theorem s73 {d0 : List TypeDecl} : Imp E73 (Rn 73 [(.pv (.lst 3 (List.map TypeDecl.enc d0)))] []) (f73 d0) := dec_imp _ _

/-- grammarlab/grammarlabref03.placed, loop 3 -/
noncomputable def t73_3 (d0 : List TypeDecl) (more4 : Bool) (o3 : List (List UInt8)) : Option (List (List UInt8)) := dec E73 (headT P cods H prim 73 3 [] [(0, (.pv (.lst 3 (List.map TypeDecl.enc d0)))), (3, (.row 3)), (4, (.pv (.bool more4)))] [(3, (.row 9 1 (List.map eStr o3)))])
theorem q73_3 {d0 : List TypeDecl} {more4 : Bool} {o3 : List (List UInt8)} : Imp E73 (headT P cods H prim 73 3 [] [(0, (.pv (.lst 3 (List.map TypeDecl.enc d0)))), (3, (.row 3)), (4, (.pv (.bool more4)))] [(3, (.row 9 1 (List.map eStr o3)))]) (t73_3 d0 more4 o3) := dec_imp _ _

/-- grammarlab/grammarlabref03.placed, loop 7 -/
noncomputable def t73_7 (d0 : List TypeDecl) (more4 : Bool) (next5 : List UInt8) (i6 : Int) (o3 : List (List UInt8)) : Option (List (List UInt8)) := dec E73 (headT P cods H prim 73 7 [] [(0, (.pv (.lst 3 (List.map TypeDecl.enc d0)))), (3, (.row 3)), (4, (.pv (.bool more4))), (5, (.pv (.str next5))), (6, (.pv (.int .i64 i6)))] [(3, (.row 9 1 (List.map eStr o3)))])
theorem q73_7 {d0 : List TypeDecl} {more4 : Bool} {next5 : List UInt8} {i6 : Int} {o3 : List (List UInt8)} : Imp E73 (headT P cods H prim 73 7 [] [(0, (.pv (.lst 3 (List.map TypeDecl.enc d0)))), (3, (.row 3)), (4, (.pv (.bool more4))), (5, (.pv (.str next5))), (6, (.pv (.int .i64 i6)))] [(3, (.row 9 1 (List.map eStr o3)))]) (t73_7 d0 more4 next5 i6 o3) := dec_imp _ _

abbrev E98.T : Type := List (List UInt8)
def E98 : E98.T → Out := (fun x : R98.T => ((R98.enc x, []) : Out))
instance : Inj E98 := ⟨fun a b h => by
  simp only [E98, Prod.mk.injEq, and_true] at h
  exact Inj.inj _ _ h⟩

/-- grammarlab/grammarlabref03.Put -/
noncomputable def f98 (l0 : List (List UInt8)) (s1 : List UInt8) : Option (List (List UInt8)) := dec E98 (Rn 98 [(.pv (.lst 1 (List.map eStr l0))), (.pv (.str s1))] [])
theorem s98 {l0 : List (List UInt8)} {s1 : List UInt8} : Imp E98 (Rn 98 [(.pv (.lst 1 (List.map eStr l0))), (.pv (.str s1))] []) (f98 l0 s1) := dec_imp _ _

/-- grammarlab/grammarlabref03.Put, loop 3 -/
noncomputable def t98_3 (l0 : List (List UInt8)) (s1 : List UInt8) (v6 : Int) (o5 : List (List UInt8)) : Option (List (List UInt8)) := dec E98 (headT P cods H prim 98 3 [] [(0, (.pv (.lst 1 (List.map eStr l0)))), (1, (.pv (.str s1))), (5, (.row 5)), (6, (.pv (.int .i64 v6)))] [(5, (.row 9 1 (List.map eStr o5)))])
theorem q98_3 {l0 : List (List UInt8)} {s1 : List UInt8} {v6 : Int} {o5 : List (List UInt8)} : Imp E98 (headT P cods H prim 98 3 [] [(0, (.pv (.lst 1 (List.map eStr l0)))), (1, (.pv (.str s1))), (5, (.row 5)), (6, (.pv (.int .i64 v6)))] [(5, (.row 9 1 (List.map eStr o5)))]) (t98_3 l0 s1 v6 o5) := dec_imp _ _

abbrev E99.T : Type := List (List UInt8)
def E99 : E99.T → Out := (fun x : R99.T => ((R99.enc x, []) : Out))
instance : Inj E99 := ⟨fun a b h => by
  simp only [E99, Prod.mk.injEq, and_true] at h
  exact Inj.inj _ _ h⟩

/-- grammarlab/grammarlabref03.Below -/
noncomputable def f99 (d0 : List TypeDecl) (name1 : List UInt8) : Option (List (List UInt8)) := dec E99 (Rn 99 [(.pv (.lst 3 (List.map TypeDecl.enc d0))), (.pv (.str name1))] [])
theorem s99 {d0 : List TypeDecl} {name1 : List UInt8} : Imp E99 (Rn 99 [(.pv (.lst 3 (List.map TypeDecl.enc d0))), (.pv (.str name1))] []) (f99 d0 name1) := dec_imp _ _

/-- grammarlab/grammarlabref03.Below, loop 5 -/
noncomputable def t99_5 (d0 : List TypeDecl) (i6 : Int) (o15 : List (List UInt8)) : Option (List (List UInt8)) := dec E99 (headT P cods H prim 99 5 [] [(0, (.pv (.lst 3 (List.map TypeDecl.enc d0)))), (5, (.row 15)), (6, (.pv (.int .i64 i6)))] [(15, (.row 9 1 (List.map eStr o15)))])
theorem q99_5 {d0 : List TypeDecl} {i6 : Int} {o15 : List (List UInt8)} : Imp E99 (headT P cods H prim 99 5 [] [(0, (.pv (.lst 3 (List.map TypeDecl.enc d0)))), (5, (.row 15)), (6, (.pv (.int .i64 i6)))] [(15, (.row 9 1 (List.map eStr o15)))]) (t99_5 d0 i6 o15) := dec_imp _ _

/-- grammarlab/grammarlabref03.Below, loop 8 -/
noncomputable def t99_8 (d0 : List TypeDecl) (i6 : Int) (k7 : Int) (o15 : List (List UInt8)) : Option (List (List UInt8)) := dec E99 (headT P cods H prim 99 8 [] [(0, (.pv (.lst 3 (List.map TypeDecl.enc d0)))), (5, (.row 15)), (6, (.pv (.int .i64 i6))), (7, (.pv (.int .i64 k7)))] [(15, (.row 9 1 (List.map eStr o15)))])
theorem q99_8 {d0 : List TypeDecl} {i6 : Int} {k7 : Int} {o15 : List (List UInt8)} : Imp E99 (headT P cods H prim 99 8 [] [(0, (.pv (.lst 3 (List.map TypeDecl.enc d0)))), (5, (.row 15)), (6, (.pv (.int .i64 i6))), (7, (.pv (.int .i64 k7)))] [(15, (.row 9 1 (List.map eStr o15)))]) (t99_8 d0 i6 k7 o15) := dec_imp _ _

/-- grammarlab/grammarlabref03.Below, loop 14 -/
noncomputable def t99_14 (out8 : List (List UInt8)) (i9 : Int) (o15 : List (List UInt8)) : Option (List (List UInt8)) := dec E99 (headT P cods H prim 99 14 [] [(5, (.row 15)), (8, (.pv (.lst 1 (List.map eStr out8)))), (9, (.pv (.int .i64 i9)))] [(15, (.row 9 1 (List.map eStr o15)))])
theorem q99_14 {out8 : List (List UInt8)} {i9 : Int} {o15 : List (List UInt8)} : Imp E99 (headT P cods H prim 99 14 [] [(5, (.row 15)), (8, (.pv (.lst 1 (List.map eStr out8)))), (9, (.pv (.int .i64 i9)))] [(15, (.row 9 1 (List.map eStr o15)))]) (t99_14 out8 i9 o15) := dec_imp _ _

abbrev E100.T : Type := (List Int) × Int
def E100 : E100.T → Out := (fun x : R100.T => ((R100.enc x, []) : Out))
instance : Inj E100 := ⟨fun a b h => by
  simp only [E100, Prod.mk.injEq, and_true] at h
  exact Inj.inj _ _ h⟩

/-- grammarlab/grammarlabref02.Of -/
noncomputable def f100 (l0 : List Int) : Option ((List Int) × Int) := dec E100 (Rn 100 [(.pv (.lst 1 (List.map (eInt .i64) l0)))] [])
theorem s100 {l0 : List Int} : Imp E100 (Rn 100 [(.pv (.lst 1 (List.map (eInt .i64) l0)))] []) (f100 l0) := dec_imp _ _

/-- grammarlab/grammarlabref02.Of, loop 3 -/
noncomputable def t100_3 (l0 : List Int) (i5 : Int) (o6 : List Int) : Option ((List Int) × Int) := dec E100 (headT P cods H prim 100 3 [] [(0, (.pv (.lst 1 (List.map (eInt .i64) l0)))), (4, (.row 6)), (5, (.pv (.int .i64 i5)))] [(6, (.row 37 1 (List.map (eInt .u64) o6)))])
theorem q100_3 {l0 : List Int} {i5 : Int} {o6 : List Int} : Imp E100 (headT P cods H prim 100 3 [] [(0, (.pv (.lst 1 (List.map (eInt .i64) l0)))), (4, (.row 6)), (5, (.pv (.int .i64 i5)))] [(6, (.row 37 1 (List.map (eInt .u64) o6)))]) (t100_3 l0 i5 o6) := dec_imp _ _

abbrev E101.T : Type := Bool
def E101 : E101.T → Out := (fun x : R101.T => ((R101.enc x, []) : Out))
instance : Inj E101 := ⟨fun a b h => by
  simp only [E101, Prod.mk.injEq, and_true] at h
  exact Inj.inj _ _ h⟩

/-- grammarlab/grammarlabref04.in -/
noncomputable def f101 (l0 : List (List Int)) (b1 : List Int) : Option Bool := dec E101 (Rn 101 [(.pv (.lst 1 (List.map (eLst 1 (eInt .u64)) l0))), (.pv (.lst 1 (List.map (eInt .u64) b1)))] [])
theorem s101 {l0 : List (List Int)} {b1 : List Int} : Imp E101 (Rn 101 [(.pv (.lst 1 (List.map (eLst 1 (eInt .u64)) l0))), (.pv (.lst 1 (List.map (eInt .u64) b1)))] []) (f101 l0 b1) := dec_imp _ _

/-- grammarlab/grammarlabref04.in, loop 2 -/
noncomputable def t101_2 (l0 : List (List Int)) (b1 : List Int) (i5 : Int) : Option Bool := dec E101 (headT P cods H prim 101 2 [] [(0, (.pv (.lst 1 (List.map (eLst 1 (eInt .u64)) l0)))), (1, (.pv (.lst 1 (List.map (eInt .u64) b1)))), (5, (.pv (.int .i64 i5)))] [])
theorem q101_2 {l0 : List (List Int)} {b1 : List Int} {i5 : Int} : Imp E101 (headT P cods H prim 101 2 [] [(0, (.pv (.lst 1 (List.map (eLst 1 (eInt .u64)) l0)))), (1, (.pv (.lst 1 (List.map (eInt .u64) b1)))), (5, (.pv (.int .i64 i5)))] []) (t101_2 l0 b1 i5) := dec_imp _ _

abbrev E102.T : Type := Bool
def E102 : E102.T → Out := (fun x : R102.T => ((R102.enc x, []) : Out))
instance : Inj E102 := ⟨fun a b h => by
  simp only [E102, Prod.mk.injEq, and_true] at h
  exact Inj.inj _ _ h⟩

/-- grammarlab/grammarlabref02.Equal -/
noncomputable def f102 (a0 : List Int) (b1 : List Int) : Option Bool := dec E102 (Rn 102 [(.pv (.lst 1 (List.map (eInt .u64) a0))), (.pv (.lst 1 (List.map (eInt .u64) b1)))] [])
theorem s102 {a0 : List Int} {b1 : List Int} : Imp E102 (Rn 102 [(.pv (.lst 1 (List.map (eInt .u64) a0))), (.pv (.lst 1 (List.map (eInt .u64) b1)))] []) (f102 a0 b1) := dec_imp _ _

abbrev E103.T : Type := Bool
def E103 : E103.T → Out := (fun x : R103.T => ((R103.enc x, []) : Out))
instance : Inj E103 := ⟨fun a b h => by
  simp only [E103, Prod.mk.injEq, and_true] at h
  exact Inj.inj _ _ h⟩

/-- grammarlab/grammarlabref02.Has -/
noncomputable def f103 (b0 : List Int) (i1 : Int) : Option Bool := dec E103 (Rn 103 [(.pv (.lst 1 (List.map (eInt .u64) b0))), (.pv (.int .i64 i1))] [])
theorem s103 {b0 : List Int} {i1 : Int} : Imp E103 (Rn 103 [(.pv (.lst 1 (List.map (eInt .u64) b0))), (.pv (.int .i64 i1))] []) (f103 b0 i1) := dec_imp _ _

abbrev E104.T : Type := List (List UInt8)
def E104 : E104.T → Out := (fun x : R104.T => ((R104.enc x, []) : Out))
instance : Inj E104 := ⟨fun a b h => by
  simp only [E104, Prod.mk.injEq, and_true] at h
  exact Inj.inj _ _ h⟩

/-- grammarlab/grammarlabref03.Maximal -/
noncomputable def f104 (d0 : List TypeDecl) (l1 : List (List UInt8)) : Option (List (List UInt8)) := dec E104 (Rn 104 [(.pv (.lst 3 (List.map TypeDecl.enc d0))), (.pv (.lst 1 (List.map eStr l1)))] [])
theorem s104 {d0 : List TypeDecl} {l1 : List (List UInt8)} : Imp E104 (Rn 104 [(.pv (.lst 3 (List.map TypeDecl.enc d0))), (.pv (.lst 1 (List.map eStr l1)))] []) (f104 d0 l1) := dec_imp _ _

/-- grammarlab/grammarlabref03.Maximal, loop 4 -/
noncomputable def t104_4 (d0 : List TypeDecl) (all6 : List (List UInt8)) (i7 : Int) (o5 : List (List UInt8)) : Option (List (List UInt8)) := dec E104 (headT P cods H prim 104 4 [] [(0, (.pv (.lst 3 (List.map TypeDecl.enc d0)))), (5, (.row 5)), (6, (.pv (.lst 1 (List.map eStr all6)))), (7, (.pv (.int .i64 i7)))] [(5, (.row 9 1 (List.map eStr o5)))])
theorem q104_4 {d0 : List TypeDecl} {all6 : List (List UInt8)} {i7 : Int} {o5 : List (List UInt8)} : Imp E104 (headT P cods H prim 104 4 [] [(0, (.pv (.lst 3 (List.map TypeDecl.enc d0)))), (5, (.row 5)), (6, (.pv (.lst 1 (List.map eStr all6)))), (7, (.pv (.int .i64 i7)))] [(5, (.row 9 1 (List.map eStr o5)))]) (t104_4 d0 all6 i7 o5) := dec_imp _ _

/-- grammarlab/grammarlabref03.Maximal, loop 9 -/
noncomputable def t104_9 (d0 : List TypeDecl) (all6 : List (List UInt8)) (i7 : Int) (up8 : List (List UInt8)) (free9 : Bool) (k10 : Int) (o5 : List (List UInt8)) : Option (List (List UInt8)) := dec E104 (headT P cods H prim 104 9 [] [(0, (.pv (.lst 3 (List.map TypeDecl.enc d0)))), (5, (.row 5)), (6, (.pv (.lst 1 (List.map eStr all6)))), (7, (.pv (.int .i64 i7))), (8, (.pv (.lst 1 (List.map eStr up8)))), (9, (.pv (.bool free9))), (10, (.pv (.int .i64 k10)))] [(5, (.row 9 1 (List.map eStr o5)))])
theorem q104_9 {d0 : List TypeDecl} {all6 : List (List UInt8)} {i7 : Int} {up8 : List (List UInt8)} {free9 : Bool} {k10 : Int} {o5 : List (List UInt8)} : Imp E104 (headT P cods H prim 104 9 [] [(0, (.pv (.lst 3 (List.map TypeDecl.enc d0)))), (5, (.row 5)), (6, (.pv (.lst 1 (List.map eStr all6)))), (7, (.pv (.int .i64 i7))), (8, (.pv (.lst 1 (List.map eStr up8)))), (9, (.pv (.bool free9))), (10, (.pv (.int .i64 k10)))] [(5, (.row 9 1 (List.map eStr o5)))]) (t104_9 d0 all6 i7 up8 free9 k10 o5) := dec_imp _ _

abbrev E105.T : Type := Int
def E105 : E105.T → Out := (fun x : R105.T => ((R105.enc x, []) : Out))
instance : Inj E105 := ⟨fun a b h => by
  simp only [E105, Prod.mk.injEq, and_true] at h
  exact Inj.inj _ _ h⟩

/-- grammarlab/grammarlabref02.Count -/
noncomputable def f105 (b0 : List Int) : Option Int := dec E105 (Rn 105 [(.pv (.lst 1 (List.map (eInt .u64) b0)))] [])
theorem s105 {b0 : List Int} : Imp E105 (Rn 105 [(.pv (.lst 1 (List.map (eInt .u64) b0)))] []) (f105 b0) := dec_imp _ _

abbrev E106.T : Type := Int
def E106 : E106.T → Out := (fun x : R106.T => ((R106.enc x, []) : Out))
instance : Inj E106 := ⟨fun a b h => by
  simp only [E106, Prod.mk.injEq, and_true] at h
  exact Inj.inj _ _ h⟩

/-- grammarlab/grammarlabref02.word -/
noncomputable def f106 (b0 : List Int) (i1 : Int) : Option Int := dec E106 (Rn 106 [(.pv (.lst 1 (List.map (eInt .u64) b0))), (.pv (.int .i64 i1))] [])
theorem s106 {b0 : List Int} {i1 : Int} : Imp E106 (Rn 106 [(.pv (.lst 1 (List.map (eInt .u64) b0))), (.pv (.int .i64 i1))] []) (f106 b0 i1) := dec_imp _ _

abbrev E107.T : Type := Int
def E107 : E107.T → Out := (fun x : R107.T => ((R107.enc x, []) : Out))
instance : Inj E107 := ⟨fun a b h => by
  simp only [E107, Prod.mk.injEq, and_true] at h
  exact Inj.inj _ _ h⟩

/-- grammarlab/bits.word -/
noncomputable def f107 (b0 : List Int) (i1 : Int) : Option Int := dec E107 (Rn 107 [(.pv (.lst 1 (List.map (eInt .u64) b0))), (.pv (.int .i64 i1))] [])
theorem s107 {b0 : List Int} {i1 : Int} : Imp E107 (Rn 107 [(.pv (.lst 1 (List.map (eInt .u64) b0))), (.pv (.int .i64 i1))] []) (f107 b0 i1) := dec_imp _ _

abbrev E108.T : Type := List Int
def E108 : E108.T → Out := (fun x : R108.T => ((R108.enc x, []) : Out))
instance : Inj E108 := ⟨fun a b h => by
  simp only [E108, Prod.mk.injEq, and_true] at h
  exact Inj.inj _ _ h⟩

/-- grammarlab/grammarlabref02.Minus -/
noncomputable def f108 (a0 : List Int) (b1 : List Int) : Option (List Int) := dec E108 (Rn 108 [(.pv (.lst 1 (List.map (eInt .u64) a0))), (.pv (.lst 1 (List.map (eInt .u64) b1)))] [])
theorem s108 {a0 : List Int} {b1 : List Int} : Imp E108 (Rn 108 [(.pv (.lst 1 (List.map (eInt .u64) a0))), (.pv (.lst 1 (List.map (eInt .u64) b1)))] []) (f108 a0 b1) := dec_imp _ _

/-- grammarlab/grammarlabref02.Minus, loop 3 -/
noncomputable def t108_3 (a0 : List Int) (b1 : List Int) (i6 : Int) (o5 : List Int) : Option (List Int) := dec E108 (headT P cods H prim 108 3 [] [(0, (.pv (.lst 1 (List.map (eInt .u64) a0)))), (1, (.pv (.lst 1 (List.map (eInt .u64) b1)))), (5, (.row 5)), (6, (.pv (.int .i64 i6)))] [(5, (.row 37 1 (List.map (eInt .u64) o5)))])
theorem q108_3 {a0 : List Int} {b1 : List Int} {i6 : Int} {o5 : List Int} : Imp E108 (headT P cods H prim 108 3 [] [(0, (.pv (.lst 1 (List.map (eInt .u64) a0)))), (1, (.pv (.lst 1 (List.map (eInt .u64) b1)))), (5, (.row 5)), (6, (.pv (.int .i64 i6)))] [(5, (.row 37 1 (List.map (eInt .u64) o5)))]) (t108_3 a0 b1 i6 o5) := dec_imp _ _

abbrev E109.T : Type := Int
def E109 : E109.T → Out := (fun x : R109.T => ((R109.enc x, []) : Out))
instance : Inj E109 := ⟨fun a b h => by
  simp only [E109, Prod.mk.injEq, and_true] at h
  exact Inj.inj _ _ h⟩

/-- slices.IndexFunc[[]int,int] -/
noncomputable def f109 (s0 : List Int) (f1_0 : Int) (f1_1 : List Coded) : Option Int := dec E109 (Rn 109 [(.pv (.lst 1 (List.map (eInt .i64) s0))), (.pv (.fn 66 [(.ref [(.int .i64 f1_0)]), (.ref [(.lst 2 (List.map Coded.enc f1_1))])]))] [])
theorem s109 {s0 : List Int} {f1_0 : Int} {f1_1 : List Coded} : Imp E109 (Rn 109 [(.pv (.lst 1 (List.map (eInt .i64) s0))), (.pv (.fn 66 [(.ref [(.int .i64 f1_0)]), (.ref [(.lst 2 (List.map Coded.enc f1_1))])]))] []) (f109 s0 f1_0 f1_1) := dec_imp _ _

/-- slices.IndexFunc[[]int,int], loop 2 -/
noncomputable def t109_2 (s0 : List Int) (f1_0 : Int) (f1_1 : List Coded) (v7 : Int) (v8 : Int) : Option Int := dec E109 (headT P cods H prim 109 2 [] [(0, (.pv (.lst 1 (List.map (eInt .i64) s0)))), (1, (.pv (.fn 66 [(.ref [(.int .i64 f1_0)]), (.ref [(.lst 2 (List.map Coded.enc f1_1))])]))), (7, (.pv (.int .i64 v7))), (8, (.pv (.int .i64 v8)))] [])
theorem q109_2 {s0 : List Int} {f1_0 : Int} {f1_1 : List Coded} {v7 : Int} {v8 : Int} : Imp E109 (headT P cods H prim 109 2 [] [(0, (.pv (.lst 1 (List.map (eInt .i64) s0)))), (1, (.pv (.fn 66 [(.ref [(.int .i64 f1_0)]), (.ref [(.lst 2 (List.map Coded.enc f1_1))])]))), (7, (.pv (.int .i64 v7))), (8, (.pv (.int .i64 v8)))] []) (t109_2 s0 f1_0 f1_1 v7 v8) := dec_imp _ _

abbrev E110.T : Type := Bool
def E110 : E110.T → Out := (fun x : R110.T => ((R110.enc x, []) : Out))
instance : Inj E110 := ⟨fun a b h => by
  simp only [E110, Prod.mk.injEq, and_true] at h
  exact Inj.inj _ _ h⟩

/-- grammarlab/grammarlabref01.Name -/
noncomputable def f110 (s0 : List UInt8) : Option Bool := dec E110 (Rn 110 [(.pv (.str s0))] [])
theorem s110 {s0 : List UInt8} : Imp E110 (Rn 110 [(.pv (.str s0))] []) (f110 s0) := dec_imp _ _

abbrev E111.T : Type := Int
def E111 : E111.T → Out := (fun x : R111.T => ((R111.enc x, []) : Out))
instance : Inj E111 := ⟨fun a b h => by
  simp only [E111, Prod.mk.injEq, and_true] at h
  exact Inj.inj _ _ h⟩

/-- grammarlab/grammarlabref03.find -/
noncomputable def f111 (d0 : List TypeDecl) (name1 : List UInt8) : Option Int := dec E111 (Rn 111 [(.pv (.lst 3 (List.map TypeDecl.enc d0))), (.pv (.str name1))] [])
theorem s111 {d0 : List TypeDecl} {name1 : List UInt8} : Imp E111 (Rn 111 [(.pv (.lst 3 (List.map TypeDecl.enc d0))), (.pv (.str name1))] []) (f111 d0 name1) := dec_imp _ _

/-- grammarlab/grammarlabref03.find, loop 2 -/
noncomputable def t111_2 (d0 : List TypeDecl) (name1 : List UInt8) (i5 : Int) : Option Int := dec E111 (headT P cods H prim 111 2 [] [(0, (.pv (.lst 3 (List.map TypeDecl.enc d0)))), (1, (.pv (.str name1))), (5, (.pv (.int .i64 i5)))] [])
theorem q111_2 {d0 : List TypeDecl} {name1 : List UInt8} {i5 : Int} : Imp E111 (headT P cods H prim 111 2 [] [(0, (.pv (.lst 3 (List.map TypeDecl.enc d0)))), (1, (.pv (.str name1))), (5, (.pv (.int .i64 i5)))] []) (t111_2 d0 name1 i5) := dec_imp _ _

abbrev E112.T : Type := Bool
def E112 : E112.T → Out := (fun x : R112.T => ((R112.enc x, []) : Out))
instance : Inj E112 := ⟨fun a b h => by
  simp only [E112, Prod.mk.injEq, and_true] at h
  exact Inj.inj _ _ h⟩

/-- grammarlab/grammarlabref03.ready -/
noncomputable def f112 (x0 : TypeDecl) (done1 : List (List UInt8)) : Option Bool := dec E112 (Rn 112 [(.pv (.agg (TypeDecl.enc x0))), (.pv (.lst 1 (List.map eStr done1)))] [])
theorem s112 {x0 : TypeDecl} {done1 : List (List UInt8)} : Imp E112 (Rn 112 [(.pv (.agg (TypeDecl.enc x0))), (.pv (.lst 1 (List.map eStr done1)))] []) (f112 x0 done1) := dec_imp _ _

/-- grammarlab/grammarlabref03.ready, loop 2 -/
noncomputable def t112_2 (done1 : List (List UInt8)) (i5 : Int) (o2 : TypeDecl) : Option Bool := dec E112 (headT P cods H prim 112 2 [] [(1, (.pv (.lst 1 (List.map eStr done1)))), (2, (.ptr 2 0)), (5, (.pv (.int .i64 i5)))] [(2, (.box 57 (List.map .pv (TypeDecl.enc o2))))])
theorem q112_2 {done1 : List (List UInt8)} {i5 : Int} {o2 : TypeDecl} : Imp E112 (headT P cods H prim 112 2 [] [(1, (.pv (.lst 1 (List.map eStr done1)))), (2, (.ptr 2 0)), (5, (.pv (.int .i64 i5)))] [(2, (.box 57 (List.map .pv (TypeDecl.enc o2))))]) (t112_2 done1 i5 o2) := dec_imp _ _

abbrev E137.T : Type := List (List UInt8)
def E137 : E137.T → Out := (fun x : R137.T => ((R137.enc x, []) : Out))
instance : Inj E137 := ⟨fun a b h => by
  simp only [E137, Prod.mk.injEq, and_true] at h
  exact Inj.inj _ _ h⟩

/-- grammarlab/grammarlabref03.declared -/
noncomputable def f137 (d0 : List TypeDecl) (l1 : List (List UInt8)) : Option (List (List UInt8)) := dec E137 (Rn 137 [(.pv (.lst 3 (List.map TypeDecl.enc d0))), (.pv (.lst 1 (List.map eStr l1)))] [])
theorem s137 {d0 : List TypeDecl} {l1 : List (List UInt8)} : Imp E137 (Rn 137 [(.pv (.lst 3 (List.map TypeDecl.enc d0))), (.pv (.lst 1 (List.map eStr l1)))] []) (f137 d0 l1) := dec_imp _ _

/-- grammarlab/grammarlabref03.declared, loop 3 -/
noncomputable def t137_3 (d0 : List TypeDecl) (l1 : List (List UInt8)) (out5 : List (List UInt8)) (i6 : Int) : Option (List (List UInt8)) := dec E137 (headT P cods H prim 137 3 [] [(0, (.pv (.lst 3 (List.map TypeDecl.enc d0)))), (1, (.pv (.lst 1 (List.map eStr l1)))), (5, (.pv (.lst 1 (List.map eStr out5)))), (6, (.pv (.int .i64 i6)))] [])
theorem q137_3 {d0 : List TypeDecl} {l1 : List (List UInt8)} {out5 : List (List UInt8)} {i6 : Int} : Imp E137 (headT P cods H prim 137 3 [] [(0, (.pv (.lst 3 (List.map TypeDecl.enc d0)))), (1, (.pv (.lst 1 (List.map eStr l1)))), (5, (.pv (.lst 1 (List.map eStr out5)))), (6, (.pv (.int .i64 i6)))] []) (t137_3 d0 l1 out5 i6) := dec_imp _ _

abbrev E138.T : Type := List (List UInt8)
def E138 : E138.T → Out := (fun x : R138.T => ((R138.enc x, []) : Out))
instance : Inj E138 := ⟨fun a b h => by
  simp only [E138, Prod.mk.injEq, and_true] at h
  exact Inj.inj _ _ h⟩

/-- grammarlab/grammarlabref03.Above -/
noncomputable def f138 (d0 : List TypeDecl) (name1 : List UInt8) : Option (List (List UInt8)) := dec E138 (Rn 138 [(.pv (.lst 3 (List.map TypeDecl.enc d0))), (.pv (.str name1))] [])
theorem s138 {d0 : List TypeDecl} {name1 : List UInt8} : Imp E138 (Rn 138 [(.pv (.lst 3 (List.map TypeDecl.enc d0))), (.pv (.str name1))] []) (f138 d0 name1) := dec_imp _ _

/-- grammarlab/grammarlabref03.Above, loop 5 -/
noncomputable def t138_5 (d0 : List TypeDecl) (i6 : Int) (o16 : List (List UInt8)) : Option (List (List UInt8)) := dec E138 (headT P cods H prim 138 5 [] [(0, (.pv (.lst 3 (List.map TypeDecl.enc d0)))), (5, (.row 16)), (6, (.pv (.int .i64 i6)))] [(16, (.row 9 1 (List.map eStr o16)))])
theorem q138_5 {d0 : List TypeDecl} {i6 : Int} {o16 : List (List UInt8)} : Imp E138 (headT P cods H prim 138 5 [] [(0, (.pv (.lst 3 (List.map TypeDecl.enc d0)))), (5, (.row 16)), (6, (.pv (.int .i64 i6)))] [(16, (.row 9 1 (List.map eStr o16)))]) (t138_5 d0 i6 o16) := dec_imp _ _

/-- grammarlab/grammarlabref03.Above, loop 9 -/
noncomputable def t138_9 (d0 : List TypeDecl) (i6 : Int) (l7 : List (List UInt8)) (k8 : Int) (o16 : List (List UInt8)) : Option (List (List UInt8)) := dec E138 (headT P cods H prim 138 9 [] [(0, (.pv (.lst 3 (List.map TypeDecl.enc d0)))), (5, (.row 16)), (6, (.pv (.int .i64 i6))), (7, (.pv (.lst 1 (List.map eStr l7)))), (8, (.pv (.int .i64 k8)))] [(16, (.row 9 1 (List.map eStr o16)))])
theorem q138_9 {d0 : List TypeDecl} {i6 : Int} {l7 : List (List UInt8)} {k8 : Int} {o16 : List (List UInt8)} : Imp E138 (headT P cods H prim 138 9 [] [(0, (.pv (.lst 3 (List.map TypeDecl.enc d0)))), (5, (.row 16)), (6, (.pv (.int .i64 i6))), (7, (.pv (.lst 1 (List.map eStr l7)))), (8, (.pv (.int .i64 k8)))] [(16, (.row 9 1 (List.map eStr o16)))]) (t138_9 d0 i6 l7 k8 o16) := dec_imp _ _

/-- grammarlab/grammarlabref03.Above, loop 15 -/
noncomputable def t138_15 (out9 : List (List UInt8)) (i10 : Int) (o16 : List (List UInt8)) : Option (List (List UInt8)) := dec E138 (headT P cods H prim 138 15 [] [(5, (.row 16)), (9, (.pv (.lst 1 (List.map eStr out9)))), (10, (.pv (.int .i64 i10)))] [(16, (.row 9 1 (List.map eStr o16)))])
theorem q138_15 {out9 : List (List UInt8)} {i10 : Int} {o16 : List (List UInt8)} : Imp E138 (headT P cods H prim 138 15 [] [(5, (.row 16)), (9, (.pv (.lst 1 (List.map eStr out9)))), (10, (.pv (.int .i64 i10)))] [(16, (.row 9 1 (List.map eStr o16)))]) (t138_15 out9 i10 o16) := dec_imp _ _

abbrev E139.T : Type := List Int
def E139 : E139.T → Out := (fun x : R139.T => ((R139.enc x, []) : Out))
instance : Inj E139 := ⟨fun a b h => by
  simp only [E139, Prod.mk.injEq, and_true] at h
  exact Inj.inj _ _ h⟩

/-- grammarlab/grammarlabref02.List -/
noncomputable def f139 (b0 : List Int) : Option (List Int) := dec E139 (Rn 139 [(.pv (.lst 1 (List.map (eInt .u64) b0)))] [])
theorem s139 {b0 : List Int} : Imp E139 (Rn 139 [(.pv (.lst 1 (List.map (eInt .u64) b0)))] []) (f139 b0) := dec_imp _ _

/-- grammarlab/grammarlabref02.List, loop 3 -/
noncomputable def t139_3 (b0 : List Int) (i4 : Int) (o3 : List Int) : Option (List Int) := dec E139 (headT P cods H prim 139 3 [] [(0, (.pv (.lst 1 (List.map (eInt .u64) b0)))), (3, (.row 3)), (4, (.pv (.int .i64 i4)))] [(3, (.row 3 1 (List.map (eInt .i64) o3)))])
theorem q139_3 {b0 : List Int} {i4 : Int} {o3 : List Int} : Imp E139 (headT P cods H prim 139 3 [] [(0, (.pv (.lst 1 (List.map (eInt .u64) b0)))), (3, (.row 3)), (4, (.pv (.int .i64 i4)))] [(3, (.row 3 1 (List.map (eInt .i64) o3)))]) (t139_3 b0 i4 o3) := dec_imp _ _

abbrev E140.T : Type := Bool
def E140 : E140.T → Out := (fun x : R140.T => ((R140.enc x, []) : Out))
instance : Inj E140 := ⟨fun a b h => by
  simp only [E140, Prod.mk.injEq, and_true] at h
  exact Inj.inj _ _ h⟩

/-- grammarlab/grammarlabref01.named -/
noncomputable def f140 (s0 : List UInt8) (big1 : Bool) : Option Bool := dec E140 (Rn 140 [(.pv (.str s0)), (.pv (.bool big1))] [])
theorem s140 {s0 : List UInt8} {big1 : Bool} : Imp E140 (Rn 140 [(.pv (.str s0)), (.pv (.bool big1))] []) (f140 s0 big1) := dec_imp _ _

/-- grammarlab/grammarlabref01.named, loop 4 -/
noncomputable def t140_4 (s0 : List UInt8) (big1 : Bool) (i5 : Int) : Option Bool := dec E140 (headT P cods H prim 140 4 [] [(0, (.pv (.str s0))), (1, (.pv (.bool big1))), (5, (.pv (.int .i64 i5)))] [])
theorem q140_4 {s0 : List UInt8} {big1 : Bool} {i5 : Int} : Imp E140 (headT P cods H prim 140 4 [] [(0, (.pv (.str s0))), (1, (.pv (.bool big1))), (5, (.pv (.int .i64 i5)))] []) (t140_4 s0 big1 i5) := dec_imp _ _

abbrev E159.T : Type := Bool
def E159 : E159.T → Out := (fun x : R159.T => ((R159.enc x, []) : Out))
instance : Inj E159 := ⟨fun a b h => by
  simp only [E159, Prod.mk.injEq, and_true] at h
  exact Inj.inj _ _ h⟩

/-- grammarlab/grammarlabref01.digit -/
noncomputable def f159 (c0 : Int) : Option Bool := dec E159 (Rn 159 [(.pv (.int .u8 c0))] [])
theorem s159 {c0 : Int} : Imp E159 (Rn 159 [(.pv (.int .u8 c0))] []) (f159 c0) := dec_imp _ _

abbrev E160.T : Type := Bool
def E160 : E160.T → Out := (fun x : R160.T => ((R160.enc x, []) : Out))
instance : Inj E160 := ⟨fun a b h => by
  simp only [E160, Prod.mk.injEq, and_true] at h
  exact Inj.inj _ _ h⟩

/-- grammarlab/grammarlabref01.part -/
noncomputable def f160 (c0 : Int) (big1 : Bool) : Option Bool := dec E160 (Rn 160 [(.pv (.int .u8 c0)), (.pv (.bool big1))] [])
theorem s160 {c0 : Int} {big1 : Bool} : Imp E160 (Rn 160 [(.pv (.int .u8 c0)), (.pv (.bool big1))] []) (f160 c0 big1) := dec_imp _ _

abbrev E166.T : Type := Bool
def E166 : E166.T → Out := (fun x : R166.T => ((R166.enc x, []) : Out))
instance : Inj E166 := ⟨fun a b h => by
  simp only [E166, Prod.mk.injEq, and_true] at h
  exact Inj.inj _ _ h⟩

/-- grammarlab/grammarlabref01.upper -/
noncomputable def f166 (c0 : Int) : Option Bool := dec E166 (Rn 166 [(.pv (.int .u8 c0))] [])
theorem s166 {c0 : Int} : Imp E166 (Rn 166 [(.pv (.int .u8 c0))] []) (f166 c0) := dec_imp _ _

abbrev E167.T : Type := Bool
def E167 : E167.T → Out := (fun x : R167.T => ((R167.enc x, []) : Out))
instance : Inj E167 := ⟨fun a b h => by
  simp only [E167, Prod.mk.injEq, and_true] at h
  exact Inj.inj _ _ h⟩

/-- grammarlab/grammarlabref01.lower -/
noncomputable def f167 (c0 : Int) : Option Bool := dec E167 (Rn 167 [(.pv (.int .u8 c0))] [])
theorem s167 {c0 : Int} : Imp E167 (Rn 167 [(.pv (.int .u8 c0))] []) (f167 c0) := dec_imp _ _

end Go.Proofs.YtneahmpmicoplaaGreatDoor.cl
