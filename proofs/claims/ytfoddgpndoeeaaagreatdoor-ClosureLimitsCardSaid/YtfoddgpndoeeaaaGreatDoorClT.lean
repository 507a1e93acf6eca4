/-
  The types and codecs of the program, by program (decomp4.py).
-/
import Derived.Test.YtfoddgpndoeeaaaGreatDoorProg
import Derived.Test.YtfoddgpndoeeaaaGreatDoorAmL
import Derived.Test.YtfoddgpndoeeaaaGreatDoorAmP
import Derived.KernelRfl
set_option linter.unusedVariables false
set_option linter.unusedSimpArgs false
set_option maxRecDepth 100000
namespace Go.Proofs.YtfoddgpndoeeaaaGreatDoor.cl
open Go Go.AM

noncomputable abbrev P : Program := Tryz.prog
abbrev V3 : CodR := ⟨Int, AV.int .i64⟩
instance : Inj V3.enc := ⟨fun a b h => by
  injection h⟩
instance : KeyC V3 := ⟨fun a b => ⟨(inferInstance : DecidableEq (Int)) a b, by
  simp only [keyIs, if_true]
  first | rfl | (congr 1; first | rfl | (rw [Bool.eq_iff_iff]; simp))⟩⟩
abbrev V4 : CodR := ⟨Bool, AV.bool⟩
instance : Inj V4.enc := ⟨fun a b h => by
  injection h⟩
instance : KeyC V4 := ⟨fun a b => ⟨(inferInstance : DecidableEq (Bool)) a b, by
  simp only [keyIs, if_true]
  first | rfl | (congr 1; first | rfl | (rw [Bool.eq_iff_iff]; simp))⟩⟩
abbrev V9 : CodR := ⟨List UInt8, AV.str⟩
instance : Inj V9.enc := ⟨fun a b h => by
  injection h⟩
instance : KeyC V9 := ⟨fun a b => ⟨(inferInstance : DecidableEq (List UInt8)) a b, by
  simp only [keyIs, if_true]
  first | rfl | (congr 1; first | rfl | (rw [Bool.eq_iff_iff]; simp))⟩⟩
structure FeatDecl where
  Feat : List UInt8
  Value : List UInt8
  deriving Inhabited
def FeatDecl.enc (x : FeatDecl) : List AV := [.str x.Feat, .str x.Value]
theorem FeatDecl.inj : ∀ (a b : FeatDecl), FeatDecl.enc a = FeatDecl.enc b → a = b := by
  intro a b h
  obtain ⟨aFeat, aValue⟩ := a
  obtain ⟨bFeat, bValue⟩ := b
  simp only [FeatDecl.enc, List.cons.injEq, AV.int.injEq, AV.str.injEq, AV.bool.injEq, AV.lst.injEq, AV.mp.injEq, true_and, and_true] at h
  obtain ⟨h0, h1⟩ := h
  change aFeat = bFeat at h0
  change aValue = bValue at h1
  subst h0 h1
  rfl
instance : Inj FeatDecl.enc := ⟨FeatDecl.inj⟩
structure TypeDecl where
  Name : List UInt8
  Supers : List (List UInt8)
  Feats : List FeatDecl
  deriving Inhabited
def TypeDecl.enc (x : TypeDecl) : List AV := [.str x.Name, .lst 1 (List.map eStr x.Supers), .lst 2 (List.map FeatDecl.enc x.Feats)]
theorem TypeDecl.inj : ∀ (a b : TypeDecl), TypeDecl.enc a = TypeDecl.enc b → a = b := by
  intro a b h
  obtain ⟨aName, aSupers, aFeats⟩ := a
  obtain ⟨bName, bSupers, bFeats⟩ := b
  simp only [TypeDecl.enc, List.cons.injEq, AV.int.injEq, AV.str.injEq, AV.bool.injEq, AV.lst.injEq, AV.mp.injEq, true_and, and_true] at h
  obtain ⟨h0, h1, h2⟩ := h
  replace h1 := map_inj Inj.inj _ _ h1
  replace h2 := map_inj Inj.inj _ _ h2
  change aName = bName at h0
  change aSupers = bSupers at h1
  change aFeats = bFeats at h2
  subst h0 h1 h2
  rfl
instance : Inj TypeDecl.enc := ⟨TypeDecl.inj⟩
structure Coded where
  Name : List UInt8
  Code : List Int
  deriving Inhabited
def Coded.enc (x : Coded) : List AV := [.str x.Name, .lst 1 (List.map (eInt .u64) x.Code)]
theorem Coded.inj : ∀ (a b : Coded), Coded.enc a = Coded.enc b → a = b := by
  intro a b h
  obtain ⟨aName, aCode⟩ := a
  obtain ⟨bName, bCode⟩ := b
  simp only [Coded.enc, List.cons.injEq, AV.int.injEq, AV.str.injEq, AV.bool.injEq, AV.lst.injEq, AV.mp.injEq, true_and, and_true] at h
  obtain ⟨h0, h1⟩ := h
  replace h1 := map_inj Inj.inj _ _ h1
  change aName = bName at h0
  change aCode = bCode at h1
  subst h0 h1
  rfl
instance : Inj Coded.enc := ⟨Coded.inj⟩
abbrev C9 : Cod := ⟨List UInt8, eStr⟩
abbrev C37 : Cod := ⟨FeatDecl, FeatDecl.enc⟩
abbrev C25 : Cod := ⟨TypeDecl, TypeDecl.enc⟩
abbrev C5 : Cod := ⟨Int, (eInt .u8)⟩
abbrev C51 : Cod := ⟨Coded, Coded.enc⟩
abbrev C49 : Cod := ⟨List (Int), (eLst 1 (eInt .u64))⟩
abbrev C65 : Cod := ⟨Int, (eInt .u64)⟩
abbrev C3 : Cod := ⟨Int, (eInt .i64)⟩
abbrev V22 : CodR := ⟨List (List UInt8), (fun x => AV.lst 1 (x.map eStr))⟩
instance : Inj V22.enc := ⟨fun a b h => by
  injection h with _ h
  exact map_inj Inj.inj _ _ h⟩
def Q0 : TypeDecl → AV := (fun (x : TypeDecl) => ((.agg (TypeDecl.enc x)) : AV))
instance : Inj Q0 := ⟨fun a b h => by
  simp only [Q0, AV.mp.injEq, AV.int.injEq, AV.str.injEq, AV.bool.injEq, AV.lst.injEq, AV.agg.injEq, AV.tup.injEq, List.cons.injEq, true_and, and_true] at h
  exact Inj.inj _ _ h⟩
def Q1 : Bool → AV := (fun (x : Bool) => ((.bool x) : AV))
instance : Inj Q1 := ⟨fun a b h => by
  simp only [Q1, AV.mp.injEq, AV.int.injEq, AV.str.injEq, AV.bool.injEq, AV.lst.injEq, AV.agg.injEq, AV.tup.injEq, List.cons.injEq, true_and, and_true] at h
  exact h⟩
def Q2 : ((List UInt8) × (List FeatDecl)) → AV := (fun (x : (List UInt8) × (List FeatDecl)) => ((.agg [(.str x.1), .nils, (.lst 2 (List.map FeatDecl.enc x.2))]) : AV))
instance : Inj Q2 := ⟨fun a b h => by
  obtain ⟨a0, a1⟩ := a
  obtain ⟨b0, b1⟩ := b
  simp only [Q2, AV.mp.injEq, AV.int.injEq, AV.str.injEq, AV.bool.injEq, AV.lst.injEq, AV.agg.injEq, AV.tup.injEq, List.cons.injEq, true_and, and_true] at h
  obtain ⟨h0, h1⟩ := h
  replace h0 : a0 = b0 := h0
  replace h1 : a1 = b1 := map_inj Inj.inj _ _ h1
  subst h0 h1
  rfl⟩
def Q3 : ((List Coded) × Int) → AV := (fun (x : (List Coded) × Int) => ((.tup [(.lst 2 (List.map Coded.enc x.1)), (.int .i64 x.2)]) : AV))
instance : Inj Q3 := ⟨fun a b h => by
  obtain ⟨a0, a1⟩ := a
  obtain ⟨b0, b1⟩ := b
  simp only [Q3, AV.mp.injEq, AV.int.injEq, AV.str.injEq, AV.bool.injEq, AV.lst.injEq, AV.agg.injEq, AV.tup.injEq, List.cons.injEq, true_and, and_true] at h
  obtain ⟨h0, h1⟩ := h
  replace h0 : a0 = b0 := map_inj Inj.inj _ _ h0
  replace h1 : a1 = b1 := h1
  subst h0 h1
  rfl⟩
def Q4 : Int → AV := (fun (x : Int) => ((.int .i64 x) : AV))
instance : Inj Q4 := ⟨fun a b h => by
  simp only [Q4, AV.mp.injEq, AV.int.injEq, AV.str.injEq, AV.bool.injEq, AV.lst.injEq, AV.agg.injEq, AV.tup.injEq, List.cons.injEq, true_and, and_true] at h
  exact h⟩
def Q5 : ((List (List UInt8)) × (List (List Int))) → AV := (fun (x : (List (List UInt8)) × (List (List Int))) => ((.tup [(.lst 1 (List.map eStr x.1)), (.lst 1 (List.map (eLst 1 (eInt .u64)) x.2))]) : AV))
instance : Inj Q5 := ⟨fun a b h => by
  obtain ⟨a0, a1⟩ := a
  obtain ⟨b0, b1⟩ := b
  simp only [Q5, AV.mp.injEq, AV.int.injEq, AV.str.injEq, AV.bool.injEq, AV.lst.injEq, AV.agg.injEq, AV.tup.injEq, List.cons.injEq, true_and, and_true] at h
  obtain ⟨h0, h1⟩ := h
  replace h0 : a0 = b0 := map_inj Inj.inj _ _ h0
  replace h1 : a1 = b1 := map_inj Inj.inj _ _ h1
  subst h0 h1
  rfl⟩
def Q6 : ((List (List Int)) × Bool) → AV := (fun (x : (List (List Int)) × Bool) => ((.tup [(.lst 1 (List.map (eLst 1 (eInt .u64)) x.1)), (.bool x.2)]) : AV))
instance : Inj Q6 := ⟨fun a b h => by
  obtain ⟨a0, a1⟩ := a
  obtain ⟨b0, b1⟩ := b
  simp only [Q6, AV.mp.injEq, AV.int.injEq, AV.str.injEq, AV.bool.injEq, AV.lst.injEq, AV.agg.injEq, AV.tup.injEq, List.cons.injEq, true_and, and_true] at h
  obtain ⟨h0, h1⟩ := h
  replace h0 : a0 = b0 := map_inj Inj.inj _ _ h0
  replace h1 : a1 = b1 := h1
  subst h0 h1
  rfl⟩
def Q7 : (List Int) → AV := (fun (x : List Int) => ((.lst 1 (List.map (eInt .i64) x)) : AV))
instance : Inj Q7 := ⟨fun a b h => by
  simp only [Q7, AV.mp.injEq, AV.int.injEq, AV.str.injEq, AV.bool.injEq, AV.lst.injEq, AV.agg.injEq, AV.tup.injEq, List.cons.injEq, true_and, and_true] at h
  exact map_inj Inj.inj _ _ h⟩
def Q8 : Unit → AV := (fun (_ : Unit) => AV.tup [])
instance : Inj Q8 := ⟨fun a b h => rfl⟩
def Q9 : (List Int) → AV := (fun (x : List Int) => ((.lst 1 (List.map (eInt .u64) x)) : AV))
instance : Inj Q9 := ⟨fun a b h => by
  simp only [Q9, AV.mp.injEq, AV.int.injEq, AV.str.injEq, AV.bool.injEq, AV.lst.injEq, AV.agg.injEq, AV.tup.injEq, List.cons.injEq, true_and, and_true] at h
  exact map_inj Inj.inj _ _ h⟩
def Q10 : (List ((List UInt8) × (List (List UInt8)))) → AV := (fun (x : List ((List UInt8) × (List (List UInt8)))) => ((.mp (encMap V9 V22 x).1 (encMap V9 V22 x).2) : AV))
instance : Inj Q10 := ⟨fun a b h => by
  simp only [Q10, AV.mp.injEq, AV.int.injEq, AV.str.injEq, AV.bool.injEq, AV.lst.injEq, AV.agg.injEq, AV.tup.injEq, List.cons.injEq, true_and, and_true] at h
  exact encMap_inj (K := V9) (V := V22) h.1 h.2⟩
def Q11 : (List (List UInt8)) → AV := (fun (x : List (List UInt8)) => ((.lst 1 (List.map eStr x)) : AV))
instance : Inj Q11 := ⟨fun a b h => by
  simp only [Q11, AV.mp.injEq, AV.int.injEq, AV.str.injEq, AV.bool.injEq, AV.lst.injEq, AV.agg.injEq, AV.tup.injEq, List.cons.injEq, true_and, and_true] at h
  exact map_inj Inj.inj _ _ h⟩
def Q12 : (List UInt8) → AV := (fun (x : List UInt8) => ((.str x) : AV))
instance : Inj Q12 := ⟨fun a b h => by
  simp only [Q12, AV.mp.injEq, AV.int.injEq, AV.str.injEq, AV.bool.injEq, AV.lst.injEq, AV.agg.injEq, AV.tup.injEq, List.cons.injEq, true_and, and_true] at h
  exact h⟩
def Q13 : Int → AV := (fun (x : Int) => ((.int .u64 x) : AV))
instance : Inj Q13 := ⟨fun a b h => by
  simp only [Q13, AV.mp.injEq, AV.int.injEq, AV.str.injEq, AV.bool.injEq, AV.lst.injEq, AV.agg.injEq, AV.tup.injEq, List.cons.injEq, true_and, and_true] at h
  exact h⟩
def Q14 : (Int × Bool) → AV := (fun (x : Int × Bool) => ((.tup [(.int .i64 x.1), (.bool x.2)]) : AV))
instance : Inj Q14 := ⟨fun a b h => by
  obtain ⟨a0, a1⟩ := a
  obtain ⟨b0, b1⟩ := b
  simp only [Q14, AV.mp.injEq, AV.int.injEq, AV.str.injEq, AV.bool.injEq, AV.lst.injEq, AV.agg.injEq, AV.tup.injEq, List.cons.injEq, true_and, and_true] at h
  obtain ⟨h0, h1⟩ := h
  replace h0 : a0 = b0 := h0
  replace h1 : a1 = b1 := h1
  subst h0 h1
  rfl⟩
def Q15 : ((List Int) × Int) → AV := (fun (x : (List Int) × Int) => ((.tup [(.lst 1 (List.map (eInt .u64) x.1)), (.int .i64 x.2)]) : AV))
instance : Inj Q15 := ⟨fun a b h => by
  obtain ⟨a0, a1⟩ := a
  obtain ⟨b0, b1⟩ := b
  simp only [Q15, AV.mp.injEq, AV.int.injEq, AV.str.injEq, AV.bool.injEq, AV.lst.injEq, AV.agg.injEq, AV.tup.injEq, List.cons.injEq, true_and, and_true] at h
  obtain ⟨h0, h1⟩ := h
  replace h0 : a0 = b0 := map_inj Inj.inj _ _ h0
  replace h1 : a1 = b1 := h1
  subst h0 h1
  rfl⟩
def Q16 : Nat → AV := (fun (x : Nat) => (AV.self x : AV))
instance : Inj Q16 := ⟨fun a b h => by
  simp only [Q16, AV.self.injEq] at h
  exact h⟩
abbrev R392.T : Type := Bool
abbrev R393.T : Type := TypeDecl
abbrev R14.T : Type := (List Coded) × Int
abbrev R13.T : Type := Bool
abbrev R39.T : Type := Int
abbrev R40.T : Type := (List (List UInt8)) × (List (List Int))
abbrev R41.T : Type := (List (List Int)) × Bool
abbrev R42.T : Type := Int
abbrev R43.T : Type := Bool
abbrev R31.T : Type := Bool
abbrev R44.T : Type := List Int
abbrev R45.T : Type := List UInt8
abbrev R46.T : Type := List (List UInt8)
abbrev R47.T : Type := Unit
abbrev R16.T : Type := Bool
abbrev R20.T : Type := Int
abbrev R22.T : Type := Int
abbrev R24.T : Type := Bool
abbrev R26.T : Type := Bool
abbrev R27.T : Type := List Int
abbrev R18.T : Type := Int
abbrev R76.T : Type := Bool
abbrev R77.T : Type := Int
abbrev R78.T : Type := Int
abbrev R79.T : Type := List (List UInt8)
abbrev R80.T : Type := Unit
abbrev R81.T : Type := List (List UInt8)
abbrev R82.T : Type := Int × Bool
abbrev R83.T : Type := (List Int) × Int
abbrev R84.T : Type := Unit
abbrev R85.T : Type := List UInt8
abbrev R29.T : Type := List Int
abbrev R63.T : Type := Bool
abbrev R86.T : Type := Int
abbrev R90.T : Type := List (List UInt8)
abbrev R75.T : Type := List ((List UInt8) × (List (List UInt8)))
abbrev R74.T : Type := List (List UInt8)
abbrev R91.T : Type := Bool
abbrev R92.T : Type := Bool
abbrev R93.T : Type := Bool
abbrev R97.T : Type := Bool
abbrev R57.T : Type := Bool
abbrev R62.T : Type := List Int
abbrev R66.T : Type := Bool
abbrev R67.T : Type := Bool
abbrev R58.T : Type := Int
abbrev R59.T : Type := Bool
abbrev R113.T : Type := Bool
abbrev R114.T : Type := Bool
abbrev R115.T : Type := Bool
abbrev R116.T : Type := List UInt8
abbrev R117.T : Type := Nat
abbrev R118.T : Type := Bool
abbrev R120.T : Type := Bool
abbrev R121.T : Type := Bool
abbrev R68.T : Type := List Int
abbrev R107.T : Type := Int
abbrev R124.T : Type := Nat
abbrev R125.T : Type := Int
abbrev R126.T : Type := Int
abbrev R109.T : Type := Int
abbrev R141.T : Type := Int
abbrev R142.T : Type := Bool
abbrev R143.T : Type := Bool
abbrev R161.T : Type := Bool
def elems : List (Nat × Cod) := [(9, C9), (37, C37), (25, C25), (5, C5), (51, C51), (49, C49), (65, C65), (3, C3)]
def vals : List (Nat × CodR) := [(3, V3), (4, V4), (9, V9), (22, V22)]
def ress : List (Nat × CodR) := [(3, ⟨_, Q1⟩), (5, ⟨_, Q0⟩), (6, ⟨_, Q3⟩), (7, ⟨_, Q1⟩), (12, ⟨_, Q4⟩), (13, ⟨_, Q5⟩), (14, ⟨_, Q6⟩), (15, ⟨_, Q4⟩), (16, ⟨_, Q1⟩), (17, ⟨_, Q1⟩), (18, ⟨_, Q7⟩), (19, ⟨_, Q12⟩), (20, ⟨_, Q11⟩), (21, ⟨_, Q8⟩), (27, ⟨_, Q1⟩), (28, ⟨_, Q4⟩), (29, ⟨_, Q4⟩), (30, ⟨_, Q1⟩), (31, ⟨_, Q1⟩), (32, ⟨_, Q7⟩), (33, ⟨_, Q4⟩), (39, ⟨_, Q1⟩), (40, ⟨_, Q4⟩), (41, ⟨_, Q4⟩), (42, ⟨_, Q11⟩), (43, ⟨_, Q8⟩), (44, ⟨_, Q11⟩), (45, ⟨_, Q14⟩), (46, ⟨_, Q15⟩), (47, ⟨_, Q8⟩), (48, ⟨_, Q12⟩), (49, ⟨_, Q9⟩), (50, ⟨_, Q1⟩), (51, ⟨_, Q4⟩), (55, ⟨_, Q11⟩), (56, ⟨_, Q10⟩), (57, ⟨_, Q11⟩), (58, ⟨_, Q1⟩), (59, ⟨_, Q1⟩), (60, ⟨_, Q1⟩), (65, ⟨_, Q1⟩), (66, ⟨_, Q1⟩), (67, ⟨_, Q9⟩), (68, ⟨_, Q1⟩), (69, ⟨_, Q1⟩), (70, ⟨_, Q4⟩), (71, ⟨_, Q1⟩), (80, ⟨_, Q1⟩), (81, ⟨_, Q1⟩), (82, ⟨_, Q1⟩), (83, ⟨_, Q12⟩), (84, ⟨_, Q16⟩), (85, ⟨_, Q1⟩), (87, ⟨_, Q1⟩), (88, ⟨_, Q1⟩), (89, ⟨_, Q9⟩), (90, ⟨_, Q13⟩), (93, ⟨_, Q16⟩), (94, ⟨_, Q4⟩), (95, ⟨_, Q4⟩), (106, ⟨_, Q4⟩), (115, ⟨_, Q4⟩), (116, ⟨_, Q1⟩), (117, ⟨_, Q1⟩), (138, ⟨_, Q1⟩), (1000005, ⟨_, Q2⟩)]
def cods : Cods := { elem := findC elems, val := findC vals, res := findC ress }
def hints : List (Nat × Hint) := [
  (3, { loops := [(4, [3, 4, 5], [16]), (8, [3, 4, 6], [16]), (12, [3, 4, 6, 7, 8], [7, 16, 5112, 5113, 5114, 5115, 5116, 5117, 5704])], rows := [7, 16], pubs := [9], byref := [], pubAt := [(16, [5112, 5113, 5114, 5115, 5116, 5117, 5704])], owns := [44], nils := [(44, [(5704, 9, 1)])] }),
  (4, { loops := [(3, [0, 3, 4], [12])], rows := [12, 56], pubs := [6], byref := [] }),
  (6, { loops := [(10, [0, 5, 6, 9, 34, 35, 36], [9]), (18, [0, 5, 6, 9, 12, 14, 34, 35, 36, 53, 54, 55], [9, 12, 14])], rows := [9, 14], pubs := [5, 6, 7], byref := [77] }),
  (7, { loops := [], rows := [], pubs := [1, 2, 4], byref := [] }),
  (8, { loops := [(3, [2, 6, 7, 8], [6, 7, 5112, 5113, 5114, 5115, 5116, 5117, 5192, 5193, 5194, 5195, 5196, 5197])], rows := [7, 12], pubs := [], byref := [], pubAt := [(6, [5112, 5113, 5114, 5115, 5116, 5117, 5192, 5193, 5194, 5195, 5196, 5197])] }),
  (9, { loops := [(6, [4, 6, 20, 21, 22], [6])], rows := [6], pubs := [], byref := [] }),
  (11, { loops := [], rows := [61, 69], pubs := [1, 2, 4, 6, 7], byref := [] }),
  (12, { loops := [(11, [0, 5, 20, 21, 22], [])], rows := [], pubs := [], byref := [] }),
  (13, { loops := [(3, [0, 4, 15, 16, 17], [4]), (10, [0, 4, 7, 32, 33, 34], [4, 31]), (14, [0, 4, 7, 8, 10, 32, 33, 34, 41, 42, 43], [4, 10, 31])], rows := [4, 10, 31], pubs := [], byref := [27] }),
  (14, { loops := [(5, [5, 6, 13, 14, 15], [4, 5, 11, 5080, 5081, 5082, 5083, 5084, 5085]), (10, [5, 6, 9], [4, 5, 11, 5080, 5081, 5082, 5083, 5084, 5085]), (13, [5, 6, 9, 10], [4, 5, 11, 5080, 5081, 5082, 5083, 5084, 5085])], rows := [5], pubs := [8], byref := [12] }),
  (15, { loops := [(2, [1, 7, 8, 9], [10000, 10001, 10002, 10003, 10004, 10005, 10006, 10007, 10008, 20000, 20001, 20002, 20003, 20004, 20005, 20006, 20007, 20008, 20009, 20010, 20011])], rows := [], pubs := [6], byref := [] }),
  (18, { loops := [(3, [3, 6, 7, 8], [3]), (5, [3, 4, 5, 6, 7, 8], [3])], rows := [3], pubs := [], byref := [] }),
  (19, { loops := [(12, [0, 1, 5, 39, 40, 41], []), (22, [1, 8, 63, 64, 65], [8, 5128, 5129, 5130, 5131, 5132, 5133])], rows := [8], pubs := [], byref := [] }),
  (20, { loops := [(5, [5, 6, 7, 17, 18, 19], [7])], rows := [7], pubs := [5], byref := [] }),
  (21, { loops := [], rows := [], pubs := [], byref := [7], stay := [6, 11, 13] }),
  (23, { loops := [(3, [3, 6, 7, 8], [])], rows := [], pubs := [], byref := [] }),
  (25, { loops := [(3, [3, 6, 7, 8], [])], rows := [], pubs := [], byref := [] }),
  (27, { loops := [(4, [0, 1, 5], [])], rows := [], pubs := [], byref := [] }),
  (29, { loops := [(4, [0, 7, 8, 26, 27, 28], [])], rows := [], pubs := [7, 8], byref := [] }),
  (31, { loops := [(4, [0, 1, 5], [])], rows := [], pubs := [], byref := [] }),
  (32, { loops := [(3, [1, 2, 5, 6, 12, 13], [2, 5, 6]), (9, [2, 5, 6, 30, 31, 32], [2, 5, 6])], rows := [5, 6], pubs := [], byref := [], pubAt := [(8, [2])] }),
  (34, { loops := [(6, [4, 6, 24, 25, 26], [21, 23, 5352, 5353, 5354, 5355, 5356, 5357])], rows := [22], pubs := [4], byref := [], pubAt := [(8, [8])], stay := [38] }),
  (36, { loops := [(4, [0, 1, 5], [])], rows := [], pubs := [], byref := [] }),
  (37, { loops := [(4, [0, 1, 5], [])], rows := [], pubs := [], byref := [] }),
  (38, { loops := [(3, [0, 3, 9, 10], [3, 7]), (8, [0, 3, 5], [3, 7]), (11, [0, 3, 5, 18, 19], [3, 7])], rows := [], pubs := [], byref := [30], stay := [31] }),
  (40, { loops := [(3, [3, 9, 10, 11], [8])], rows := [], pubs := [], byref := [] }),
  (41, { loops := [(3, [3, 12, 13, 14], []), (6, [3, 5, 12, 13, 14, 19, 20, 21], [5])], rows := [], pubs := [8], byref := [] }),
  (42, { loops := [(5, [3, 4, 5, 18, 19, 20], [5, 16, 17]), (11, [3, 4, 5, 7, 18, 19, 20, 40, 41, 42], [5, 7, 16, 17]), (17, [3, 4, 5, 10], [5, 10, 16, 17]), (22, [3, 4, 5, 10, 71, 72, 73], [5, 10, 16, 17])], rows := [5, 10, 17, 46, 48], pubs := [], byref := [62], pubAt := [(16, [17])] }),
  (43, { loops := [], rows := [], pubs := [], byref := [5], stay := [4, 9, 10] }),
  (44, { loops := [(3, [1, 5, 15, 16, 17], [14]), (9, [1, 5, 7, 15, 16, 17, 34, 35, 36], [7, 14])], rows := [14, 30, 40, 42], pubs := [8], byref := [], pubAt := [(14, [14])] }),
  (45, { loops := [(3, [0, 1, 6, 7, 8], [])], rows := [], pubs := [], byref := [], stay := [11, 27, 47, 50] }),
  (46, { loops := [(3, [0, 4, 10, 11, 12], []), (11, [7, 30, 31, 32], [29])], rows := [29], pubs := [], byref := [] }),
  (48, { loops := [(3, [3, 11, 12, 13], [10]), (6, [3, 5, 6, 11, 12, 13], [10])], rows := [10], pubs := [], byref := [] }),
  (49, { loops := [(3, [0, 1, 5, 14, 15], [12])], rows := [12], pubs := [], byref := [] }),
  (50, { loops := [(2, [1, 7, 8, 9], [])], rows := [], pubs := [], byref := [] }),
  (55, { loops := [(4, [5, 6, 13, 14, 15], [6])], rows := [6], pubs := [9], byref := [31, 33] }),
  (56, { loops := [(3, [3, 9, 10, 11], [8])], rows := [], pubs := [], byref := [] }),
  (57, { loops := [(7, [0, 7, 8, 9], [20, 24]), (10, [0, 7, 8, 9, 36, 37, 38], [20, 24])], rows := [24], pubs := [5], byref := [53] }),
  (59, { loops := [], rows := [], pubs := [], byref := [], stay := [7] }),
  (60, { loops := [], rows := [], pubs := [], byref := [], stay := [7] }),
  (61, { loops := [(2, [0, 1, 2, 3, 4, 10, 11], [10000, 10001, 10002, 10003, 10004, 10005, 10006, 10007, 10008, 20000, 20001, 20002, 20003, 20004, 20005, 20006, 20007, 20008, 20009, 20010, 20011])], rows := [], pubs := [], byref := [26, 33, 40, 57, 76, 98, 106, 129, 140], stay := [30, 37, 44, 52, 61, 80, 94, 103, 111, 134, 146] }),
  (66, { loops := [(4, [0, 1, 5], [])], rows := [], pubs := [], byref := [] }),
  (67, { loops := [(3, [0, 1, 5, 14, 15], [12])], rows := [12], pubs := [], byref := [] }),
  (69, { loops := [], rows := [], pubs := [], byref := [], stay := [7] }),
  (70, { loops := [(2, [1, 7, 8, 9], [10000, 10001, 10002, 10003, 10004, 10005, 10006, 10007, 10008, 20000, 20001, 20002, 20003, 20004, 20005, 20006, 20007, 20008, 20009, 20010, 20011])], rows := [], pubs := [], byref := [] }),
  (72, { loops := [(2, [0, 1, 7, 8], [10000, 10001, 10002, 10003, 10004, 10005, 10006, 10007, 10008, 20000, 20001, 20002, 20003, 20004, 20005, 20006, 20007, 20008, 20009, 20010, 20011])], rows := [], pubs := [], byref := [], stay := [7, 16] }),
  (74, { loops := [(3, [0, 3, 19, 20, 21], [15, 10000, 10001, 10002, 10003, 10004, 10005, 10006, 10007, 10008, 20000, 20001, 20002, 20003, 20004, 20005, 20006, 20007, 20008, 20009, 20010, 20011]), (6, [0, 3, 19, 20, 21, 26, 27, 28], [5, 15, 10000, 10001, 10002, 10003, 10004, 10005, 10006, 10007, 10008, 20000, 20001, 20002, 20003, 20004, 20005, 20006, 20007, 20008, 20009, 20010, 20011]), (14, [0, 3, 43, 44, 45], [15, 10000, 10001, 10002, 10003, 10004, 10005, 10006, 10007, 10008, 20000, 20001, 20002, 20003, 20004, 20005, 20006, 20007, 20008, 20009, 20010, 20011]), (17, [0, 3, 9, 43, 44, 45, 50, 51, 52], [9, 15, 10000, 10001, 10002, 10003, 10004, 10005, 10006, 10007, 10008, 20000, 20001, 20002, 20003, 20004, 20005, 20006, 20007, 20008, 20009, 20010, 20011]), (29, [0, 82], [82, 10000, 10001, 10002, 10003, 10004, 10005, 10006, 10007, 10008, 20000, 20001, 20002, 20003, 20004, 20005, 20006, 20007, 20008, 20009, 20010, 20011])], rows := [], pubs := [], byref := [65, 100], stay := [66, 101] }),
  (75, { loops := [(2, [1, 10, 11, 12], [1, 10000, 10001, 10002, 10003, 10004, 10005, 10006, 10007, 10008, 20000, 20001, 20002, 20003, 20004, 20005, 20006, 20007, 20008, 20009, 20010, 20011])], rows := [], pubs := [], byref := [20], stay := [18, 21] }),
  (76, { loops := [(2, [0, 15, 16], [10000, 10001, 10002, 10003, 10004, 10005, 10006, 10007, 10008, 20000, 20001, 20002, 20003, 20004, 20005, 20006, 20007, 20008, 20009, 20010, 20011]), (7, [0, 4, 5, 15, 16, 25, 26, 27], [4, 10000, 10001, 10002, 10003, 10004, 10005, 10006, 10007, 10008, 20000, 20001, 20002, 20003, 20004, 20005, 20006, 20007, 20008, 20009, 20010, 20011])], rows := [4], pubs := [8], byref := [], pubAt := [(16, [4])], stay := [21] }),
  (77, { loops := [(4, [0, 1, 5], [])], rows := [], pubs := [], byref := [] }),
  (78, { loops := [], rows := [], pubs := [], byref := [], stay := [7] }),
  (80, { loops := [], rows := [], pubs := [], byref := [], stay := [7] }),
  (83, { loops := [(5, [0, 3, 4], [])], rows := [], pubs := [], byref := [], stay := [6, 14, 23] }),
  (84, { loops := [(5, [0, 1, 5, 6], [10000, 10001, 10002, 10003, 10004, 10005, 10006, 10007, 10008, 20000, 20001, 20002, 20003, 20004, 20005, 20006, 20007, 20008, 20009, 20010, 20011])], rows := [], pubs := [], byref := [], stay := [10, 18, 28] }),
  (86, { loops := [(2, [0, 1, 2, 3, 8, 9], [10000])], rows := [], pubs := [], byref := [24, 30, 36, 51, 69, 88, 95, 117, 127], stay := [27, 33, 39, 46, 54, 72, 85, 92, 99, 121, 132] }),
  (89, { loops := [(2, [0, 3], [])], rows := [], pubs := [], byref := [] }),
  (92, { loops := [], rows := [], pubs := [4], byref := [] }),
  (93, { loops := [(4, [0, 3], [10000]), (9, [0, 3, 4, 5], [10000])], rows := [], pubs := [4], byref := [], stay := [7, 12, 31] }),
  (94, { loops := [(2, [0, 1, 7, 8], [])], rows := [], pubs := [], byref := [], stay := [7] }),
  (95, { loops := [(2, [0, 1, 7, 8], [10000, 10001, 10002, 10003, 10004, 10005, 10006, 10007, 10008, 20000, 20001, 20002, 20003, 20004, 20005, 20006, 20007, 20008, 20009, 20010, 20011])], rows := [], pubs := [], byref := [], stay := [7, 16] }),
  (96, { loops := [(1, [0, 1, 2, 3, 8], [10000, 10001, 10002, 10003, 10004, 10005, 10006, 10007, 10008, 20000, 20001, 20002, 20003, 20004, 20005, 20006, 20007, 20008, 20009, 20010, 20011]), (4, [0, 1, 2, 3, 8, 9], [10000, 10001, 10002, 10003, 10004, 10005, 10006, 10007, 10008, 20000, 20001, 20002, 20003, 20004, 20005, 20006, 20007, 20008, 20009, 20010, 20011])], rows := [], pubs := [], byref := [], stay := [32] }),
  (97, { loops := [(4, [0, 3, 8, 9, 10, 11], [10000, 10001, 10002, 10003, 10004, 10005, 10006, 10007, 10008, 20000, 20001, 20002, 20003, 20004, 20005, 20006, 20007, 20008, 20009, 20010, 20011]), (8, [0, 3, 8, 9, 12], [10000, 10001, 10002, 10003, 10004, 10005, 10006, 10007, 10008, 20000, 20001, 20002, 20003, 20004, 20005, 20006, 20007, 20008, 20009, 20010, 20011])], rows := [], pubs := [], byref := [24, 54], stay := [29, 59] }),
  (98, { loops := [(5, [0, 1, 8, 9, 10, 11], [9, 10000, 10001, 10002, 10003, 10004, 10005, 10006, 10007, 10008, 20000, 20001, 20002, 20003, 20004, 20005, 20006, 20007, 20008, 20009, 20010, 20011])], rows := [], pubs := [], byref := [], stay := [21, 38] }),
  (99, { loops := [], rows := [], pubs := [], byref := [], stay := [40, 44, 48, 54] }),
  (100, { loops := [(2, [0, 8, 9], [10000, 10001, 10002, 10003, 10004, 10005, 10006, 10007, 10008, 20000, 20001, 20002, 20003, 20004, 20005, 20006, 20007, 20008, 20009, 20010, 20011])], rows := [], pubs := [], byref := [] }),
  (101, { loops := [(3, [0, 1, 2, 3, 9, 10], [10000, 10001, 10002, 10003, 10004, 10005, 10006, 10007, 10008, 20000, 20001, 20002, 20003, 20004, 20005, 20006, 20007, 20008, 20009, 20010, 20011]), (5, [0, 1, 2, 3, 9, 10], [10000, 10001, 10002, 10003, 10004, 10005, 10006, 10007, 10008, 20000, 20001, 20002, 20003, 20004, 20005, 20006, 20007, 20008, 20009, 20010, 20011]), (14, [0, 1, 2, 3, 9, 10, 11], [10000, 10001, 10002, 10003, 10004, 10005, 10006, 10007, 10008, 20000, 20001, 20002, 20003, 20004, 20005, 20006, 20007, 20008, 20009, 20010, 20011]), (20, [0, 1, 2, 3, 9, 10, 12], [10000, 10001, 10002, 10003, 10004, 10005, 10006, 10007, 10008, 20000, 20001, 20002, 20003, 20004, 20005, 20006, 20007, 20008, 20009, 20010, 20011])], rows := [], pubs := [], byref := [], stay := [33, 82, 122] }),
  (102, { loops := [(3, [0, 1, 4, 11, 12], [10000, 10001, 10002, 10003, 10004, 10005, 10006, 10007, 10008, 20000, 20001, 20002, 20003, 20004, 20005, 20006, 20007, 20008, 20009, 20010, 20011]), (5, [0, 1, 4, 11, 12], [10000, 10001, 10002, 10003, 10004, 10005, 10006, 10007, 10008, 20000, 20001, 20002, 20003, 20004, 20005, 20006, 20007, 20008, 20009, 20010, 20011])], rows := [], pubs := [], byref := [], stay := [44, 63] }),
  (103, { loops := [(3, [0, 1, 4, 12, 13], [10000, 10001, 10002, 10003, 10004, 10005, 10006, 10007, 10008, 20000, 20001, 20002, 20003, 20004, 20005, 20006, 20007, 20008, 20009, 20010, 20011]), (5, [0, 1, 4, 12, 13], [10000, 10001, 10002, 10003, 10004, 10005, 10006, 10007, 10008, 20000, 20001, 20002, 20003, 20004, 20005, 20006, 20007, 20008, 20009, 20010, 20011]), (13, [0, 1, 4, 12, 13], [10000, 10001, 10002, 10003, 10004, 10005, 10006, 10007, 10008, 20000, 20001, 20002, 20003, 20004, 20005, 20006, 20007, 20008, 20009, 20010, 20011]), (15, [0, 1, 4, 12, 13], [10000, 10001, 10002, 10003, 10004, 10005, 10006, 10007, 10008, 20000, 20001, 20002, 20003, 20004, 20005, 20006, 20007, 20008, 20009, 20010, 20011])], rows := [], pubs := [], byref := [], stay := [45, 63, 118, 136] }),
  (106, { loops := [(2, [0, 1, 7, 8], [10000, 10001, 10002, 10003, 10004, 10005, 10006, 10007, 10008, 20000, 20001, 20002, 20003, 20004, 20005, 20006, 20007, 20008, 20009, 20010, 20011])], rows := [], pubs := [], byref := [], stay := [7, 16] }),
  (108, { loops := [], rows := [], pubs := [], byref := [], stay := [7] }),
  (110, { loops := [(3, [0, 3, 5, 11, 12, 13], [3, 5, 10000, 10001, 10002, 10003, 10004, 10005, 10006, 10007, 10008, 20000, 20001, 20002, 20003, 20004, 20005, 20006, 20007, 20008, 20009, 20010, 20011])], rows := [5], pubs := [], byref := [], pubAt := [(2, [3])], stay := [20] }),
  (111, { loops := [], rows := [], pubs := [], byref := [6], stay := [7] }),
  (113, { loops := [(4, [1, 2, 5, 6, 16, 17, 18], [2, 5, 11, 10000, 10001, 10002, 10003, 10004, 10005, 10006, 10007, 10008, 20000, 20001, 20002, 20003, 20004, 20005, 20006, 20007, 20008, 20009, 20010, 20011]), (8, [1, 2, 5, 6, 16, 17, 18, 36, 37, 38], [2, 5, 8, 11, 10000, 10001, 10002, 10003, 10004, 10005, 10006, 10007, 10008, 20000, 20001, 20002, 20003, 20004, 20005, 20006, 20007, 20008, 20009, 20010, 20011])], rows := [], pubs := [], byref := [12], stay := [33] }),
  (114, { loops := [(2, [0, 1, 7, 8], [10000, 10001, 10002, 10003, 10004, 10005, 10006, 10007, 10008, 20000, 20001, 20002, 20003, 20004, 20005, 20006, 20007, 20008, 20009, 20010, 20011])], rows := [], pubs := [], byref := [], stay := [7, 16] }),
  (115, { loops := [(2, [0, 1, 7, 8], [10000, 10001, 10002, 10003, 10004, 10005, 10006, 10007, 10008, 20000, 20001, 20002, 20003, 20004, 20005, 20006, 20007, 20008, 20009, 20010, 20011])], rows := [], pubs := [], byref := [], stay := [7, 16] }),
  (116, { loops := [(4, [1, 16], [16, 10000, 10001, 10002, 10003, 10004, 10005, 10006, 10007, 10008, 20000, 20001, 20002, 20003, 20004, 20005, 20006, 20007, 20008, 20009, 20010, 20011])], rows := [], pubs := [], byref := [] }),
  (118, { loops := [(1, [0, 1, 2, 6], [10000]), (4, [0, 1, 2, 6, 7], [10000])], rows := [], pubs := [], byref := [], stay := [29] }),
  (119, { loops := [(4, [0, 6, 7, 8, 9], [10000]), (8, [0, 6, 7, 10], [10000])], rows := [], pubs := [], byref := [22, 51], stay := [26, 55] }),
  (120, { loops := [(5, [0, 1, 6, 7, 8, 9], [7, 10000])], rows := [], pubs := [], byref := [], stay := [19, 36] }),
  (121, { loops := [], rows := [], pubs := [], byref := [], stay := [37, 40, 43, 48] }),
  (122, { loops := [(2, [0, 6, 7], [10000])], rows := [], pubs := [], byref := [] }),
  (123, { loops := [(3, [0, 1, 2, 7, 8], [10000]), (5, [0, 1, 2, 7, 8], [10000]), (14, [0, 1, 2, 7, 8, 9], [10000]), (20, [0, 1, 2, 7, 8, 10], [10000])], rows := [], pubs := [], byref := [], stay := [30, 77, 115] }),
  (124, { loops := [(3, [0, 1, 9, 10], [10000]), (5, [0, 1, 9, 10], [10000])], rows := [], pubs := [], byref := [], stay := [41, 58] }),
  (125, { loops := [(3, [0, 1, 10, 11], [10000]), (5, [0, 1, 10, 11], [10000]), (13, [0, 1, 10, 11], [10000]), (15, [0, 1, 10, 11], [10000])], rows := [], pubs := [], byref := [], stay := [42, 58, 111, 127] }),
  (128, { loops := [(1, [0, 2, 3, 4, 10], [10000, 10001, 10002, 10003, 10004, 10005, 10006, 10007, 10008, 20000, 20001, 20002, 20003, 20004, 20005, 20006, 20007, 20008, 20009, 20010, 20011])], rows := [], pubs := [], byref := [], stay := [38, 56] }),
  (129, { loops := [], rows := [], pubs := [], byref := [], stay := [5] }),
  (131, { loops := [], rows := [], pubs := [], byref := [], stay := [17] }),
  (132, { loops := [], rows := [], pubs := [], byref := [], stay := [19, 28, 37] }),
  (134, { loops := [(2, [0, 1, 7, 8], [10000, 10001, 10002, 10003, 10004, 10005, 10006, 10007, 10008, 20000, 20001, 20002, 20003, 20004, 20005, 20006, 20007, 20008, 20009, 20010, 20011])], rows := [], pubs := [], byref := [], stay := [7, 16] }),
  (136, { loops := [], rows := [], pubs := [4, 5], byref := [], stay := [10] }),
  (139, { loops := [(1, [0, 2, 3, 8], [10000])], rows := [], pubs := [], byref := [], stay := [35, 51] }),
  (140, { loops := [], rows := [], pubs := [], byref := [], stay := [14] }),
  (141, { loops := [], rows := [], pubs := [], byref := [], stay := [16, 24, 32] }),
  (142, { loops := [], rows := [], pubs := [], byref := [], stay := [21] }),
  (143, { loops := [], rows := [], pubs := [], byref := [], stay := [18] })]
def H (f : Nat) : Hint := (find hints f).getD {}
def joinB (sep : List UInt8) : List (List UInt8) → List UInt8
  | [] => []
  | [x] => x
  | x :: xs => x ++ sep ++ joinB sep xs
def strs : List (List AV) → Option (List (List UInt8))
  | [] => some []
  | [.str s] :: l => (strs l).map (s :: ·)
  | _ => none
def tz : Nat → Nat → Nat
  | 0, _ => 0
  | k + 1, n => bif Nat.beq (n % 2) 1 then 0 else 1 + tz k (n / 2)
/-- the word of a set of at most 64 -/
def wordOf : List (List AV) → Option Nat
  | [] => some 0
  | [[.int .u64 (.ofNat m)]] => bif Nat.blt 0 m && Nat.blt m 18446744073709551616 then some m else none
  | _ => none
/-- how many bits -/
def cntN : Nat → Nat → Nat
  | 0, _ => 0
  | k + 1, n => n % 2 + cntN k (n / 2)
abbrev EntW := List UInt8 × Nat
def entsOf : List (List AV) → Option (List EntW)
  | [] => some []
  | [.str s, .lst 1 ws] :: l => match wordOf ws, entsOf l with
    | some w, some r => some ((s, w) :: r)
    | _, _ => none
  | _ => none
def ltC (p q : EntW) : Bool := Nat.blt (cntN 64 q.2) (cntN 64 p.2) || (Nat.beq (cntN 64 p.2) (cntN 64 q.2) && Op.bytesLess p.1 q.1)
def strictL : List EntW → Bool
  | [] => true
  | x :: l => l.all (fun y => ltC x y || ltC y x) && strictL l
def EntW.enc (p : EntW) : List AV := [.str p.1, .lst 1 (bif Nat.beq p.2 0 then [] else [[.int .u64 (p.2 : Int)]])]
def prim0 : CallF := fun f args lent => match f, args, lent with
  | 19, [.pv (.lst 1 xs), .pv (.str sep)], [] => match strs xs with
    | some l => bif Nat.ble (joinB sep l).length 140737488355328 && Nat.ble l.length 140737488355328 then some (.str (joinB sep l), []) else none
    | none => none
  | 51, [.pv (.int .u64 n)], [] => match n with
    | .ofNat m => bif Nat.blt m 18446744073709551616 then some (.int .i64 (tz 64 m : Nat), []) else none
    | .negSucc _ => none
  | 43, [.row 10000], [(10000, .row 9 1 xs)] => match strs xs with
    | some l => bif Nat.ble l.length 1073741824 then some (.tup [], [(10000, .row 9 1 ((isort Op.bytesLess l).map eStr))]) else none
    | none => none
  | _, _, _ => none
def prim : CallF := fun f args lent => match f, args, lent with
  | 21, [.row 10000, .pv (.fn 22 [])], [(10000, .row 51 2 xs)] => match entsOf xs with
    | some l => bif strictL l && Nat.ble l.length 1073741824 then some (.tup [], [(10000, .row 51 2 ((isort ltC l).map EntW.enc))]) else none
    | none => none
  | f, args, lent => prim0 f args lent
noncomputable abbrev Rn : CallF := run P H prim
end Go.Proofs.YtfoddgpndoeeaaaGreatDoor.cl
