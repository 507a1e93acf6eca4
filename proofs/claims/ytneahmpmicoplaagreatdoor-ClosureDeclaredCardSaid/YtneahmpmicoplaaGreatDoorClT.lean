/-
  The Closure laws: the types and codecs of the program, by program (decomp2.py).
-/
import Derived.Test.YtneahmpmicoplaaGreatDoorProg
import Derived.Test.YtneahmpmicoplaaGreatDoorAmL
import Derived.Test.YtneahmpmicoplaaGreatDoorAmP
import Derived.KernelRfl
set_option linter.unusedVariables false
set_option linter.unusedSimpArgs false
set_option maxRecDepth 100000
namespace Go.Proofs.YtneahmpmicoplaaGreatDoor.cl
open Go Go.AM
noncomputable abbrev P : Program := Tryz.prog
structure FeatDecl where
  Feat : List UInt8
  Value : List UInt8
  deriving Inhabited
def FeatDecl.enc (x : FeatDecl) : List AV := [.str x.Feat, .str x.Value]
theorem FeatDecl.inj : ∀ (a b : FeatDecl), FeatDecl.enc a = FeatDecl.enc b → a = b := by
  intro a b h
  obtain ⟨aFeat, aValue⟩ := a
  obtain ⟨bFeat, bValue⟩ := b
  simp only [FeatDecl.enc, List.cons.injEq, AV.int.injEq, AV.str.injEq, AV.bool.injEq, AV.lst.injEq, true_and, and_true] at h
  obtain ⟨h0, h1⟩ := h
  change aFeat = bFeat at h0
  change aValue = bValue at h1
  subst h0 h1
  rfl
instance : Inj FeatDecl.enc := ⟨FeatDecl.inj⟩
structure TypeDecl where
  Name : List UInt8
  Supers : List (List UInt8)
  Feats : List FeatDecl
  deriving Inhabited
def TypeDecl.enc (x : TypeDecl) : List AV := [.str x.Name, .lst 1 (List.map eStr x.Supers), .lst 2 (List.map FeatDecl.enc x.Feats)]
theorem TypeDecl.inj : ∀ (a b : TypeDecl), TypeDecl.enc a = TypeDecl.enc b → a = b := by
  intro a b h
  obtain ⟨aName, aSupers, aFeats⟩ := a
  obtain ⟨bName, bSupers, bFeats⟩ := b
  simp only [TypeDecl.enc, List.cons.injEq, AV.int.injEq, AV.str.injEq, AV.bool.injEq, AV.lst.injEq, true_and, and_true] at h
  obtain ⟨h0, h1, h2⟩ := h
  replace h1 := map_inj Inj.inj _ _ h1
  replace h2 := map_inj Inj.inj _ _ h2
  change aName = bName at h0
  change aSupers = bSupers at h1
  change aFeats = bFeats at h2
  subst h0 h1 h2
  rfl
instance : Inj TypeDecl.enc := ⟨TypeDecl.inj⟩
structure Coded where
  Name : List UInt8
  Code : List Int
  deriving Inhabited
def Coded.enc (x : Coded) : List AV := [.str x.Name, .lst 1 (List.map (eInt .u64) x.Code)]
theorem Coded.inj : ∀ (a b : Coded), Coded.enc a = Coded.enc b → a = b := by
  intro a b h
  obtain ⟨aName, aCode⟩ := a
  obtain ⟨bName, bCode⟩ := b
  simp only [Coded.enc, List.cons.injEq, AV.int.injEq, AV.str.injEq, AV.bool.injEq, AV.lst.injEq, true_and, and_true] at h
  obtain ⟨h0, h1⟩ := h
  replace h1 := map_inj Inj.inj _ _ h1
  change aName = bName at h0
  change aCode = bCode at h1
  subst h0 h1
  rfl
instance : Inj Coded.enc := ⟨Coded.inj⟩
abbrev C57 : Cod := ⟨TypeDecl, TypeDecl.enc⟩
abbrev C36 : Cod := ⟨Coded, Coded.enc⟩
abbrev C37 : Cod := ⟨Int, (eInt .u64)⟩
abbrev C3 : Cod := ⟨Int, (eInt .i64)⟩
abbrev C4 : Cod := ⟨Bool, eBool⟩
abbrev C9 : Cod := ⟨List UInt8, eStr⟩
abbrev C184 : Cod := ⟨FeatDecl, FeatDecl.enc⟩
abbrev C5 : Cod := ⟨Int, (eInt .u8)⟩
abbrev C31 : Cod := ⟨List (Int), (eLst 1 (eInt .u64))⟩
abbrev V3 : CodR := ⟨Int, AV.int .i64⟩
instance : Inj V3.enc := ⟨fun a b h => by
  injection h⟩
instance : KeyC V3 := ⟨fun a b => ⟨(inferInstance : DecidableEq (Int)) a b, by
  simp only [keyIs, if_true]
  first | rfl | (congr 1; first | rfl | (rw [Bool.eq_iff_iff]; simp))⟩⟩
abbrev V4 : CodR := ⟨Bool, AV.bool⟩
instance : Inj V4.enc := ⟨fun a b h => by
  injection h⟩
instance : KeyC V4 := ⟨fun a b => ⟨(inferInstance : DecidableEq (Bool)) a b, by
  simp only [keyIs, if_true]
  first | rfl | (congr 1; first | rfl | (rw [Bool.eq_iff_iff]; simp))⟩⟩
abbrev V9 : CodR := ⟨List UInt8, AV.str⟩
instance : Inj V9.enc := ⟨fun a b h => by
  injection h⟩
instance : KeyC V9 := ⟨fun a b => ⟨(inferInstance : DecidableEq (List UInt8)) a b, by
  simp only [keyIs, if_true]
  first | rfl | (congr 1; first | rfl | (rw [Bool.eq_iff_iff]; simp))⟩⟩
abbrev V54 : CodR := ⟨List (List UInt8), (fun x => AV.lst 1 (x.map eStr))⟩
instance : Inj V54.enc := ⟨fun a b h => by
  injection h with _ h
  exact map_inj Inj.inj _ _ h⟩
abbrev R3.T : Type := Bool
def R3.enc : R3.T → AV := (fun (x : Bool) => ((.bool x) : AV))
instance : Inj R3.enc := ⟨fun a b h => by
  simp only [R3.enc, AV.mp.injEq, AV.int.injEq, AV.str.injEq, AV.bool.injEq, AV.lst.injEq, AV.agg.injEq, AV.tup.injEq, List.cons.injEq, true_and, and_true] at h
  exact h⟩
abbrev R4.T : Type := Bool
def R4.enc : R4.T → AV := (fun (x : Bool) => ((.bool x) : AV))
instance : Inj R4.enc := ⟨fun a b h => by
  simp only [R4.enc, AV.mp.injEq, AV.int.injEq, AV.str.injEq, AV.bool.injEq, AV.lst.injEq, AV.agg.injEq, AV.tup.injEq, List.cons.injEq, true_and, and_true] at h
  exact h⟩
abbrev R5.T : Type := Bool
def R5.enc : R5.T → AV := (fun (x : Bool) => ((.bool x) : AV))
instance : Inj R5.enc := ⟨fun a b h => by
  simp only [R5.enc, AV.mp.injEq, AV.int.injEq, AV.str.injEq, AV.bool.injEq, AV.lst.injEq, AV.agg.injEq, AV.tup.injEq, List.cons.injEq, true_and, and_true] at h
  exact h⟩
abbrev R6.T : Type := Bool
def R6.enc : R6.T → AV := (fun (x : Bool) => ((.bool x) : AV))
instance : Inj R6.enc := ⟨fun a b h => by
  simp only [R6.enc, AV.mp.injEq, AV.int.injEq, AV.str.injEq, AV.bool.injEq, AV.lst.injEq, AV.agg.injEq, AV.tup.injEq, List.cons.injEq, true_and, and_true] at h
  exact h⟩
abbrev R7.T : Type := Bool
def R7.enc : R7.T → AV := (fun (x : Bool) => ((.bool x) : AV))
instance : Inj R7.enc := ⟨fun a b h => by
  simp only [R7.enc, AV.mp.injEq, AV.int.injEq, AV.str.injEq, AV.bool.injEq, AV.lst.injEq, AV.agg.injEq, AV.tup.injEq, List.cons.injEq, true_and, and_true] at h
  exact h⟩
abbrev R8.T : Type := Bool
def R8.enc : R8.T → AV := (fun (x : Bool) => ((.bool x) : AV))
instance : Inj R8.enc := ⟨fun a b h => by
  simp only [R8.enc, AV.mp.injEq, AV.int.injEq, AV.str.injEq, AV.bool.injEq, AV.lst.injEq, AV.agg.injEq, AV.tup.injEq, List.cons.injEq, true_and, and_true] at h
  exact h⟩
abbrev R9.T : Type := Bool
def R9.enc : R9.T → AV := (fun (x : Bool) => ((.bool x) : AV))
instance : Inj R9.enc := ⟨fun a b h => by
  simp only [R9.enc, AV.mp.injEq, AV.int.injEq, AV.str.injEq, AV.bool.injEq, AV.lst.injEq, AV.agg.injEq, AV.tup.injEq, List.cons.injEq, true_and, and_true] at h
  exact h⟩
abbrev R11.T : Type := Bool
def R11.enc : R11.T → AV := (fun (x : Bool) => ((.bool x) : AV))
instance : Inj R11.enc := ⟨fun a b h => by
  simp only [R11.enc, AV.mp.injEq, AV.int.injEq, AV.str.injEq, AV.bool.injEq, AV.lst.injEq, AV.agg.injEq, AV.tup.injEq, List.cons.injEq, true_and, and_true] at h
  exact h⟩
abbrev R12.T : Type := Bool
def R12.enc : R12.T → AV := (fun (x : Bool) => ((.bool x) : AV))
instance : Inj R12.enc := ⟨fun a b h => by
  simp only [R12.enc, AV.mp.injEq, AV.int.injEq, AV.str.injEq, AV.bool.injEq, AV.lst.injEq, AV.agg.injEq, AV.tup.injEq, List.cons.injEq, true_and, and_true] at h
  exact h⟩
abbrev R13.T : Type := Bool
def R13.enc : R13.T → AV := (fun (x : Bool) => ((.bool x) : AV))
instance : Inj R13.enc := ⟨fun a b h => by
  simp only [R13.enc, AV.mp.injEq, AV.int.injEq, AV.str.injEq, AV.bool.injEq, AV.lst.injEq, AV.agg.injEq, AV.tup.injEq, List.cons.injEq, true_and, and_true] at h
  exact h⟩
abbrev R14.T : Type := (List Coded) × Int
def R14.enc : R14.T → AV := (fun (x : (List Coded) × Int) => ((.tup [(.lst 2 (List.map Coded.enc x.1)), (.int .i64 x.2)]) : AV))
instance : Inj R14.enc := ⟨fun a b h => by
  obtain ⟨a0, a1⟩ := a
  obtain ⟨b0, b1⟩ := b
  simp only [R14.enc, AV.mp.injEq, AV.int.injEq, AV.str.injEq, AV.bool.injEq, AV.lst.injEq, AV.agg.injEq, AV.tup.injEq, List.cons.injEq, true_and, and_true] at h
  obtain ⟨h0, h1⟩ := h
  replace h0 : a0 = b0 := map_inj Inj.inj _ _ h0
  replace h1 : a1 = b1 := h1
  subst h0 h1
  rfl⟩
abbrev R15.T : Type := (List Coded) × Int
def R15.enc : R15.T → AV := (fun (x : (List Coded) × Int) => ((.tup [(.lst 2 (List.map Coded.enc x.1)), (.int .i64 x.2)]) : AV))
instance : Inj R15.enc := ⟨fun a b h => by
  obtain ⟨a0, a1⟩ := a
  obtain ⟨b0, b1⟩ := b
  simp only [R15.enc, AV.mp.injEq, AV.int.injEq, AV.str.injEq, AV.bool.injEq, AV.lst.injEq, AV.agg.injEq, AV.tup.injEq, List.cons.injEq, true_and, and_true] at h
  obtain ⟨h0, h1⟩ := h
  replace h0 : a0 = b0 := map_inj Inj.inj _ _ h0
  replace h1 : a1 = b1 := h1
  subst h0 h1
  rfl⟩
abbrev R16.T : Type := Bool
def R16.enc : R16.T → AV := (fun (x : Bool) => ((.bool x) : AV))
instance : Inj R16.enc := ⟨fun a b h => by
  simp only [R16.enc, AV.mp.injEq, AV.int.injEq, AV.str.injEq, AV.bool.injEq, AV.lst.injEq, AV.agg.injEq, AV.tup.injEq, List.cons.injEq, true_and, and_true] at h
  exact h⟩
abbrev R17.T : Type := (List Coded) × Int × Int × Bool
def R17.enc : R17.T → AV := (fun (x : (List Coded) × Int × Int × Bool) => ((.tup [(.lst 2 (List.map Coded.enc x.1)), (.int .i64 x.2.1), (.int .i64 x.2.2.1), (.bool x.2.2.2)]) : AV))
instance : Inj R17.enc := ⟨fun a b h => by
  obtain ⟨a0, a1, a2, a3⟩ := a
  obtain ⟨b0, b1, b2, b3⟩ := b
  simp only [R17.enc, AV.mp.injEq, AV.int.injEq, AV.str.injEq, AV.bool.injEq, AV.lst.injEq, AV.agg.injEq, AV.tup.injEq, List.cons.injEq, true_and, and_true] at h
  obtain ⟨h0, h1, h2, h3⟩ := h
  replace h0 : a0 = b0 := map_inj Inj.inj _ _ h0
  replace h1 : a1 = b1 := h1
  replace h2 : a2 = b2 := h2
  replace h3 : a3 = b3 := h3
  subst h0 h1 h2 h3
  rfl⟩
abbrev R18.T : Type := Int
def R18.enc : R18.T → AV := (fun (x : Int) => ((.int .i64 x) : AV))
instance : Inj R18.enc := ⟨fun a b h => by
  simp only [R18.enc, AV.mp.injEq, AV.int.injEq, AV.str.injEq, AV.bool.injEq, AV.lst.injEq, AV.agg.injEq, AV.tup.injEq, List.cons.injEq, true_and, and_true] at h
  exact h⟩
abbrev R19.T : Type := Int
def R19.enc : R19.T → AV := (fun (x : Int) => ((.int .i64 x) : AV))
instance : Inj R19.enc := ⟨fun a b h => by
  simp only [R19.enc, AV.mp.injEq, AV.int.injEq, AV.str.injEq, AV.bool.injEq, AV.lst.injEq, AV.agg.injEq, AV.tup.injEq, List.cons.injEq, true_and, and_true] at h
  exact h⟩
abbrev R20.T : Type := Int
def R20.enc : R20.T → AV := (fun (x : Int) => ((.int .i64 x) : AV))
instance : Inj R20.enc := ⟨fun a b h => by
  simp only [R20.enc, AV.mp.injEq, AV.int.injEq, AV.str.injEq, AV.bool.injEq, AV.lst.injEq, AV.agg.injEq, AV.tup.injEq, List.cons.injEq, true_and, and_true] at h
  exact h⟩
abbrev R21.T : Type := Int
def R21.enc : R21.T → AV := (fun (x : Int) => ((.int .i64 x) : AV))
instance : Inj R21.enc := ⟨fun a b h => by
  simp only [R21.enc, AV.mp.injEq, AV.int.injEq, AV.str.injEq, AV.bool.injEq, AV.lst.injEq, AV.agg.injEq, AV.tup.injEq, List.cons.injEq, true_and, and_true] at h
  exact h⟩
abbrev R22.T : Type := Int
def R22.enc : R22.T → AV := (fun (x : Int) => ((.int .i64 x) : AV))
instance : Inj R22.enc := ⟨fun a b h => by
  simp only [R22.enc, AV.mp.injEq, AV.int.injEq, AV.str.injEq, AV.bool.injEq, AV.lst.injEq, AV.agg.injEq, AV.tup.injEq, List.cons.injEq, true_and, and_true] at h
  exact h⟩
abbrev R23.T : Type := Int
def R23.enc : R23.T → AV := (fun (x : Int) => ((.int .i64 x) : AV))
instance : Inj R23.enc := ⟨fun a b h => by
  simp only [R23.enc, AV.mp.injEq, AV.int.injEq, AV.str.injEq, AV.bool.injEq, AV.lst.injEq, AV.agg.injEq, AV.tup.injEq, List.cons.injEq, true_and, and_true] at h
  exact h⟩
abbrev R24.T : Type := Bool
def R24.enc : R24.T → AV := (fun (x : Bool) => ((.bool x) : AV))
instance : Inj R24.enc := ⟨fun a b h => by
  simp only [R24.enc, AV.mp.injEq, AV.int.injEq, AV.str.injEq, AV.bool.injEq, AV.lst.injEq, AV.agg.injEq, AV.tup.injEq, List.cons.injEq, true_and, and_true] at h
  exact h⟩
abbrev R25.T : Type := Bool
def R25.enc : R25.T → AV := (fun (x : Bool) => ((.bool x) : AV))
instance : Inj R25.enc := ⟨fun a b h => by
  simp only [R25.enc, AV.mp.injEq, AV.int.injEq, AV.str.injEq, AV.bool.injEq, AV.lst.injEq, AV.agg.injEq, AV.tup.injEq, List.cons.injEq, true_and, and_true] at h
  exact h⟩
abbrev R26.T : Type := Bool
def R26.enc : R26.T → AV := (fun (x : Bool) => ((.bool x) : AV))
instance : Inj R26.enc := ⟨fun a b h => by
  simp only [R26.enc, AV.mp.injEq, AV.int.injEq, AV.str.injEq, AV.bool.injEq, AV.lst.injEq, AV.agg.injEq, AV.tup.injEq, List.cons.injEq, true_and, and_true] at h
  exact h⟩
abbrev R27.T : Type := List Int
def R27.enc : R27.T → AV := (fun (x : List Int) => ((.lst 1 (List.map (eInt .i64) x)) : AV))
instance : Inj R27.enc := ⟨fun a b h => by
  simp only [R27.enc, AV.mp.injEq, AV.int.injEq, AV.str.injEq, AV.bool.injEq, AV.lst.injEq, AV.agg.injEq, AV.tup.injEq, List.cons.injEq, true_and, and_true] at h
  exact map_inj Inj.inj _ _ h⟩
abbrev R28.T : Type := List Int
def R28.enc : R28.T → AV := (fun (x : List Int) => ((.lst 1 (List.map (eInt .i64) x)) : AV))
instance : Inj R28.enc := ⟨fun a b h => by
  simp only [R28.enc, AV.mp.injEq, AV.int.injEq, AV.str.injEq, AV.bool.injEq, AV.lst.injEq, AV.agg.injEq, AV.tup.injEq, List.cons.injEq, true_and, and_true] at h
  exact map_inj Inj.inj _ _ h⟩
abbrev R29.T : Type := List Int
def R29.enc : R29.T → AV := (fun (x : List Int) => ((.lst 1 (List.map (eInt .u64) x)) : AV))
instance : Inj R29.enc := ⟨fun a b h => by
  simp only [R29.enc, AV.mp.injEq, AV.int.injEq, AV.str.injEq, AV.bool.injEq, AV.lst.injEq, AV.agg.injEq, AV.tup.injEq, List.cons.injEq, true_and, and_true] at h
  exact map_inj Inj.inj _ _ h⟩
abbrev R30.T : Type := Int
def R30.enc : R30.T → AV := (fun (x : Int) => ((.int .i64 x) : AV))
instance : Inj R30.enc := ⟨fun a b h => by
  simp only [R30.enc, AV.mp.injEq, AV.int.injEq, AV.str.injEq, AV.bool.injEq, AV.lst.injEq, AV.agg.injEq, AV.tup.injEq, List.cons.injEq, true_and, and_true] at h
  exact h⟩
abbrev R31.T : Type := Bool
def R31.enc : R31.T → AV := (fun (x : Bool) => ((.bool x) : AV))
instance : Inj R31.enc := ⟨fun a b h => by
  simp only [R31.enc, AV.mp.injEq, AV.int.injEq, AV.str.injEq, AV.bool.injEq, AV.lst.injEq, AV.agg.injEq, AV.tup.injEq, List.cons.injEq, true_and, and_true] at h
  exact h⟩
abbrev R32.T : Type := Int
def R32.enc : R32.T → AV := (fun (x : Int) => ((.int .i64 x) : AV))
instance : Inj R32.enc := ⟨fun a b h => by
  simp only [R32.enc, AV.mp.injEq, AV.int.injEq, AV.str.injEq, AV.bool.injEq, AV.lst.injEq, AV.agg.injEq, AV.tup.injEq, List.cons.injEq, true_and, and_true] at h
  exact h⟩
abbrev R33.T : Type := Int
def R33.enc : R33.T → AV := (fun (x : Int) => ((.int .i64 x) : AV))
instance : Inj R33.enc := ⟨fun a b h => by
  simp only [R33.enc, AV.mp.injEq, AV.int.injEq, AV.str.injEq, AV.bool.injEq, AV.lst.injEq, AV.agg.injEq, AV.tup.injEq, List.cons.injEq, true_and, and_true] at h
  exact h⟩
abbrev R35.T : Type := List (List UInt8)
def R35.enc : R35.T → AV := (fun (x : List (List UInt8)) => ((.lst 1 (List.map eStr x)) : AV))
instance : Inj R35.enc := ⟨fun a b h => by
  simp only [R35.enc, AV.mp.injEq, AV.int.injEq, AV.str.injEq, AV.bool.injEq, AV.lst.injEq, AV.agg.injEq, AV.tup.injEq, List.cons.injEq, true_and, and_true] at h
  exact map_inj Inj.inj _ _ h⟩
abbrev R36.T : Type := Int
def R36.enc : R36.T → AV := (fun (x : Int) => ((.int .i64 x) : AV))
instance : Inj R36.enc := ⟨fun a b h => by
  simp only [R36.enc, AV.mp.injEq, AV.int.injEq, AV.str.injEq, AV.bool.injEq, AV.lst.injEq, AV.agg.injEq, AV.tup.injEq, List.cons.injEq, true_and, and_true] at h
  exact h⟩
abbrev R37.T : Type := Bool
def R37.enc : R37.T → AV := (fun (x : Bool) => ((.bool x) : AV))
instance : Inj R37.enc := ⟨fun a b h => by
  simp only [R37.enc, AV.mp.injEq, AV.int.injEq, AV.str.injEq, AV.bool.injEq, AV.lst.injEq, AV.agg.injEq, AV.tup.injEq, List.cons.injEq, true_and, and_true] at h
  exact h⟩
abbrev R38.T : Type := Bool
def R38.enc : R38.T → AV := (fun (x : Bool) => ((.bool x) : AV))
instance : Inj R38.enc := ⟨fun a b h => by
  simp only [R38.enc, AV.mp.injEq, AV.int.injEq, AV.str.injEq, AV.bool.injEq, AV.lst.injEq, AV.agg.injEq, AV.tup.injEq, List.cons.injEq, true_and, and_true] at h
  exact h⟩
abbrev R39.T : Type := Int
def R39.enc : R39.T → AV := (fun (x : Int) => ((.int .i64 x) : AV))
instance : Inj R39.enc := ⟨fun a b h => by
  simp only [R39.enc, AV.mp.injEq, AV.int.injEq, AV.str.injEq, AV.bool.injEq, AV.lst.injEq, AV.agg.injEq, AV.tup.injEq, List.cons.injEq, true_and, and_true] at h
  exact h⟩
abbrev R40.T : Type := (List (List UInt8)) × (List (List Int))
def R40.enc : R40.T → AV := (fun (x : (List (List UInt8)) × (List (List Int))) => ((.tup [(.lst 1 (List.map eStr x.1)), (.lst 1 (List.map (eLst 1 (eInt .u64)) x.2))]) : AV))
instance : Inj R40.enc := ⟨fun a b h => by
  obtain ⟨a0, a1⟩ := a
  obtain ⟨b0, b1⟩ := b
  simp only [R40.enc, AV.mp.injEq, AV.int.injEq, AV.str.injEq, AV.bool.injEq, AV.lst.injEq, AV.agg.injEq, AV.tup.injEq, List.cons.injEq, true_and, and_true] at h
  obtain ⟨h0, h1⟩ := h
  replace h0 : a0 = b0 := map_inj Inj.inj _ _ h0
  replace h1 : a1 = b1 := map_inj Inj.inj _ _ h1
  subst h0 h1
  rfl⟩
abbrev R41.T : Type := (List (List Int)) × Bool
def R41.enc : R41.T → AV := (fun (x : (List (List Int)) × Bool) => ((.tup [(.lst 1 (List.map (eLst 1 (eInt .u64)) x.1)), (.bool x.2)]) : AV))
instance : Inj R41.enc := ⟨fun a b h => by
  obtain ⟨a0, a1⟩ := a
  obtain ⟨b0, b1⟩ := b
  simp only [R41.enc, AV.mp.injEq, AV.int.injEq, AV.str.injEq, AV.bool.injEq, AV.lst.injEq, AV.agg.injEq, AV.tup.injEq, List.cons.injEq, true_and, and_true] at h
  obtain ⟨h0, h1⟩ := h
  replace h0 : a0 = b0 := map_inj Inj.inj _ _ h0
  replace h1 : a1 = b1 := h1
  subst h0 h1
  rfl⟩
abbrev R42.T : Type := Int
def R42.enc : R42.T → AV := (fun (x : Int) => ((.int .i64 x) : AV))
instance : Inj R42.enc := ⟨fun a b h => by
  simp only [R42.enc, AV.mp.injEq, AV.int.injEq, AV.str.injEq, AV.bool.injEq, AV.lst.injEq, AV.agg.injEq, AV.tup.injEq, List.cons.injEq, true_and, and_true] at h
  exact h⟩
abbrev R43.T : Type := Bool
def R43.enc : R43.T → AV := (fun (x : Bool) => ((.bool x) : AV))
instance : Inj R43.enc := ⟨fun a b h => by
  simp only [R43.enc, AV.mp.injEq, AV.int.injEq, AV.str.injEq, AV.bool.injEq, AV.lst.injEq, AV.agg.injEq, AV.tup.injEq, List.cons.injEq, true_and, and_true] at h
  exact h⟩
abbrev R44.T : Type := List Int
def R44.enc : R44.T → AV := (fun (x : List Int) => ((.lst 1 (List.map (eInt .i64) x)) : AV))
instance : Inj R44.enc := ⟨fun a b h => by
  simp only [R44.enc, AV.mp.injEq, AV.int.injEq, AV.str.injEq, AV.bool.injEq, AV.lst.injEq, AV.agg.injEq, AV.tup.injEq, List.cons.injEq, true_and, and_true] at h
  exact map_inj Inj.inj _ _ h⟩
abbrev R45.T : Type := List UInt8
def R45.enc : R45.T → AV := (fun (x : List UInt8) => ((.str x) : AV))
instance : Inj R45.enc := ⟨fun a b h => by
  simp only [R45.enc, AV.mp.injEq, AV.int.injEq, AV.str.injEq, AV.bool.injEq, AV.lst.injEq, AV.agg.injEq, AV.tup.injEq, List.cons.injEq, true_and, and_true] at h
  exact h⟩
abbrev R46.T : Type := List (List UInt8)
def R46.enc : R46.T → AV := (fun (x : List (List UInt8)) => ((.lst 1 (List.map eStr x)) : AV))
instance : Inj R46.enc := ⟨fun a b h => by
  simp only [R46.enc, AV.mp.injEq, AV.int.injEq, AV.str.injEq, AV.bool.injEq, AV.lst.injEq, AV.agg.injEq, AV.tup.injEq, List.cons.injEq, true_and, and_true] at h
  exact map_inj Inj.inj _ _ h⟩
abbrev R47.T : Type := Unit
def R47.enc : R47.T → AV := (fun (_ : Unit) => AV.tup [])
instance : Inj R47.enc := ⟨fun a b h => rfl⟩
abbrev R52.T : Type := List (List UInt8)
def R52.enc : R52.T → AV := (fun (x : List (List UInt8)) => ((.lst 1 (List.map eStr x)) : AV))
instance : Inj R52.enc := ⟨fun a b h => by
  simp only [R52.enc, AV.mp.injEq, AV.int.injEq, AV.str.injEq, AV.bool.injEq, AV.lst.injEq, AV.agg.injEq, AV.tup.injEq, List.cons.injEq, true_and, and_true] at h
  exact map_inj Inj.inj _ _ h⟩
abbrev R53.T : Type := List Int
def R53.enc : R53.T → AV := (fun (x : List Int) => ((.lst 1 (List.map (eInt .u64) x)) : AV))
instance : Inj R53.enc := ⟨fun a b h => by
  simp only [R53.enc, AV.mp.injEq, AV.int.injEq, AV.str.injEq, AV.bool.injEq, AV.lst.injEq, AV.agg.injEq, AV.tup.injEq, List.cons.injEq, true_and, and_true] at h
  exact map_inj Inj.inj _ _ h⟩
abbrev R54.T : Type := List (List Int)
def R54.enc : R54.T → AV := (fun (x : List (List Int)) => ((.lst 1 (List.map (eLst 1 (eInt .u64)) x)) : AV))
instance : Inj R54.enc := ⟨fun a b h => by
  simp only [R54.enc, AV.mp.injEq, AV.int.injEq, AV.str.injEq, AV.bool.injEq, AV.lst.injEq, AV.agg.injEq, AV.tup.injEq, List.cons.injEq, true_and, and_true] at h
  exact map_inj Inj.inj _ _ h⟩
abbrev R55.T : Type := List UInt8
def R55.enc : R55.T → AV := (fun (x : List UInt8) => ((.str x) : AV))
instance : Inj R55.enc := ⟨fun a b h => by
  simp only [R55.enc, AV.mp.injEq, AV.int.injEq, AV.str.injEq, AV.bool.injEq, AV.lst.injEq, AV.agg.injEq, AV.tup.injEq, List.cons.injEq, true_and, and_true] at h
  exact h⟩
abbrev R56.T : Type := Bool
def R56.enc : R56.T → AV := (fun (x : Bool) => ((.bool x) : AV))
instance : Inj R56.enc := ⟨fun a b h => by
  simp only [R56.enc, AV.mp.injEq, AV.int.injEq, AV.str.injEq, AV.bool.injEq, AV.lst.injEq, AV.agg.injEq, AV.tup.injEq, List.cons.injEq, true_and, and_true] at h
  exact h⟩
abbrev R57.T : Type := Bool
def R57.enc : R57.T → AV := (fun (x : Bool) => ((.bool x) : AV))
instance : Inj R57.enc := ⟨fun a b h => by
  simp only [R57.enc, AV.mp.injEq, AV.int.injEq, AV.str.injEq, AV.bool.injEq, AV.lst.injEq, AV.agg.injEq, AV.tup.injEq, List.cons.injEq, true_and, and_true] at h
  exact h⟩
abbrev R58.T : Type := Int
def R58.enc : R58.T → AV := (fun (x : Int) => ((.int .i64 x) : AV))
instance : Inj R58.enc := ⟨fun a b h => by
  simp only [R58.enc, AV.mp.injEq, AV.int.injEq, AV.str.injEq, AV.bool.injEq, AV.lst.injEq, AV.agg.injEq, AV.tup.injEq, List.cons.injEq, true_and, and_true] at h
  exact h⟩
abbrev R59.T : Type := Bool
def R59.enc : R59.T → AV := (fun (x : Bool) => ((.bool x) : AV))
instance : Inj R59.enc := ⟨fun a b h => by
  simp only [R59.enc, AV.mp.injEq, AV.int.injEq, AV.str.injEq, AV.bool.injEq, AV.lst.injEq, AV.agg.injEq, AV.tup.injEq, List.cons.injEq, true_and, and_true] at h
  exact h⟩
abbrev R60.T : Type := List Int
def R60.enc : R60.T → AV := (fun (x : List Int) => ((.lst 1 (List.map (eInt .u64) x)) : AV))
instance : Inj R60.enc := ⟨fun a b h => by
  simp only [R60.enc, AV.mp.injEq, AV.int.injEq, AV.str.injEq, AV.bool.injEq, AV.lst.injEq, AV.agg.injEq, AV.tup.injEq, List.cons.injEq, true_and, and_true] at h
  exact map_inj Inj.inj _ _ h⟩
abbrev R61.T : Type := List Int
def R61.enc : R61.T → AV := (fun (x : List Int) => ((.lst 1 (List.map (eInt .u64) x)) : AV))
instance : Inj R61.enc := ⟨fun a b h => by
  simp only [R61.enc, AV.mp.injEq, AV.int.injEq, AV.str.injEq, AV.bool.injEq, AV.lst.injEq, AV.agg.injEq, AV.tup.injEq, List.cons.injEq, true_and, and_true] at h
  exact map_inj Inj.inj _ _ h⟩
abbrev R62.T : Type := List Int
def R62.enc : R62.T → AV := (fun (x : List Int) => ((.lst 1 (List.map (eInt .u64) x)) : AV))
instance : Inj R62.enc := ⟨fun a b h => by
  simp only [R62.enc, AV.mp.injEq, AV.int.injEq, AV.str.injEq, AV.bool.injEq, AV.lst.injEq, AV.agg.injEq, AV.tup.injEq, List.cons.injEq, true_and, and_true] at h
  exact map_inj Inj.inj _ _ h⟩
abbrev R63.T : Type := Bool
def R63.enc : R63.T → AV := (fun (x : Bool) => ((.bool x) : AV))
instance : Inj R63.enc := ⟨fun a b h => by
  simp only [R63.enc, AV.mp.injEq, AV.int.injEq, AV.str.injEq, AV.bool.injEq, AV.lst.injEq, AV.agg.injEq, AV.tup.injEq, List.cons.injEq, true_and, and_true] at h
  exact h⟩
abbrev R64.T : Type := List Int
def R64.enc : R64.T → AV := (fun (x : List Int) => ((.lst 1 (List.map (eInt .u64) x)) : AV))
instance : Inj R64.enc := ⟨fun a b h => by
  simp only [R64.enc, AV.mp.injEq, AV.int.injEq, AV.str.injEq, AV.bool.injEq, AV.lst.injEq, AV.agg.injEq, AV.tup.injEq, List.cons.injEq, true_and, and_true] at h
  exact map_inj Inj.inj _ _ h⟩
abbrev R65.T : Type := Bool
def R65.enc : R65.T → AV := (fun (x : Bool) => ((.bool x) : AV))
instance : Inj R65.enc := ⟨fun a b h => by
  simp only [R65.enc, AV.mp.injEq, AV.int.injEq, AV.str.injEq, AV.bool.injEq, AV.lst.injEq, AV.agg.injEq, AV.tup.injEq, List.cons.injEq, true_and, and_true] at h
  exact h⟩
abbrev R66.T : Type := Bool
def R66.enc : R66.T → AV := (fun (x : Bool) => ((.bool x) : AV))
instance : Inj R66.enc := ⟨fun a b h => by
  simp only [R66.enc, AV.mp.injEq, AV.int.injEq, AV.str.injEq, AV.bool.injEq, AV.lst.injEq, AV.agg.injEq, AV.tup.injEq, List.cons.injEq, true_and, and_true] at h
  exact h⟩
abbrev R67.T : Type := Bool
def R67.enc : R67.T → AV := (fun (x : Bool) => ((.bool x) : AV))
instance : Inj R67.enc := ⟨fun a b h => by
  simp only [R67.enc, AV.mp.injEq, AV.int.injEq, AV.str.injEq, AV.bool.injEq, AV.lst.injEq, AV.agg.injEq, AV.tup.injEq, List.cons.injEq, true_and, and_true] at h
  exact h⟩
abbrev R68.T : Type := List Int
def R68.enc : R68.T → AV := (fun (x : List Int) => ((.lst 1 (List.map (eInt .u64) x)) : AV))
instance : Inj R68.enc := ⟨fun a b h => by
  simp only [R68.enc, AV.mp.injEq, AV.int.injEq, AV.str.injEq, AV.bool.injEq, AV.lst.injEq, AV.agg.injEq, AV.tup.injEq, List.cons.injEq, true_and, and_true] at h
  exact map_inj Inj.inj _ _ h⟩
abbrev R69.T : Type := Int
def R69.enc : R69.T → AV := (fun (x : Int) => ((.int .i64 x) : AV))
instance : Inj R69.enc := ⟨fun a b h => by
  simp only [R69.enc, AV.mp.injEq, AV.int.injEq, AV.str.injEq, AV.bool.injEq, AV.lst.injEq, AV.agg.injEq, AV.tup.injEq, List.cons.injEq, true_and, and_true] at h
  exact h⟩
abbrev R70.T : Type := Int
def R70.enc : R70.T → AV := (fun (x : Int) => ((.int .i64 x) : AV))
instance : Inj R70.enc := ⟨fun a b h => by
  simp only [R70.enc, AV.mp.injEq, AV.int.injEq, AV.str.injEq, AV.bool.injEq, AV.lst.injEq, AV.agg.injEq, AV.tup.injEq, List.cons.injEq, true_and, and_true] at h
  exact h⟩
abbrev R71.T : Type := Int
def R71.enc : R71.T → AV := (fun (x : Int) => ((.int .i64 x) : AV))
instance : Inj R71.enc := ⟨fun a b h => by
  simp only [R71.enc, AV.mp.injEq, AV.int.injEq, AV.str.injEq, AV.bool.injEq, AV.lst.injEq, AV.agg.injEq, AV.tup.injEq, List.cons.injEq, true_and, and_true] at h
  exact h⟩
abbrev R72.T : Type := Int
def R72.enc : R72.T → AV := (fun (x : Int) => ((.int .i64 x) : AV))
instance : Inj R72.enc := ⟨fun a b h => by
  simp only [R72.enc, AV.mp.injEq, AV.int.injEq, AV.str.injEq, AV.bool.injEq, AV.lst.injEq, AV.agg.injEq, AV.tup.injEq, List.cons.injEq, true_and, and_true] at h
  exact h⟩
abbrev R73.T : Type := List (List UInt8)
def R73.enc : R73.T → AV := (fun (x : List (List UInt8)) => ((.lst 1 (List.map eStr x)) : AV))
instance : Inj R73.enc := ⟨fun a b h => by
  simp only [R73.enc, AV.mp.injEq, AV.int.injEq, AV.str.injEq, AV.bool.injEq, AV.lst.injEq, AV.agg.injEq, AV.tup.injEq, List.cons.injEq, true_and, and_true] at h
  exact map_inj Inj.inj _ _ h⟩
abbrev R74.T : Type := List (List UInt8)
def R74.enc : R74.T → AV := (fun (x : List (List UInt8)) => ((.lst 1 (List.map eStr x)) : AV))
instance : Inj R74.enc := ⟨fun a b h => by
  simp only [R74.enc, AV.mp.injEq, AV.int.injEq, AV.str.injEq, AV.bool.injEq, AV.lst.injEq, AV.agg.injEq, AV.tup.injEq, List.cons.injEq, true_and, and_true] at h
  exact map_inj Inj.inj _ _ h⟩
abbrev R75.T : Type := List ((List UInt8) × (List (List UInt8)))
def R75.enc : R75.T → AV := (fun (x : List ((List UInt8) × (List (List UInt8)))) => ((.mp (encMap V9 V54 x).1 (encMap V9 V54 x).2) : AV))
instance : Inj R75.enc := ⟨fun a b h => by
  simp only [R75.enc, AV.mp.injEq, AV.int.injEq, AV.str.injEq, AV.bool.injEq, AV.lst.injEq, AV.agg.injEq, AV.tup.injEq, List.cons.injEq, true_and, and_true] at h
  exact encMap_inj (K := V9) (V := V54) h.1 h.2⟩
abbrev R76.T : Type := Bool
def R76.enc : R76.T → AV := (fun (x : Bool) => ((.bool x) : AV))
instance : Inj R76.enc := ⟨fun a b h => by
  simp only [R76.enc, AV.mp.injEq, AV.int.injEq, AV.str.injEq, AV.bool.injEq, AV.lst.injEq, AV.agg.injEq, AV.tup.injEq, List.cons.injEq, true_and, and_true] at h
  exact h⟩
abbrev R77.T : Type := Int
def R77.enc : R77.T → AV := (fun (x : Int) => ((.int .i64 x) : AV))
instance : Inj R77.enc := ⟨fun a b h => by
  simp only [R77.enc, AV.mp.injEq, AV.int.injEq, AV.str.injEq, AV.bool.injEq, AV.lst.injEq, AV.agg.injEq, AV.tup.injEq, List.cons.injEq, true_and, and_true] at h
  exact h⟩
abbrev R78.T : Type := Int
def R78.enc : R78.T → AV := (fun (x : Int) => ((.int .i64 x) : AV))
instance : Inj R78.enc := ⟨fun a b h => by
  simp only [R78.enc, AV.mp.injEq, AV.int.injEq, AV.str.injEq, AV.bool.injEq, AV.lst.injEq, AV.agg.injEq, AV.tup.injEq, List.cons.injEq, true_and, and_true] at h
  exact h⟩
abbrev R79.T : Type := List (List UInt8)
def R79.enc : R79.T → AV := (fun (x : List (List UInt8)) => ((.lst 1 (List.map eStr x)) : AV))
instance : Inj R79.enc := ⟨fun a b h => by
  simp only [R79.enc, AV.mp.injEq, AV.int.injEq, AV.str.injEq, AV.bool.injEq, AV.lst.injEq, AV.agg.injEq, AV.tup.injEq, List.cons.injEq, true_and, and_true] at h
  exact map_inj Inj.inj _ _ h⟩
abbrev R80.T : Type := Unit
def R80.enc : R80.T → AV := (fun (_ : Unit) => AV.tup [])
instance : Inj R80.enc := ⟨fun a b h => rfl⟩
abbrev R81.T : Type := List (List UInt8)
def R81.enc : R81.T → AV := (fun (x : List (List UInt8)) => ((.lst 1 (List.map eStr x)) : AV))
instance : Inj R81.enc := ⟨fun a b h => by
  simp only [R81.enc, AV.mp.injEq, AV.int.injEq, AV.str.injEq, AV.bool.injEq, AV.lst.injEq, AV.agg.injEq, AV.tup.injEq, List.cons.injEq, true_and, and_true] at h
  exact map_inj Inj.inj _ _ h⟩
abbrev R82.T : Type := Int × Bool
def R82.enc : R82.T → AV := (fun (x : Int × Bool) => ((.tup [(.int .i64 x.1), (.bool x.2)]) : AV))
instance : Inj R82.enc := ⟨fun a b h => by
  obtain ⟨a0, a1⟩ := a
  obtain ⟨b0, b1⟩ := b
  simp only [R82.enc, AV.mp.injEq, AV.int.injEq, AV.str.injEq, AV.bool.injEq, AV.lst.injEq, AV.agg.injEq, AV.tup.injEq, List.cons.injEq, true_and, and_true] at h
  obtain ⟨h0, h1⟩ := h
  replace h0 : a0 = b0 := h0
  replace h1 : a1 = b1 := h1
  subst h0 h1
  rfl⟩
abbrev R83.T : Type := (List Int) × Int
def R83.enc : R83.T → AV := (fun (x : (List Int) × Int) => ((.tup [(.lst 1 (List.map (eInt .u64) x.1)), (.int .i64 x.2)]) : AV))
instance : Inj R83.enc := ⟨fun a b h => by
  obtain ⟨a0, a1⟩ := a
  obtain ⟨b0, b1⟩ := b
  simp only [R83.enc, AV.mp.injEq, AV.int.injEq, AV.str.injEq, AV.bool.injEq, AV.lst.injEq, AV.agg.injEq, AV.tup.injEq, List.cons.injEq, true_and, and_true] at h
  obtain ⟨h0, h1⟩ := h
  replace h0 : a0 = b0 := map_inj Inj.inj _ _ h0
  replace h1 : a1 = b1 := h1
  subst h0 h1
  rfl⟩
abbrev R84.T : Type := Unit
def R84.enc : R84.T → AV := (fun (_ : Unit) => AV.tup [])
instance : Inj R84.enc := ⟨fun a b h => rfl⟩
abbrev R85.T : Type := List UInt8
def R85.enc : R85.T → AV := (fun (x : List UInt8) => ((.str x) : AV))
instance : Inj R85.enc := ⟨fun a b h => by
  simp only [R85.enc, AV.mp.injEq, AV.int.injEq, AV.str.injEq, AV.bool.injEq, AV.lst.injEq, AV.agg.injEq, AV.tup.injEq, List.cons.injEq, true_and, and_true] at h
  exact h⟩
abbrev R86.T : Type := Int
def R86.enc : R86.T → AV := (fun (x : Int) => ((.int .i64 x) : AV))
instance : Inj R86.enc := ⟨fun a b h => by
  simp only [R86.enc, AV.mp.injEq, AV.int.injEq, AV.str.injEq, AV.bool.injEq, AV.lst.injEq, AV.agg.injEq, AV.tup.injEq, List.cons.injEq, true_and, and_true] at h
  exact h⟩
abbrev R90.T : Type := List (List UInt8)
def R90.enc : R90.T → AV := (fun (x : List (List UInt8)) => ((.lst 1 (List.map eStr x)) : AV))
instance : Inj R90.enc := ⟨fun a b h => by
  simp only [R90.enc, AV.mp.injEq, AV.int.injEq, AV.str.injEq, AV.bool.injEq, AV.lst.injEq, AV.agg.injEq, AV.tup.injEq, List.cons.injEq, true_and, and_true] at h
  exact map_inj Inj.inj _ _ h⟩
abbrev R91.T : Type := Bool
def R91.enc : R91.T → AV := (fun (x : Bool) => ((.bool x) : AV))
instance : Inj R91.enc := ⟨fun a b h => by
  simp only [R91.enc, AV.mp.injEq, AV.int.injEq, AV.str.injEq, AV.bool.injEq, AV.lst.injEq, AV.agg.injEq, AV.tup.injEq, List.cons.injEq, true_and, and_true] at h
  exact h⟩
abbrev R92.T : Type := Bool
def R92.enc : R92.T → AV := (fun (x : Bool) => ((.bool x) : AV))
instance : Inj R92.enc := ⟨fun a b h => by
  simp only [R92.enc, AV.mp.injEq, AV.int.injEq, AV.str.injEq, AV.bool.injEq, AV.lst.injEq, AV.agg.injEq, AV.tup.injEq, List.cons.injEq, true_and, and_true] at h
  exact h⟩
abbrev R93.T : Type := Bool
def R93.enc : R93.T → AV := (fun (x : Bool) => ((.bool x) : AV))
instance : Inj R93.enc := ⟨fun a b h => by
  simp only [R93.enc, AV.mp.injEq, AV.int.injEq, AV.str.injEq, AV.bool.injEq, AV.lst.injEq, AV.agg.injEq, AV.tup.injEq, List.cons.injEq, true_and, and_true] at h
  exact h⟩
abbrev R97.T : Type := Bool
def R97.enc : R97.T → AV := (fun (x : Bool) => ((.bool x) : AV))
instance : Inj R97.enc := ⟨fun a b h => by
  simp only [R97.enc, AV.mp.injEq, AV.int.injEq, AV.str.injEq, AV.bool.injEq, AV.lst.injEq, AV.agg.injEq, AV.tup.injEq, List.cons.injEq, true_and, and_true] at h
  exact h⟩
abbrev R98.T : Type := List (List UInt8)
def R98.enc : R98.T → AV := (fun (x : List (List UInt8)) => ((.lst 1 (List.map eStr x)) : AV))
instance : Inj R98.enc := ⟨fun a b h => by
  simp only [R98.enc, AV.mp.injEq, AV.int.injEq, AV.str.injEq, AV.bool.injEq, AV.lst.injEq, AV.agg.injEq, AV.tup.injEq, List.cons.injEq, true_and, and_true] at h
  exact map_inj Inj.inj _ _ h⟩
abbrev R99.T : Type := List (List UInt8)
def R99.enc : R99.T → AV := (fun (x : List (List UInt8)) => ((.lst 1 (List.map eStr x)) : AV))
instance : Inj R99.enc := ⟨fun a b h => by
  simp only [R99.enc, AV.mp.injEq, AV.int.injEq, AV.str.injEq, AV.bool.injEq, AV.lst.injEq, AV.agg.injEq, AV.tup.injEq, List.cons.injEq, true_and, and_true] at h
  exact map_inj Inj.inj _ _ h⟩
abbrev R100.T : Type := (List Int) × Int
def R100.enc : R100.T → AV := (fun (x : (List Int) × Int) => ((.tup [(.lst 1 (List.map (eInt .u64) x.1)), (.int .i64 x.2)]) : AV))
instance : Inj R100.enc := ⟨fun a b h => by
  obtain ⟨a0, a1⟩ := a
  obtain ⟨b0, b1⟩ := b
  simp only [R100.enc, AV.mp.injEq, AV.int.injEq, AV.str.injEq, AV.bool.injEq, AV.lst.injEq, AV.agg.injEq, AV.tup.injEq, List.cons.injEq, true_and, and_true] at h
  obtain ⟨h0, h1⟩ := h
  replace h0 : a0 = b0 := map_inj Inj.inj _ _ h0
  replace h1 : a1 = b1 := h1
  subst h0 h1
  rfl⟩
abbrev R101.T : Type := Bool
def R101.enc : R101.T → AV := (fun (x : Bool) => ((.bool x) : AV))
instance : Inj R101.enc := ⟨fun a b h => by
  simp only [R101.enc, AV.mp.injEq, AV.int.injEq, AV.str.injEq, AV.bool.injEq, AV.lst.injEq, AV.agg.injEq, AV.tup.injEq, List.cons.injEq, true_and, and_true] at h
  exact h⟩
abbrev R102.T : Type := Bool
def R102.enc : R102.T → AV := (fun (x : Bool) => ((.bool x) : AV))
instance : Inj R102.enc := ⟨fun a b h => by
  simp only [R102.enc, AV.mp.injEq, AV.int.injEq, AV.str.injEq, AV.bool.injEq, AV.lst.injEq, AV.agg.injEq, AV.tup.injEq, List.cons.injEq, true_and, and_true] at h
  exact h⟩
abbrev R103.T : Type := Bool
def R103.enc : R103.T → AV := (fun (x : Bool) => ((.bool x) : AV))
instance : Inj R103.enc := ⟨fun a b h => by
  simp only [R103.enc, AV.mp.injEq, AV.int.injEq, AV.str.injEq, AV.bool.injEq, AV.lst.injEq, AV.agg.injEq, AV.tup.injEq, List.cons.injEq, true_and, and_true] at h
  exact h⟩
abbrev R104.T : Type := List (List UInt8)
def R104.enc : R104.T → AV := (fun (x : List (List UInt8)) => ((.lst 1 (List.map eStr x)) : AV))
instance : Inj R104.enc := ⟨fun a b h => by
  simp only [R104.enc, AV.mp.injEq, AV.int.injEq, AV.str.injEq, AV.bool.injEq, AV.lst.injEq, AV.agg.injEq, AV.tup.injEq, List.cons.injEq, true_and, and_true] at h
  exact map_inj Inj.inj _ _ h⟩
abbrev R105.T : Type := Int
def R105.enc : R105.T → AV := (fun (x : Int) => ((.int .i64 x) : AV))
instance : Inj R105.enc := ⟨fun a b h => by
  simp only [R105.enc, AV.mp.injEq, AV.int.injEq, AV.str.injEq, AV.bool.injEq, AV.lst.injEq, AV.agg.injEq, AV.tup.injEq, List.cons.injEq, true_and, and_true] at h
  exact h⟩
abbrev R106.T : Type := Int
def R106.enc : R106.T → AV := (fun (x : Int) => ((.int .u64 x) : AV))
instance : Inj R106.enc := ⟨fun a b h => by
  simp only [R106.enc, AV.mp.injEq, AV.int.injEq, AV.str.injEq, AV.bool.injEq, AV.lst.injEq, AV.agg.injEq, AV.tup.injEq, List.cons.injEq, true_and, and_true] at h
  exact h⟩
abbrev R107.T : Type := Int
def R107.enc : R107.T → AV := (fun (x : Int) => ((.int .u64 x) : AV))
instance : Inj R107.enc := ⟨fun a b h => by
  simp only [R107.enc, AV.mp.injEq, AV.int.injEq, AV.str.injEq, AV.bool.injEq, AV.lst.injEq, AV.agg.injEq, AV.tup.injEq, List.cons.injEq, true_and, and_true] at h
  exact h⟩
abbrev R108.T : Type := List Int
def R108.enc : R108.T → AV := (fun (x : List Int) => ((.lst 1 (List.map (eInt .u64) x)) : AV))
instance : Inj R108.enc := ⟨fun a b h => by
  simp only [R108.enc, AV.mp.injEq, AV.int.injEq, AV.str.injEq, AV.bool.injEq, AV.lst.injEq, AV.agg.injEq, AV.tup.injEq, List.cons.injEq, true_and, and_true] at h
  exact map_inj Inj.inj _ _ h⟩
abbrev R109.T : Type := Int
def R109.enc : R109.T → AV := (fun (x : Int) => ((.int .i64 x) : AV))
instance : Inj R109.enc := ⟨fun a b h => by
  simp only [R109.enc, AV.mp.injEq, AV.int.injEq, AV.str.injEq, AV.bool.injEq, AV.lst.injEq, AV.agg.injEq, AV.tup.injEq, List.cons.injEq, true_and, and_true] at h
  exact h⟩
abbrev R110.T : Type := Bool
def R110.enc : R110.T → AV := (fun (x : Bool) => ((.bool x) : AV))
instance : Inj R110.enc := ⟨fun a b h => by
  simp only [R110.enc, AV.mp.injEq, AV.int.injEq, AV.str.injEq, AV.bool.injEq, AV.lst.injEq, AV.agg.injEq, AV.tup.injEq, List.cons.injEq, true_and, and_true] at h
  exact h⟩
abbrev R111.T : Type := Int
def R111.enc : R111.T → AV := (fun (x : Int) => ((.int .i64 x) : AV))
instance : Inj R111.enc := ⟨fun a b h => by
  simp only [R111.enc, AV.mp.injEq, AV.int.injEq, AV.str.injEq, AV.bool.injEq, AV.lst.injEq, AV.agg.injEq, AV.tup.injEq, List.cons.injEq, true_and, and_true] at h
  exact h⟩
abbrev R112.T : Type := Bool
def R112.enc : R112.T → AV := (fun (x : Bool) => ((.bool x) : AV))
instance : Inj R112.enc := ⟨fun a b h => by
  simp only [R112.enc, AV.mp.injEq, AV.int.injEq, AV.str.injEq, AV.bool.injEq, AV.lst.injEq, AV.agg.injEq, AV.tup.injEq, List.cons.injEq, true_and, and_true] at h
  exact h⟩
abbrev R113.T : Type := Bool
def R113.enc : R113.T → AV := (fun (x : Bool) => ((.bool x) : AV))
instance : Inj R113.enc := ⟨fun a b h => by
  simp only [R113.enc, AV.mp.injEq, AV.int.injEq, AV.str.injEq, AV.bool.injEq, AV.lst.injEq, AV.agg.injEq, AV.tup.injEq, List.cons.injEq, true_and, and_true] at h
  exact h⟩
abbrev R114.T : Type := Bool
def R114.enc : R114.T → AV := (fun (x : Bool) => ((.bool x) : AV))
instance : Inj R114.enc := ⟨fun a b h => by
  simp only [R114.enc, AV.mp.injEq, AV.int.injEq, AV.str.injEq, AV.bool.injEq, AV.lst.injEq, AV.agg.injEq, AV.tup.injEq, List.cons.injEq, true_and, and_true] at h
  exact h⟩
abbrev R115.T : Type := Bool
def R115.enc : R115.T → AV := (fun (x : Bool) => ((.bool x) : AV))
instance : Inj R115.enc := ⟨fun a b h => by
  simp only [R115.enc, AV.mp.injEq, AV.int.injEq, AV.str.injEq, AV.bool.injEq, AV.lst.injEq, AV.agg.injEq, AV.tup.injEq, List.cons.injEq, true_and, and_true] at h
  exact h⟩
abbrev R116.T : Type := List UInt8
def R116.enc : R116.T → AV := (fun (x : List UInt8) => ((.str x) : AV))
instance : Inj R116.enc := ⟨fun a b h => by
  simp only [R116.enc, AV.mp.injEq, AV.int.injEq, AV.str.injEq, AV.bool.injEq, AV.lst.injEq, AV.agg.injEq, AV.tup.injEq, List.cons.injEq, true_and, and_true] at h
  exact h⟩
abbrev R117.T : Type := Nat
def R117.enc : R117.T → AV := (fun (x : Nat) => (AV.self x : AV))
instance : Inj R117.enc := ⟨fun a b h => by
  simp only [R117.enc, AV.self.injEq] at h
  exact h⟩
abbrev R118.T : Type := Bool
def R118.enc : R118.T → AV := (fun (x : Bool) => ((.bool x) : AV))
instance : Inj R118.enc := ⟨fun a b h => by
  simp only [R118.enc, AV.mp.injEq, AV.int.injEq, AV.str.injEq, AV.bool.injEq, AV.lst.injEq, AV.agg.injEq, AV.tup.injEq, List.cons.injEq, true_and, and_true] at h
  exact h⟩
abbrev R120.T : Type := Bool
def R120.enc : R120.T → AV := (fun (x : Bool) => ((.bool x) : AV))
instance : Inj R120.enc := ⟨fun a b h => by
  simp only [R120.enc, AV.mp.injEq, AV.int.injEq, AV.str.injEq, AV.bool.injEq, AV.lst.injEq, AV.agg.injEq, AV.tup.injEq, List.cons.injEq, true_and, and_true] at h
  exact h⟩
abbrev R121.T : Type := Bool
def R121.enc : R121.T → AV := (fun (x : Bool) => ((.bool x) : AV))
instance : Inj R121.enc := ⟨fun a b h => by
  simp only [R121.enc, AV.mp.injEq, AV.int.injEq, AV.str.injEq, AV.bool.injEq, AV.lst.injEq, AV.agg.injEq, AV.tup.injEq, List.cons.injEq, true_and, and_true] at h
  exact h⟩
abbrev R124.T : Type := Nat
def R124.enc : R124.T → AV := (fun (x : Nat) => (AV.self x : AV))
instance : Inj R124.enc := ⟨fun a b h => by
  simp only [R124.enc, AV.self.injEq] at h
  exact h⟩
abbrev R125.T : Type := Int
def R125.enc : R125.T → AV := (fun (x : Int) => ((.int .i64 x) : AV))
instance : Inj R125.enc := ⟨fun a b h => by
  simp only [R125.enc, AV.mp.injEq, AV.int.injEq, AV.str.injEq, AV.bool.injEq, AV.lst.injEq, AV.agg.injEq, AV.tup.injEq, List.cons.injEq, true_and, and_true] at h
  exact h⟩
abbrev R126.T : Type := Int
def R126.enc : R126.T → AV := (fun (x : Int) => ((.int .i64 x) : AV))
instance : Inj R126.enc := ⟨fun a b h => by
  simp only [R126.enc, AV.mp.injEq, AV.int.injEq, AV.str.injEq, AV.bool.injEq, AV.lst.injEq, AV.agg.injEq, AV.tup.injEq, List.cons.injEq, true_and, and_true] at h
  exact h⟩
abbrev R137.T : Type := List (List UInt8)
def R137.enc : R137.T → AV := (fun (x : List (List UInt8)) => ((.lst 1 (List.map eStr x)) : AV))
instance : Inj R137.enc := ⟨fun a b h => by
  simp only [R137.enc, AV.mp.injEq, AV.int.injEq, AV.str.injEq, AV.bool.injEq, AV.lst.injEq, AV.agg.injEq, AV.tup.injEq, List.cons.injEq, true_and, and_true] at h
  exact map_inj Inj.inj _ _ h⟩
abbrev R138.T : Type := List (List UInt8)
def R138.enc : R138.T → AV := (fun (x : List (List UInt8)) => ((.lst 1 (List.map eStr x)) : AV))
instance : Inj R138.enc := ⟨fun a b h => by
  simp only [R138.enc, AV.mp.injEq, AV.int.injEq, AV.str.injEq, AV.bool.injEq, AV.lst.injEq, AV.agg.injEq, AV.tup.injEq, List.cons.injEq, true_and, and_true] at h
  exact map_inj Inj.inj _ _ h⟩
abbrev R139.T : Type := List Int
def R139.enc : R139.T → AV := (fun (x : List Int) => ((.lst 1 (List.map (eInt .i64) x)) : AV))
instance : Inj R139.enc := ⟨fun a b h => by
  simp only [R139.enc, AV.mp.injEq, AV.int.injEq, AV.str.injEq, AV.bool.injEq, AV.lst.injEq, AV.agg.injEq, AV.tup.injEq, List.cons.injEq, true_and, and_true] at h
  exact map_inj Inj.inj _ _ h⟩
abbrev R140.T : Type := Bool
def R140.enc : R140.T → AV := (fun (x : Bool) => ((.bool x) : AV))
instance : Inj R140.enc := ⟨fun a b h => by
  simp only [R140.enc, AV.mp.injEq, AV.int.injEq, AV.str.injEq, AV.bool.injEq, AV.lst.injEq, AV.agg.injEq, AV.tup.injEq, List.cons.injEq, true_and, and_true] at h
  exact h⟩
abbrev R141.T : Type := Int
def R141.enc : R141.T → AV := (fun (x : Int) => ((.int .i64 x) : AV))
instance : Inj R141.enc := ⟨fun a b h => by
  simp only [R141.enc, AV.mp.injEq, AV.int.injEq, AV.str.injEq, AV.bool.injEq, AV.lst.injEq, AV.agg.injEq, AV.tup.injEq, List.cons.injEq, true_and, and_true] at h
  exact h⟩
abbrev R142.T : Type := Bool
def R142.enc : R142.T → AV := (fun (x : Bool) => ((.bool x) : AV))
instance : Inj R142.enc := ⟨fun a b h => by
  simp only [R142.enc, AV.mp.injEq, AV.int.injEq, AV.str.injEq, AV.bool.injEq, AV.lst.injEq, AV.agg.injEq, AV.tup.injEq, List.cons.injEq, true_and, and_true] at h
  exact h⟩
abbrev R143.T : Type := Bool
def R143.enc : R143.T → AV := (fun (x : Bool) => ((.bool x) : AV))
instance : Inj R143.enc := ⟨fun a b h => by
  simp only [R143.enc, AV.mp.injEq, AV.int.injEq, AV.str.injEq, AV.bool.injEq, AV.lst.injEq, AV.agg.injEq, AV.tup.injEq, List.cons.injEq, true_and, and_true] at h
  exact h⟩
abbrev R159.T : Type := Bool
def R159.enc : R159.T → AV := (fun (x : Bool) => ((.bool x) : AV))
instance : Inj R159.enc := ⟨fun a b h => by
  simp only [R159.enc, AV.mp.injEq, AV.int.injEq, AV.str.injEq, AV.bool.injEq, AV.lst.injEq, AV.agg.injEq, AV.tup.injEq, List.cons.injEq, true_and, and_true] at h
  exact h⟩
abbrev R160.T : Type := Bool
def R160.enc : R160.T → AV := (fun (x : Bool) => ((.bool x) : AV))
instance : Inj R160.enc := ⟨fun a b h => by
  simp only [R160.enc, AV.mp.injEq, AV.int.injEq, AV.str.injEq, AV.bool.injEq, AV.lst.injEq, AV.agg.injEq, AV.tup.injEq, List.cons.injEq, true_and, and_true] at h
  exact h⟩
abbrev R161.T : Type := Bool
def R161.enc : R161.T → AV := (fun (x : Bool) => ((.bool x) : AV))
instance : Inj R161.enc := ⟨fun a b h => by
  simp only [R161.enc, AV.mp.injEq, AV.int.injEq, AV.str.injEq, AV.bool.injEq, AV.lst.injEq, AV.agg.injEq, AV.tup.injEq, List.cons.injEq, true_and, and_true] at h
  exact h⟩
abbrev R166.T : Type := Bool
def R166.enc : R166.T → AV := (fun (x : Bool) => ((.bool x) : AV))
instance : Inj R166.enc := ⟨fun a b h => by
  simp only [R166.enc, AV.mp.injEq, AV.int.injEq, AV.str.injEq, AV.bool.injEq, AV.lst.injEq, AV.agg.injEq, AV.tup.injEq, List.cons.injEq, true_and, and_true] at h
  exact h⟩
abbrev R167.T : Type := Bool
def R167.enc : R167.T → AV := (fun (x : Bool) => ((.bool x) : AV))
instance : Inj R167.enc := ⟨fun a b h => by
  simp only [R167.enc, AV.mp.injEq, AV.int.injEq, AV.str.injEq, AV.bool.injEq, AV.lst.injEq, AV.agg.injEq, AV.tup.injEq, List.cons.injEq, true_and, and_true] at h
  exact h⟩
def elems : List (Nat × Cod) := [(57, C57), (36, C36), (37, C37), (3, C3), (4, C4), (9, C9), (184, C184), (5, C5), (31, C31)]
def vals : List (Nat × CodR) := [(3, V3), (4, V4), (9, V9), (54, V54)]
def ress : List (Nat × CodR) := [(3, ⟨R3.T, R3.enc⟩), (4, ⟨R4.T, R4.enc⟩), (5, ⟨R5.T, R5.enc⟩), (6, ⟨R6.T, R6.enc⟩), (7, ⟨R7.T, R7.enc⟩), (8, ⟨R8.T, R8.enc⟩), (9, ⟨R9.T, R9.enc⟩), (11, ⟨R11.T, R11.enc⟩), (12, ⟨R12.T, R12.enc⟩), (13, ⟨R13.T, R13.enc⟩), (14, ⟨R14.T, R14.enc⟩), (15, ⟨R15.T, R15.enc⟩), (16, ⟨R16.T, R16.enc⟩), (17, ⟨R17.T, R17.enc⟩), (18, ⟨R18.T, R18.enc⟩), (19, ⟨R19.T, R19.enc⟩), (20, ⟨R20.T, R20.enc⟩), (21, ⟨R21.T, R21.enc⟩), (22, ⟨R22.T, R22.enc⟩), (23, ⟨R23.T, R23.enc⟩), (24, ⟨R24.T, R24.enc⟩), (25, ⟨R25.T, R25.enc⟩), (26, ⟨R26.T, R26.enc⟩), (27, ⟨R27.T, R27.enc⟩), (28, ⟨R28.T, R28.enc⟩), (29, ⟨R29.T, R29.enc⟩), (30, ⟨R30.T, R30.enc⟩), (31, ⟨R31.T, R31.enc⟩), (32, ⟨R32.T, R32.enc⟩), (33, ⟨R33.T, R33.enc⟩), (35, ⟨R35.T, R35.enc⟩), (36, ⟨R36.T, R36.enc⟩), (37, ⟨R37.T, R37.enc⟩), (38, ⟨R38.T, R38.enc⟩), (39, ⟨R39.T, R39.enc⟩), (40, ⟨R40.T, R40.enc⟩), (41, ⟨R41.T, R41.enc⟩), (42, ⟨R42.T, R42.enc⟩), (43, ⟨R43.T, R43.enc⟩), (44, ⟨R44.T, R44.enc⟩), (45, ⟨R45.T, R45.enc⟩), (46, ⟨R46.T, R46.enc⟩), (47, ⟨R47.T, R47.enc⟩), (52, ⟨R52.T, R52.enc⟩), (53, ⟨R53.T, R53.enc⟩), (54, ⟨R54.T, R54.enc⟩), (55, ⟨R55.T, R55.enc⟩), (56, ⟨R56.T, R56.enc⟩), (57, ⟨R57.T, R57.enc⟩), (58, ⟨R58.T, R58.enc⟩), (59, ⟨R59.T, R59.enc⟩), (60, ⟨R60.T, R60.enc⟩), (61, ⟨R61.T, R61.enc⟩), (62, ⟨R62.T, R62.enc⟩), (63, ⟨R63.T, R63.enc⟩), (64, ⟨R64.T, R64.enc⟩), (65, ⟨R65.T, R65.enc⟩), (66, ⟨R66.T, R66.enc⟩), (67, ⟨R67.T, R67.enc⟩), (68, ⟨R68.T, R68.enc⟩), (69, ⟨R69.T, R69.enc⟩), (70, ⟨R70.T, R70.enc⟩), (71, ⟨R71.T, R71.enc⟩), (72, ⟨R72.T, R72.enc⟩), (73, ⟨R73.T, R73.enc⟩), (74, ⟨R74.T, R74.enc⟩), (75, ⟨R75.T, R75.enc⟩), (76, ⟨R76.T, R76.enc⟩), (77, ⟨R77.T, R77.enc⟩), (78, ⟨R78.T, R78.enc⟩), (79, ⟨R79.T, R79.enc⟩), (80, ⟨R80.T, R80.enc⟩), (81, ⟨R81.T, R81.enc⟩), (82, ⟨R82.T, R82.enc⟩), (83, ⟨R83.T, R83.enc⟩), (84, ⟨R84.T, R84.enc⟩), (85, ⟨R85.T, R85.enc⟩), (86, ⟨R86.T, R86.enc⟩), (90, ⟨R90.T, R90.enc⟩), (91, ⟨R91.T, R91.enc⟩), (92, ⟨R92.T, R92.enc⟩), (93, ⟨R93.T, R93.enc⟩), (97, ⟨R97.T, R97.enc⟩), (98, ⟨R98.T, R98.enc⟩), (99, ⟨R99.T, R99.enc⟩), (100, ⟨R100.T, R100.enc⟩), (101, ⟨R101.T, R101.enc⟩), (102, ⟨R102.T, R102.enc⟩), (103, ⟨R103.T, R103.enc⟩), (104, ⟨R104.T, R104.enc⟩), (105, ⟨R105.T, R105.enc⟩), (106, ⟨R106.T, R106.enc⟩), (107, ⟨R107.T, R107.enc⟩), (108, ⟨R108.T, R108.enc⟩), (109, ⟨R109.T, R109.enc⟩), (110, ⟨R110.T, R110.enc⟩), (111, ⟨R111.T, R111.enc⟩), (112, ⟨R112.T, R112.enc⟩), (113, ⟨R113.T, R113.enc⟩), (114, ⟨R114.T, R114.enc⟩), (115, ⟨R115.T, R115.enc⟩), (116, ⟨R116.T, R116.enc⟩), (117, ⟨R117.T, R117.enc⟩), (118, ⟨R118.T, R118.enc⟩), (120, ⟨R120.T, R120.enc⟩), (121, ⟨R121.T, R121.enc⟩), (124, ⟨R124.T, R124.enc⟩), (125, ⟨R125.T, R125.enc⟩), (126, ⟨R126.T, R126.enc⟩), (137, ⟨R137.T, R137.enc⟩), (138, ⟨R138.T, R138.enc⟩), (139, ⟨R139.T, R139.enc⟩), (140, ⟨R140.T, R140.enc⟩), (141, ⟨R141.T, R141.enc⟩), (142, ⟨R142.T, R142.enc⟩), (143, ⟨R143.T, R143.enc⟩), (159, ⟨R159.T, R159.enc⟩), (160, ⟨R160.T, R160.enc⟩), (161, ⟨R161.T, R161.enc⟩), (166, ⟨R166.T, R166.enc⟩), (167, ⟨R167.T, R167.enc⟩)]
def cods : Cods := { elem := findC elems, val := findC vals, res := findC ress }
def hints : List (Nat × Hint) := [
  (3, { loops := [], rows := [], pubs := [3, 5], byref := [] }),
  (4, { loops := [], rows := [36], pubs := [7], byref := [] }),
  (5, { loops := [], rows := [], pubs := [7], byref := [] }),
  (6, { loops := [(14, [8, 9, 11, 13, 14, 130, 131], [])], rows := [], pubs := [7, 11, 15], byref := [] }),
  (7, { loops := [(7, [3, 29, 30], []), (12, [3, 5, 29, 30, 47, 48], [])], rows := [], pubs := [3], byref := [] }),
  (8, { loops := [], rows := [], pubs := [5], byref := [] }),
  (9, { loops := [(8, [5, 6, 9, 10, 11], [29, 34]), (14, [5, 6, 9, 10, 11, 69, 70, 71], [29, 34]), (23, [5, 6, 9, 99, 100], [29])], rows := [29, 34], pubs := [5, 12], byref := [] }),
  (10, { loops := [(4, [3, 4, 5], [16]), (8, [3, 4, 6], [16]), (12, [3, 4, 6, 7, 8], [7, 16, 5112, 5113, 5114, 5115, 5116, 5117])], rows := [7, 16], pubs := [9], byref := [] }),
  (11, { loops := [(7, [0, 3, 32, 33], []), (12, [0, 3, 6, 7, 32, 33, 51, 52], [])], rows := [], pubs := [3, 6], byref := [] }),
  (13, { loops := [], rows := [], pubs := [1, 2, 4], byref := [] }),
  (14, { loops := [(10, [0, 5, 6, 9, 34, 35, 36], [9]), (18, [0, 5, 6, 9, 12, 14, 34, 35, 36, 53, 54, 55], [9, 12, 14])], rows := [9, 14], pubs := [5, 6, 7], byref := [77] }),
  (15, { loops := [(7, [0, 5, 6, 7], [6]), (15, [0, 5, 6, 8, 9, 10], [6]), (19, [0, 5, 6, 8, 9, 10, 11, 12], [6, 11])], rows := [6, 13], pubs := [5, 8, 9], byref := [] }),
  (16, { loops := [(4, [0, 1, 5], [])], rows := [], pubs := [], byref := [] }),
  (17, { loops := [], rows := [], pubs := [10], byref := [] }),
  (19, { loops := [(3, [0, 5, 6], [])], rows := [], pubs := [5], byref := [] }),
  (22, { loops := [(4, [0, 7, 8, 26, 27, 28], [])], rows := [], pubs := [7, 8], byref := [] }),
  (23, { loops := [(4, [0, 7, 8, 9], [])], rows := [], pubs := [7, 8], byref := [] }),
  (26, { loops := [(4, [0, 1, 5], [])], rows := [], pubs := [], byref := [] }),
  (27, { loops := [(3, [1, 2, 5, 6, 12, 13], [2, 5, 6]), (9, [2, 5, 6, 30, 31, 32], [2, 5, 6])], rows := [5, 6], pubs := [], byref := [], pubAt := [(8, [2])] }),
  (28, { loops := [(3, [0, 1, 5, 6], [5]), (8, [0, 1, 5, 6, 7, 8], [5])], rows := [5], pubs := [], byref := [] }),
  (29, { loops := [(3, [0, 1, 5, 14, 15], [12])], rows := [12], pubs := [], byref := [] }),
  (30, { loops := [(3, [3, 6, 7, 8], [])], rows := [], pubs := [], byref := [] }),
  (32, { loops := [(12, [0, 6, 7], [])], rows := [], pubs := [], byref := [] }),
  (36, { loops := [(2, [0, 1, 7, 8], [])], rows := [], pubs := [], byref := [] }),
  (37, { loops := [(2, [0, 1, 5], [])], rows := [], pubs := [], byref := [] }),
  (38, { loops := [(4, [0, 3], [])], rows := [], pubs := [], byref := [] }),
  (39, { loops := [(11, [0, 5, 20, 21, 22], [])], rows := [], pubs := [], byref := [] }),
  (40, { loops := [(3, [0, 4, 15, 16, 17], [4]), (10, [0, 4, 7, 32, 33, 34], [4, 31]), (14, [0, 4, 7, 8, 10, 32, 33, 34, 41, 42, 43], [4, 10, 31])], rows := [4, 10, 31], pubs := [], byref := [27] }),
  (41, { loops := [(5, [5, 6, 13, 14, 15], [4, 5, 11, 5080, 5081, 5082, 5083, 5084, 5085]), (10, [5, 6, 9], [4, 5, 11, 5080, 5081, 5082, 5083, 5084, 5085]), (13, [5, 6, 9, 10], [4, 5, 11, 5080, 5081, 5082, 5083, 5084, 5085])], rows := [5], pubs := [8], byref := [12] }),
  (42, { loops := [(2, [1, 7, 8, 9], [])], rows := [], pubs := [6], byref := [] }),
  (44, { loops := [(3, [3, 6, 7, 8], [3]), (5, [3, 4, 5, 6, 7, 8], [3])], rows := [3], pubs := [], byref := [] }),
  (45, { loops := [(12, [0, 1, 5, 39, 40, 41], []), (22, [1, 8, 63, 64, 65], [8])], rows := [], pubs := [], byref := [] }),
  (46, { loops := [(5, [5, 6, 7, 17, 18, 19], [7])], rows := [7], pubs := [5], byref := [] }),
  (47, { loops := [], rows := [], pubs := [], byref := [7] }),
  (49, { loops := [(3, [3, 6, 7, 8], [])], rows := [], pubs := [], byref := [] }),
  (52, { loops := [(3, [0, 3, 4], [])], rows := [], pubs := [3], byref := [] }),
  (53, { loops := [(4, [1, 7, 8, 9], [8])], rows := [8], pubs := [7, 10], byref := [] }),
  (54, { loops := [(3, [3, 4], [7]), (6, [3, 4, 5], [7])], rows := [7], pubs := [6], byref := [] }),
  (55, { loops := [(3, [0, 1, 2, 3, 9, 10], [9]), (12, [9, 11, 12], [9])], rows := [9], pubs := [], byref := [] }),
  (57, { loops := [(4, [0, 1, 5], [])], rows := [], pubs := [], byref := [] }),
  (58, { loops := [(2, [1, 7, 8, 9], [])], rows := [], pubs := [], byref := [] }),
  (60, { loops := [(2, [0, 3], [])], rows := [18], pubs := [], byref := [] }),
  (61, { loops := [(3, [0, 1, 5, 6], [5])], rows := [5], pubs := [], byref := [] }),
  (62, { loops := [(3, [0, 1, 5, 14, 15], [12])], rows := [12], pubs := [], byref := [] }),
  (63, { loops := [(2, [1, 7, 8, 9], [])], rows := [], pubs := [], byref := [] }),
  (64, { loops := [(3, [0, 1, 5, 6], [5])], rows := [5], pubs := [], byref := [] }),
  (68, { loops := [(2, [0, 3], [])], rows := [], pubs := [], byref := [] }),
  (70, { loops := [(4, [0, 3], [])], rows := [], pubs := [], byref := [] }),
  (71, { loops := [(2, [0, 3], [])], rows := [], pubs := [], byref := [] }),
  (72, { loops := [(2, [0, 3], []), (6, [0, 3, 4, 5], [])], rows := [], pubs := [4], byref := [] }),
  (73, { loops := [(3, [0, 3, 4], [3]), (7, [0, 3, 4, 5, 6], [3])], rows := [3], pubs := [], byref := [] }),
  (74, { loops := [(7, [0, 7, 8, 9], [20, 24]), (10, [0, 7, 8, 9, 36, 37, 38], [20, 24])], rows := [24], pubs := [5], byref := [53] }),
  (75, { loops := [(3, [3, 9, 10, 11], [8])], rows := [], pubs := [], byref := [] }),
  (77, { loops := [(3, [3, 9, 10, 11], [8])], rows := [], pubs := [], byref := [] }),
  (78, { loops := [(3, [3, 12, 13, 14], []), (6, [3, 5, 12, 13, 14, 19, 20, 21], [5])], rows := [], pubs := [8], byref := [] }),
  (79, { loops := [(5, [3, 4, 5, 18, 19, 20], [5, 16, 17]), (11, [3, 4, 5, 7, 18, 19, 20, 40, 41, 42], [5, 7, 16, 17]), (17, [3, 4, 5, 10], [5, 10, 16, 17]), (22, [3, 4, 5, 10, 71, 72, 73], [5, 10, 16, 17])], rows := [5, 10, 17, 46, 48], pubs := [], byref := [62], pubAt := [(16, [17])] }),
  (80, { loops := [], rows := [], pubs := [], byref := [5] }),
  (81, { loops := [(3, [1, 5, 15, 16, 17], [14]), (9, [1, 5, 7, 15, 16, 17, 34, 35, 36], [7, 14])], rows := [14, 30, 40, 42], pubs := [8], byref := [], pubAt := [(14, [14])] }),
  (82, { loops := [(3, [0, 1, 6, 7, 8], [])], rows := [], pubs := [], byref := [] }),
  (83, { loops := [(3, [0, 4, 10, 11, 12], []), (11, [7, 30, 31, 32], [29])], rows := [29], pubs := [], byref := [] }),
  (85, { loops := [(3, [3, 11, 12, 13], [10]), (6, [3, 5, 6, 11, 12, 13], [10])], rows := [10], pubs := [], byref := [] }),
  (90, { loops := [(4, [5, 6, 13, 14, 15], [6])], rows := [6], pubs := [9], byref := [31, 33] }),
  (94, { loops := [(2, [0, 1, 2, 3, 4, 10, 11], [10000])], rows := [], pubs := [], byref := [26, 33, 40, 57, 76, 98, 106, 129, 140] }),
  (98, { loops := [(3, [0, 1, 5, 6], [5])], rows := [5], pubs := [], byref := [] }),
  (99, { loops := [(5, [0, 5, 6], [15]), (8, [0, 5, 6, 7], [15]), (14, [5, 8, 9], [15])], rows := [15], pubs := [8], byref := [] }),
  (100, { loops := [(3, [0, 4, 5], [6])], rows := [6], pubs := [], byref := [] }),
  (101, { loops := [(2, [0, 1, 5], [])], rows := [], pubs := [], byref := [] }),
  (104, { loops := [(4, [0, 5, 6, 7], [5]), (9, [0, 5, 6, 7, 8, 9, 10], [5])], rows := [5], pubs := [6, 8], byref := [] }),
  (108, { loops := [(3, [0, 1, 5, 6], [5])], rows := [5], pubs := [], byref := [] }),
  (109, { loops := [(2, [0, 1, 7, 8], [])], rows := [], pubs := [], byref := [] }),
  (111, { loops := [(2, [0, 1, 5], [])], rows := [], pubs := [], byref := [] }),
  (112, { loops := [(2, [1, 2, 5], [2])], rows := [], pubs := [], byref := [] }),
  (116, { loops := [(5, [0, 3, 4], [])], rows := [], pubs := [], byref := [] }),
  (117, { loops := [(5, [0, 1, 5, 6], [10000])], rows := [], pubs := [], byref := [] }),
  (119, { loops := [(2, [0, 1, 2, 3, 8, 9], [10000])], rows := [], pubs := [], byref := [24, 30, 36, 51, 69, 88, 95, 117, 127] }),
  (123, { loops := [], rows := [], pubs := [4], byref := [] }),
  (124, { loops := [(4, [0, 3], [10000]), (9, [0, 3, 4, 5], [10000])], rows := [], pubs := [4], byref := [] }),
  (125, { loops := [(2, [0, 1, 7, 8], [])], rows := [], pubs := [], byref := [] }),
  (126, { loops := [(2, [0, 1, 7, 8], [])], rows := [], pubs := [], byref := [] }),
  (127, { loops := [(1, [0, 1, 2, 3, 8], [10000]), (4, [0, 1, 2, 3, 8, 9], [10000])], rows := [], pubs := [], byref := [] }),
  (128, { loops := [(4, [0, 3, 8, 9, 10, 11], [10000]), (8, [0, 3, 8, 9, 12], [10000])], rows := [], pubs := [], byref := [24, 54] }),
  (129, { loops := [(5, [0, 1, 8, 9, 10, 11], [9, 10000])], rows := [], pubs := [], byref := [] }),
  (131, { loops := [(2, [0, 8, 9], [10000])], rows := [], pubs := [], byref := [] }),
  (132, { loops := [(3, [0, 1, 2, 3, 9, 10], [10000]), (5, [0, 1, 2, 3, 9, 10], [10000]), (14, [0, 1, 2, 3, 9, 10, 11], [10000]), (20, [0, 1, 2, 3, 9, 10, 12], [10000])], rows := [], pubs := [], byref := [] }),
  (133, { loops := [(3, [0, 1, 4, 11, 12], [10000]), (5, [0, 1, 4, 11, 12], [10000])], rows := [], pubs := [], byref := [] }),
  (134, { loops := [(3, [0, 1, 4, 12, 13], [10000]), (5, [0, 1, 4, 12, 13], [10000]), (13, [0, 1, 4, 12, 13], [10000]), (15, [0, 1, 4, 12, 13], [10000])], rows := [], pubs := [], byref := [] }),
  (137, { loops := [(3, [0, 1, 5, 6], [])], rows := [], pubs := [5], byref := [] }),
  (138, { loops := [(5, [0, 5, 6], [16]), (9, [0, 5, 6, 7, 8], [16]), (15, [5, 9, 10], [16])], rows := [16], pubs := [7, 9], byref := [] }),
  (139, { loops := [(3, [0, 3, 4], [3])], rows := [3], pubs := [], byref := [] }),
  (140, { loops := [(4, [0, 1, 5], [])], rows := [], pubs := [], byref := [] }),
  (141, { loops := [(2, [0, 1, 7, 8], [])], rows := [], pubs := [], byref := [] }),
  (142, { loops := [(4, [1, 16], [16])], rows := [], pubs := [], byref := [] }),
  (144, { loops := [(1, [0, 1, 2, 6], [10000]), (4, [0, 1, 2, 6, 7], [10000])], rows := [], pubs := [], byref := [] }),
  (145, { loops := [(4, [0, 6, 7, 8, 9], [10000]), (8, [0, 6, 7, 10], [10000])], rows := [], pubs := [], byref := [22, 51] }),
  (146, { loops := [(5, [0, 1, 6, 7, 8, 9], [7, 10000])], rows := [], pubs := [], byref := [] }),
  (148, { loops := [(2, [0, 6, 7], [10000])], rows := [], pubs := [], byref := [] }),
  (149, { loops := [(3, [0, 1, 2, 7, 8], [10000]), (5, [0, 1, 2, 7, 8], [10000]), (14, [0, 1, 2, 7, 8, 9], [10000]), (20, [0, 1, 2, 7, 8, 10], [10000])], rows := [], pubs := [], byref := [] }),
  (150, { loops := [(3, [0, 1, 9, 10], [10000]), (5, [0, 1, 9, 10], [10000])], rows := [], pubs := [], byref := [] }),
  (151, { loops := [(3, [0, 1, 10, 11], [10000]), (5, [0, 1, 10, 11], [10000]), (13, [0, 1, 10, 11], [10000]), (15, [0, 1, 10, 11], [10000])], rows := [], pubs := [], byref := [] }),
  (154, { loops := [(1, [0, 2, 3, 4, 10], [10000])], rows := [], pubs := [], byref := [] }),
  (162, { loops := [(1, [0, 2, 3, 8], [10000])], rows := [], pubs := [], byref := [] })]
def H (f : Nat) : Hint := (find hints f).getD {}
def joinB (sep : List UInt8) : List (List UInt8) → List UInt8
  | [] => []
  | [x] => x
  | x :: xs => x ++ sep ++ joinB sep xs
def strs : List (List AV) → Option (List (List UInt8))
  | [] => some []
  | [.str s] :: l => (strs l).map (s :: ·)
  | _ => none
def tz : Nat → Nat → Nat
  | 0, _ => 0
  | k + 1, n => bif Nat.beq (n % 2) 1 then 0 else 1 + tz k (n / 2)
/-- the word of a set of at most 64 -/
def wordOf : List (List AV) → Option Nat
  | [] => some 0
  | [[.int .u64 (.ofNat m)]] => bif Nat.blt 0 m && Nat.blt m 18446744073709551616 then some m else none
  | _ => none
/-- how many bits -/
def cntN : Nat → Nat → Nat
  | 0, _ => 0
  | k + 1, n => n % 2 + cntN k (n / 2)
abbrev EntW := List UInt8 × Nat
def entsOf : List (List AV) → Option (List EntW)
  | [] => some []
  | [.str s, .lst 1 ws] :: l => match wordOf ws, entsOf l with
    | some w, some r => some ((s, w) :: r)
    | _, _ => none
  | _ => none
def ltC (p q : EntW) : Bool := Nat.blt (cntN 64 q.2) (cntN 64 p.2) || (Nat.beq (cntN 64 p.2) (cntN 64 q.2) && Op.bytesLess p.1 q.1)
def strictL : List EntW → Bool
  | [] => true
  | x :: l => l.all (fun y => ltC x y || ltC y x) && strictL l
def EntW.enc (p : EntW) : List AV := [.str p.1, .lst 1 (bif Nat.beq p.2 0 then [] else [[.int .u64 (p.2 : Int)]])]
def prim0 : CallF := fun f args lent => match f, args, lent with
  | 45, [.pv (.lst 1 xs), .pv (.str sep)], [] => match strs xs with
    | some l => bif Nat.ble (joinB sep l).length 140737488355328 && Nat.ble l.length 140737488355328 then some (.str (joinB sep l), []) else none
    | none => none
  | 86, [.pv (.int .u64 n)], [] => match n with
    | .ofNat m => bif Nat.blt m 18446744073709551616 then some (.int .i64 (tz 64 m : Nat), []) else none
    | .negSucc _ => none
  | 80, [.row 10000], [(10000, .row 9 1 xs)] => match strs xs with
    | some l => bif Nat.ble l.length 1073741824 then some (.tup [], [(10000, .row 9 1 ((isort Op.bytesLess l).map eStr))]) else none
    | none => none
  | _, _, _ => none
def prim : CallF := fun f args lent => match f, args, lent with
  | 47, [.row 10000, .pv (.fn 48 [])], [(10000, .row 36 2 xs)] => match entsOf xs with
    | some l => bif strictL l && Nat.ble l.length 1073741824 then some (.tup [], [(10000, .row 36 2 ((isort ltC l).map EntW.enc))]) else none
    | none => none
  | f, args, lent => prim0 f args lent
noncomputable abbrev Rn : CallF := run P H prim
end Go.Proofs.YtneahmpmicoplaaGreatDoor.cl
