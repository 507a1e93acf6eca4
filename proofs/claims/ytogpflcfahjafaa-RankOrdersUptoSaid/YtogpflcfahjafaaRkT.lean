/-
  RankOrders: the types and codecs of the program, by program (decomp.py).
-/
import Derived.Test.YtogpflcfahjafaaProg
import Derived.Test.YtogpflcfahjafaaAmL
import Derived.KernelRfl
set_option linter.unusedVariables false
set_option linter.unusedSimpArgs false
set_option maxRecDepth 100000
namespace Go.Proofs.Ytogpflcfahjafaa.rk
open Go Go.AM

noncomputable abbrev P : Program := Try.prog
structure Weight where
  Feature : List UInt8
  Value : Int
  deriving Inhabited
def Weight.enc (x : Weight) : List AV := [.str x.Feature, .int .i64 x.Value]
theorem Weight.inj : ∀ (a b : Weight), Weight.enc a = Weight.enc b → a = b := by
  intro a b h
  obtain ⟨aFeature, aValue⟩ := a
  obtain ⟨bFeature, bValue⟩ := b
  simp only [Weight.enc, List.cons.injEq, AV.int.injEq, AV.str.injEq, AV.bool.injEq, AV.lst.injEq, true_and, and_true] at h
  obtain ⟨h0, h1⟩ := h
  change aFeature = bFeature at h0
  change aValue = bValue at h1
  subst h0 h1
  rfl
instance : Inj Weight.enc := ⟨Weight.inj⟩
structure Model where
  Weights : List Weight
  deriving Inhabited
def Model.enc (x : Model) : List AV := [.lst 2 (List.map Weight.enc x.Weights)]
theorem Model.inj : ∀ (a b : Model), Model.enc a = Model.enc b → a = b := by
  intro a b h
  obtain ⟨aWeights⟩ := a
  obtain ⟨bWeights⟩ := b
  simp only [Model.enc, List.cons.injEq, AV.int.injEq, AV.str.injEq, AV.bool.injEq, AV.lst.injEq, true_and, and_true] at h
  have h0 := h
  replace h0 := map_inj Inj.inj _ _ h0
  change aWeights = bWeights at h0
  subst h0
  rfl
instance : Inj Model.enc := ⟨Model.inj⟩
inductive Deriv where
  | mk (Kind : Int) (Name : List UInt8) (From : Int) (To : Int) (Kids : List Deriv)
def Deriv.Kind : Deriv → Int
  | .mk x _ _ _ _ => x
def Deriv.Name : Deriv → List UInt8
  | .mk _ x _ _ _ => x
def Deriv.From : Deriv → Int
  | .mk _ _ x _ _ => x
def Deriv.To : Deriv → Int
  | .mk _ _ _ x _ => x
def Deriv.Kids : Deriv → List Deriv
  | .mk _ _ _ _ x => x
mutual
def Deriv.encX : Deriv → List AV
  | .mk a b c d e => [.int .i64 a, .str b, .int .i64 c, .int .i64 d, .lst 5 (Deriv.encXs e)]
def Deriv.encXs : List Deriv → List (List AV)
  | [] => []
  | x :: l => Deriv.encX x :: Deriv.encXs l
end
def Deriv.enc (x : Deriv) : List AV := [.int .i64 x.Kind, .str x.Name, .int .i64 x.From, .int .i64 x.To, .lst 5 (List.map Deriv.encX x.Kids)]
instance : Inhabited Deriv := ⟨.mk 0 [] 0 0 []⟩
mutual
theorem Deriv.injX : ∀ (a b : Deriv), Deriv.encX a = Deriv.encX b → a = b
  | .mk a0 a1 a2 a3 a4, .mk b0 b1 b2 b3 b4, h => by
    simp only [Deriv.encX, List.cons.injEq, AV.int.injEq, AV.str.injEq, AV.bool.injEq, AV.lst.injEq, true_and, and_true] at h
    obtain ⟨h0, h1, h2, h3, h4⟩ := h
    replace h4 := Deriv.injXs _ _ h4
    subst h0 h1 h2 h3 h4
    rfl
theorem Deriv.injXs : ∀ (a b : List Deriv), Deriv.encXs a = Deriv.encXs b → a = b
  | [], [], _ => rfl
  | [], _ :: _, h => by simp [Deriv.encXs] at h
  | _ :: _, [], h => by simp [Deriv.encXs] at h
  | x :: l, y :: m, h => by
    simp only [Deriv.encXs, List.cons.injEq] at h
    rw [Deriv.injX x y h.1, Deriv.injXs l m h.2]
end
theorem Deriv.encXs_eq (l : List Deriv) : Deriv.encXs l = l.map Deriv.encX := by
  induction l with
  | nil => rfl
  | cons x l ih => simp [Deriv.encXs, ih]
theorem Deriv.encX_eq : Deriv.encX = Deriv.enc := by
  funext x
  cases x
  simp only [Deriv.encX, Deriv.enc, Deriv.encXs_eq]
  rfl
instance : Inj Deriv.encX := ⟨Deriv.injX⟩
instance : Inj Deriv.enc := ⟨fun a b h => Deriv.injX a b (by rw [Deriv.encX_eq]; exact h)⟩
structure Scored where
  Deriv : Deriv
  Score : Int
  deriving Inhabited
def Scored.enc (x : Scored) : List AV := [.int .i64 x.Deriv.Kind, .str x.Deriv.Name, .int .i64 x.Deriv.From, .int .i64 x.Deriv.To, .lst 5 (List.map Deriv.encX x.Deriv.Kids), .int .i64 x.Score]
theorem Scored.inj : ∀ (a b : Scored), Scored.enc a = Scored.enc b → a = b := by
  intro a b h
  obtain ⟨aDeriv, aScore⟩ := a
  obtain ⟨aDerivKind, aDerivName, aDerivFrom, aDerivTo, aDerivKids⟩ := aDeriv
  obtain ⟨bDeriv, bScore⟩ := b
  obtain ⟨bDerivKind, bDerivName, bDerivFrom, bDerivTo, bDerivKids⟩ := bDeriv
  simp only [Scored.enc, List.cons.injEq, AV.int.injEq, AV.str.injEq, AV.bool.injEq, AV.lst.injEq, true_and, and_true] at h
  obtain ⟨h0, h1, h2, h3, h4, h5⟩ := h
  replace h4 := map_inj Inj.inj _ _ h4
  change aDerivKind = bDerivKind at h0
  change aDerivName = bDerivName at h1
  change aDerivFrom = bDerivFrom at h2
  change aDerivTo = bDerivTo at h3
  change aDerivKids = bDerivKids at h4
  change aScore = bScore at h5
  subst h0 h1 h2 h3 h4 h5
  rfl
instance : Inj Scored.enc := ⟨Scored.inj⟩
abbrev R4.T : Type := Bool
def R4.enc : R4.T → AV := (fun (x : Bool) => ((.bool x) : AV))
instance : Inj R4.enc := ⟨fun a b h => by
  simp only [R4.enc, AV.int.injEq, AV.str.injEq, AV.bool.injEq, AV.lst.injEq, AV.agg.injEq, AV.tup.injEq, List.cons.injEq, true_and, and_true] at h
  exact h⟩
abbrev R5.T : Type := Int
def R5.enc : R5.T → AV := (fun (x : Int) => ((.int .i64 x) : AV))
instance : Inj R5.enc := ⟨fun a b h => by
  simp only [R5.enc, AV.int.injEq, AV.str.injEq, AV.bool.injEq, AV.lst.injEq, AV.agg.injEq, AV.tup.injEq, List.cons.injEq, true_and, and_true] at h
  exact h⟩
abbrev R6.T : Type := Bool
def R6.enc : R6.T → AV := (fun (x : Bool) => ((.bool x) : AV))
instance : Inj R6.enc := ⟨fun a b h => by
  simp only [R6.enc, AV.int.injEq, AV.str.injEq, AV.bool.injEq, AV.lst.injEq, AV.agg.injEq, AV.tup.injEq, List.cons.injEq, true_and, and_true] at h
  exact h⟩
abbrev R7.T : Type := Bool
def R7.enc : R7.T → AV := (fun (x : Bool) => ((.bool x) : AV))
instance : Inj R7.enc := ⟨fun a b h => by
  simp only [R7.enc, AV.int.injEq, AV.str.injEq, AV.bool.injEq, AV.lst.injEq, AV.agg.injEq, AV.tup.injEq, List.cons.injEq, true_and, and_true] at h
  exact h⟩
abbrev R8.T : Type := List Scored
def R8.enc : R8.T → AV := (fun (x : List Scored) => ((.lst 6 (List.map Scored.enc x)) : AV))
instance : Inj R8.enc := ⟨fun a b h => by
  simp only [R8.enc, AV.int.injEq, AV.str.injEq, AV.bool.injEq, AV.lst.injEq, AV.agg.injEq, AV.tup.injEq, List.cons.injEq, true_and, and_true] at h
  exact map_inj Inj.inj _ _ h⟩
abbrev R9.T : Type := List Scored
def R9.enc : R9.T → AV := (fun (x : List Scored) => ((.lst 6 (List.map Scored.enc x)) : AV))
instance : Inj R9.enc := ⟨fun a b h => by
  simp only [R9.enc, AV.int.injEq, AV.str.injEq, AV.bool.injEq, AV.lst.injEq, AV.agg.injEq, AV.tup.injEq, List.cons.injEq, true_and, and_true] at h
  exact map_inj Inj.inj _ _ h⟩
abbrev R10.T : Type := Int
def R10.enc : R10.T → AV := (fun (x : Int) => ((.int .i64 x) : AV))
instance : Inj R10.enc := ⟨fun a b h => by
  simp only [R10.enc, AV.int.injEq, AV.str.injEq, AV.bool.injEq, AV.lst.injEq, AV.agg.injEq, AV.tup.injEq, List.cons.injEq, true_and, and_true] at h
  exact h⟩
abbrev R11.T : Type := Bool
def R11.enc : R11.T → AV := (fun (x : Bool) => ((.bool x) : AV))
instance : Inj R11.enc := ⟨fun a b h => by
  simp only [R11.enc, AV.int.injEq, AV.str.injEq, AV.bool.injEq, AV.lst.injEq, AV.agg.injEq, AV.tup.injEq, List.cons.injEq, true_and, and_true] at h
  exact h⟩
abbrev R12.T : Type := Deriv
def R12.enc : R12.T → AV := (fun (x : Deriv) => ((.agg (Deriv.enc x)) : AV))
instance : Inj R12.enc := ⟨fun a b h => by
  simp only [R12.enc, AV.int.injEq, AV.str.injEq, AV.bool.injEq, AV.lst.injEq, AV.agg.injEq, AV.tup.injEq, List.cons.injEq, true_and, and_true] at h
  exact Inj.inj _ _ h⟩
abbrev R13.T : Type := Int
def R13.enc : R13.T → AV := (fun (x : Int) => ((.int .i64 x) : AV))
instance : Inj R13.enc := ⟨fun a b h => by
  simp only [R13.enc, AV.int.injEq, AV.str.injEq, AV.bool.injEq, AV.lst.injEq, AV.agg.injEq, AV.tup.injEq, List.cons.injEq, true_and, and_true] at h
  exact h⟩
abbrev R14.T : Type := Int
def R14.enc : R14.T → AV := (fun (x : Int) => ((.int .i64 x) : AV))
instance : Inj R14.enc := ⟨fun a b h => by
  simp only [R14.enc, AV.int.injEq, AV.str.injEq, AV.bool.injEq, AV.lst.injEq, AV.agg.injEq, AV.tup.injEq, List.cons.injEq, true_and, and_true] at h
  exact h⟩
abbrev R15.T : Type := Unit
def R15.enc : R15.T → AV := (fun (_ : Unit) => AV.tup [])
instance : Inj R15.enc := ⟨fun a b h => rfl⟩
abbrev R16.T : Type := Int
def R16.enc : R16.T → AV := (fun (x : Int) => ((.int .i64 x) : AV))
instance : Inj R16.enc := ⟨fun a b h => by
  simp only [R16.enc, AV.int.injEq, AV.str.injEq, AV.bool.injEq, AV.lst.injEq, AV.agg.injEq, AV.tup.injEq, List.cons.injEq, true_and, and_true] at h
  exact h⟩
abbrev R17.T : Type := Int
def R17.enc : R17.T → AV := (fun (x : Int) => ((.int .i64 x) : AV))
instance : Inj R17.enc := ⟨fun a b h => by
  simp only [R17.enc, AV.int.injEq, AV.str.injEq, AV.bool.injEq, AV.lst.injEq, AV.agg.injEq, AV.tup.injEq, List.cons.injEq, true_and, and_true] at h
  exact h⟩
abbrev R18.T : Type := Bool
def R18.enc : R18.T → AV := (fun (x : Bool) => ((.bool x) : AV))
instance : Inj R18.enc := ⟨fun a b h => by
  simp only [R18.enc, AV.int.injEq, AV.str.injEq, AV.bool.injEq, AV.lst.injEq, AV.agg.injEq, AV.tup.injEq, List.cons.injEq, true_and, and_true] at h
  exact h⟩
abbrev R19.T : Type := Bool
def R19.enc : R19.T → AV := (fun (x : Bool) => ((.bool x) : AV))
instance : Inj R19.enc := ⟨fun a b h => by
  simp only [R19.enc, AV.int.injEq, AV.str.injEq, AV.bool.injEq, AV.lst.injEq, AV.agg.injEq, AV.tup.injEq, List.cons.injEq, true_and, and_true] at h
  exact h⟩
abbrev R20.T : Type := List (List UInt8)
def R20.enc : R20.T → AV := (fun (x : List (List UInt8)) => ((.lst 1 (List.map eStr x)) : AV))
instance : Inj R20.enc := ⟨fun a b h => by
  simp only [R20.enc, AV.int.injEq, AV.str.injEq, AV.bool.injEq, AV.lst.injEq, AV.agg.injEq, AV.tup.injEq, List.cons.injEq, true_and, and_true] at h
  exact map_inj Inj.inj _ _ h⟩
abbrev R21.T : Type := Int
def R21.enc : R21.T → AV := (fun (x : Int) => ((.int .i64 x) : AV))
instance : Inj R21.enc := ⟨fun a b h => by
  simp only [R21.enc, AV.int.injEq, AV.str.injEq, AV.bool.injEq, AV.lst.injEq, AV.agg.injEq, AV.tup.injEq, List.cons.injEq, true_and, and_true] at h
  exact h⟩
abbrev R22.T : Type := List (List UInt8)
def R22.enc : R22.T → AV := (fun (x : List (List UInt8)) => ((.lst 1 (List.map eStr x)) : AV))
instance : Inj R22.enc := ⟨fun a b h => by
  simp only [R22.enc, AV.int.injEq, AV.str.injEq, AV.bool.injEq, AV.lst.injEq, AV.agg.injEq, AV.tup.injEq, List.cons.injEq, true_and, and_true] at h
  exact map_inj Inj.inj _ _ h⟩
abbrev R23.T : Type := Int
def R23.enc : R23.T → AV := (fun (x : Int) => ((.int .i64 x) : AV))
instance : Inj R23.enc := ⟨fun a b h => by
  simp only [R23.enc, AV.int.injEq, AV.str.injEq, AV.bool.injEq, AV.lst.injEq, AV.agg.injEq, AV.tup.injEq, List.cons.injEq, true_and, and_true] at h
  exact h⟩
abbrev R24.T : Type := Unit
def R24.enc : R24.T → AV := (fun (_ : Unit) => AV.tup [])
instance : Inj R24.enc := ⟨fun a b h => rfl⟩
abbrev R25.T : Type := Int
def R25.enc : R25.T → AV := (fun (x : Int) => ((.int .i64 x) : AV))
instance : Inj R25.enc := ⟨fun a b h => by
  simp only [R25.enc, AV.int.injEq, AV.str.injEq, AV.bool.injEq, AV.lst.injEq, AV.agg.injEq, AV.tup.injEq, List.cons.injEq, true_and, and_true] at h
  exact h⟩
abbrev R26.T : Type := Int
def R26.enc : R26.T → AV := (fun (x : Int) => ((.int .i64 x) : AV))
instance : Inj R26.enc := ⟨fun a b h => by
  simp only [R26.enc, AV.int.injEq, AV.str.injEq, AV.bool.injEq, AV.lst.injEq, AV.agg.injEq, AV.tup.injEq, List.cons.injEq, true_and, and_true] at h
  exact h⟩
abbrev R27.T : Type := Int
def R27.enc : R27.T → AV := (fun (x : Int) => ((.int .i64 x) : AV))
instance : Inj R27.enc := ⟨fun a b h => by
  simp only [R27.enc, AV.int.injEq, AV.str.injEq, AV.bool.injEq, AV.lst.injEq, AV.agg.injEq, AV.tup.injEq, List.cons.injEq, true_and, and_true] at h
  exact h⟩
abbrev R28.T : Type := List (List UInt8)
def R28.enc : R28.T → AV := (fun (x : List (List UInt8)) => ((.lst 1 (List.map eStr x)) : AV))
instance : Inj R28.enc := ⟨fun a b h => by
  simp only [R28.enc, AV.int.injEq, AV.str.injEq, AV.bool.injEq, AV.lst.injEq, AV.agg.injEq, AV.tup.injEq, List.cons.injEq, true_and, and_true] at h
  exact map_inj Inj.inj _ _ h⟩
abbrev R29.T : Type := Int
def R29.enc : R29.T → AV := (fun (x : Int) => ((.int .i64 x) : AV))
instance : Inj R29.enc := ⟨fun a b h => by
  simp only [R29.enc, AV.int.injEq, AV.str.injEq, AV.bool.injEq, AV.lst.injEq, AV.agg.injEq, AV.tup.injEq, List.cons.injEq, true_and, and_true] at h
  exact h⟩
abbrev R30.T : Type := Bool
def R30.enc : R30.T → AV := (fun (x : Bool) => ((.bool x) : AV))
instance : Inj R30.enc := ⟨fun a b h => by
  simp only [R30.enc, AV.int.injEq, AV.str.injEq, AV.bool.injEq, AV.lst.injEq, AV.agg.injEq, AV.tup.injEq, List.cons.injEq, true_and, and_true] at h
  exact h⟩
abbrev R31.T : Type := List UInt8
def R31.enc : R31.T → AV := (fun (x : List UInt8) => ((.str x) : AV))
instance : Inj R31.enc := ⟨fun a b h => by
  simp only [R31.enc, AV.int.injEq, AV.str.injEq, AV.bool.injEq, AV.lst.injEq, AV.agg.injEq, AV.tup.injEq, List.cons.injEq, true_and, and_true] at h
  exact h⟩
abbrev R32.T : Type := Int × Bool
def R32.enc : R32.T → AV := (fun (x : Int × Bool) => ((.tup [(.int .i64 x.1), (.bool x.2)]) : AV))
instance : Inj R32.enc := ⟨fun a b h => by
  obtain ⟨a0, a1⟩ := a
  obtain ⟨b0, b1⟩ := b
  simp only [R32.enc, AV.int.injEq, AV.str.injEq, AV.bool.injEq, AV.lst.injEq, AV.agg.injEq, AV.tup.injEq, List.cons.injEq, true_and, and_true] at h
  obtain ⟨h0, h1⟩ := h
  replace h0 : a0 = b0 := h0
  replace h1 : a1 = b1 := h1
  subst h0 h1
  rfl⟩
abbrev R33.T : Type := Int
def R33.enc : R33.T → AV := (fun (x : Int) => ((.int .i64 x) : AV))
instance : Inj R33.enc := ⟨fun a b h => by
  simp only [R33.enc, AV.int.injEq, AV.str.injEq, AV.bool.injEq, AV.lst.injEq, AV.agg.injEq, AV.tup.injEq, List.cons.injEq, true_and, and_true] at h
  exact h⟩
abbrev R34.T : Type := Int
def R34.enc : R34.T → AV := (fun (x : Int) => ((.int .i64 x) : AV))
instance : Inj R34.enc := ⟨fun a b h => by
  simp only [R34.enc, AV.int.injEq, AV.str.injEq, AV.bool.injEq, AV.lst.injEq, AV.agg.injEq, AV.tup.injEq, List.cons.injEq, true_and, and_true] at h
  exact h⟩
abbrev R35.T : Type := Unit
def R35.enc : R35.T → AV := (fun (_ : Unit) => AV.tup [])
instance : Inj R35.enc := ⟨fun a b h => rfl⟩
abbrev R36.T : Type := Unit
def R36.enc : R36.T → AV := (fun (_ : Unit) => AV.tup [])
instance : Inj R36.enc := ⟨fun a b h => rfl⟩
abbrev R37.T : Type := Bool
def R37.enc : R37.T → AV := (fun (x : Bool) => ((.bool x) : AV))
instance : Inj R37.enc := ⟨fun a b h => by
  simp only [R37.enc, AV.int.injEq, AV.str.injEq, AV.bool.injEq, AV.lst.injEq, AV.agg.injEq, AV.tup.injEq, List.cons.injEq, true_and, and_true] at h
  exact h⟩
abbrev R38.T : Type := Int
def R38.enc : R38.T → AV := (fun (x : Int) => ((.int .i64 x) : AV))
instance : Inj R38.enc := ⟨fun a b h => by
  simp only [R38.enc, AV.int.injEq, AV.str.injEq, AV.bool.injEq, AV.lst.injEq, AV.agg.injEq, AV.tup.injEq, List.cons.injEq, true_and, and_true] at h
  exact h⟩
abbrev R39.T : Type := Bool
def R39.enc : R39.T → AV := (fun (x : Bool) => ((.bool x) : AV))
instance : Inj R39.enc := ⟨fun a b h => by
  simp only [R39.enc, AV.int.injEq, AV.str.injEq, AV.bool.injEq, AV.lst.injEq, AV.agg.injEq, AV.tup.injEq, List.cons.injEq, true_and, and_true] at h
  exact h⟩
abbrev R40.T : Type := Bool
def R40.enc : R40.T → AV := (fun (x : Bool) => ((.bool x) : AV))
instance : Inj R40.enc := ⟨fun a b h => by
  simp only [R40.enc, AV.int.injEq, AV.str.injEq, AV.bool.injEq, AV.lst.injEq, AV.agg.injEq, AV.tup.injEq, List.cons.injEq, true_and, and_true] at h
  exact h⟩
abbrev R44.T : Type := Bool
def R44.enc : R44.T → AV := (fun (x : Bool) => ((.bool x) : AV))
instance : Inj R44.enc := ⟨fun a b h => by
  simp only [R44.enc, AV.int.injEq, AV.str.injEq, AV.bool.injEq, AV.lst.injEq, AV.agg.injEq, AV.tup.injEq, List.cons.injEq, true_and, and_true] at h
  exact h⟩
abbrev R45.T : Type := Unit
def R45.enc : R45.T → AV := (fun (_ : Unit) => AV.tup [])
instance : Inj R45.enc := ⟨fun a b h => rfl⟩
abbrev R46.T : Type := Bool
def R46.enc : R46.T → AV := (fun (x : Bool) => ((.bool x) : AV))
instance : Inj R46.enc := ⟨fun a b h => by
  simp only [R46.enc, AV.int.injEq, AV.str.injEq, AV.bool.injEq, AV.lst.injEq, AV.agg.injEq, AV.tup.injEq, List.cons.injEq, true_and, and_true] at h
  exact h⟩
abbrev R47.T : Type := Bool
def R47.enc : R47.T → AV := (fun (x : Bool) => ((.bool x) : AV))
instance : Inj R47.enc := ⟨fun a b h => by
  simp only [R47.enc, AV.int.injEq, AV.str.injEq, AV.bool.injEq, AV.lst.injEq, AV.agg.injEq, AV.tup.injEq, List.cons.injEq, true_and, and_true] at h
  exact h⟩
abbrev R50.T : Type := Unit
def R50.enc : R50.T → AV := (fun (_ : Unit) => AV.tup [])
instance : Inj R50.enc := ⟨fun a b h => rfl⟩
def elems : List (Nat × Cod) := [(38, ⟨Weight, Weight.enc⟩), (36, ⟨Deriv, Deriv.enc⟩), (42, ⟨Scored, Scored.enc⟩), (9, ⟨List UInt8, eStr⟩), (3, ⟨Int, (eInt .i64)⟩), (5, ⟨Int, (eInt .u8)⟩)]
def ress : List (Nat × CodR) := [(4, ⟨R4.T, R4.enc⟩), (5, ⟨R5.T, R5.enc⟩), (6, ⟨R6.T, R6.enc⟩), (7, ⟨R7.T, R7.enc⟩), (8, ⟨R8.T, R8.enc⟩), (9, ⟨R9.T, R9.enc⟩), (10, ⟨R10.T, R10.enc⟩), (11, ⟨R11.T, R11.enc⟩), (12, ⟨R12.T, R12.enc⟩), (13, ⟨R13.T, R13.enc⟩), (14, ⟨R14.T, R14.enc⟩), (15, ⟨R15.T, R15.enc⟩), (16, ⟨R16.T, R16.enc⟩), (17, ⟨R17.T, R17.enc⟩), (18, ⟨R18.T, R18.enc⟩), (19, ⟨R19.T, R19.enc⟩), (20, ⟨R20.T, R20.enc⟩), (21, ⟨R21.T, R21.enc⟩), (22, ⟨R22.T, R22.enc⟩), (23, ⟨R23.T, R23.enc⟩), (24, ⟨R24.T, R24.enc⟩), (25, ⟨R25.T, R25.enc⟩), (26, ⟨R26.T, R26.enc⟩), (27, ⟨R27.T, R27.enc⟩), (28, ⟨R28.T, R28.enc⟩), (29, ⟨R29.T, R29.enc⟩), (30, ⟨R30.T, R30.enc⟩), (31, ⟨R31.T, R31.enc⟩), (32, ⟨R32.T, R32.enc⟩), (33, ⟨R33.T, R33.enc⟩), (34, ⟨R34.T, R34.enc⟩), (35, ⟨R35.T, R35.enc⟩), (36, ⟨R36.T, R36.enc⟩), (37, ⟨R37.T, R37.enc⟩), (38, ⟨R38.T, R38.enc⟩), (39, ⟨R39.T, R39.enc⟩), (40, ⟨R40.T, R40.enc⟩), (44, ⟨R44.T, R44.enc⟩), (45, ⟨R45.T, R45.enc⟩), (46, ⟨R46.T, R46.enc⟩), (47, ⟨R47.T, R47.enc⟩), (50, ⟨R50.T, R50.enc⟩)]
def cods : Cods := { elem := findC elems, res := findC ress }
def hints : List (Nat × Hint) := [
  (4, { loops := [(3, [0, 1, 5, 6], [])], rows := [], pubs := [], byref := [] }),
  (5, { loops := [(2, [1, 3], [1])], rows := [], pubs := [], byref := [] }),
  (6, { loops := [], rows := [], pubs := [2], byref := [] }),
  (7, { loops := [(4, [0, 1, 5], [])], rows := [], pubs := [], byref := [] }),
  (8, { loops := [(3, [2, 5, 11, 12, 13], [2, 10])], rows := [10], pubs := [4], byref := [27] }),
  (9, { loops := [(3, [1, 2, 5, 6], [2]), (9, [1, 2, 5, 6, 7, 8, 9, 10], [2, 7, 29])], rows := [29], pubs := [4, 5], byref := [] }),
  (10, { loops := [(3, [1, 2, 5, 6], [2])], rows := [], pubs := [], byref := [] }),
  (11, { loops := [(4, [0, 3], []), (11, [4, 5], [])], rows := [], pubs := [4], byref := [] }),
  (13, { loops := [(12, [2, 3, 5], [2, 3])], rows := [], pubs := [], byref := [] }),
  (14, { loops := [(3, [2, 5, 9, 10, 11], [2])], rows := [], pubs := [], byref := [] }),
  (15, { loops := [], rows := [], pubs := [], byref := [4] }),
  (17, { loops := [(4, [2, 5, 6, 7], [2])], rows := [], pubs := [5], byref := [] }),
  (20, { loops := [(4, [0, 3, 4, 5], [6])], rows := [6], pubs := [2], byref := [] }),
  (22, { loops := [(5, [1, 3, 4, 17, 18, 19], [1, 4, 11]), (11, [3, 39, 40, 41], [11])], rows := [4, 11], pubs := [2], byref := [] }),
  (24, { loops := [(2, [0, 1, 2, 6, 7, 8], [10000]), (7, [0, 1, 2, 6], [10000]), (9, [0, 1, 2, 6, 7, 8], [10000])], rows := [], pubs := [], byref := [14, 23, 36, 55] }),
  (25, { loops := [(3, [3, 6, 7, 8], [])], rows := [], pubs := [], byref := [] }),
  (28, { loops := [(5, [1, 3, 4, 5], [1, 11]), (12, [1, 3, 6], [1, 11]), (16, [1, 3, 6, 7, 8], [1, 11])], rows := [11], pubs := [2, 7], byref := [] }),
  (29, { loops := [(2, [1, 2, 5], [2])], rows := [], pubs := [], byref := [] }),
  (30, { loops := [(4, [0, 1, 5], [])], rows := [], pubs := [], byref := [] }),
  (31, { loops := [(12, [0, 1, 5, 39, 40, 41], []), (22, [1, 8, 63, 64, 65], [8])], rows := [], pubs := [], byref := [] }),
  (32, { loops := [(3, [0, 1, 2, 8, 9, 10], [])], rows := [], pubs := [], byref := [] }),
  (35, { loops := [(1, [0, 1, 2, 3, 8], [10000]), (4, [0, 1, 2, 3, 8, 9], [10000])], rows := [], pubs := [], byref := [] }),
  (36, { loops := [(3, [0, 1, 4, 10, 11], [10000]), (9, [0, 10, 13], [10000]), (15, [0, 2, 4, 14, 15], [10000]), (21, [0, 14, 17], [10000]), (33, [0, 1, 2, 3, 4, 18, 19, 20, 21, 22], [10000])], rows := [], pubs := [], byref := [186, 200, 214] }),
  (38, { loops := [(2, [0, 1, 2, 11, 12, 13], [])], rows := [], pubs := [], byref := [] }),
  (45, { loops := [(2, [0, 2, 4, 10, 11], [10000])], rows := [], pubs := [], byref := [24, 35, 50] }),
  (49, { loops := [], rows := [], pubs := [4], byref := [] }),
  (50, { loops := [(1, [0, 1, 2, 3, 10], [10000])], rows := [], pubs := [], byref := [] })]
def H (f : Nat) : Hint := (find hints f).getD {}

def joinB (sep : List UInt8) : List (List UInt8) → List UInt8
  | [] => []
  | [x] => x
  | x :: xs => x ++ sep ++ joinB sep xs
def strs : List (List AV) → Option (List (List UInt8))
  | [] => some []
  | [.str s] :: l => (strs l).map (s :: ·)
  | _ => none
def prim : CallF := fun f args lent => match f, args, lent with
  | 31, [.pv (.lst 1 xs), .pv (.str sep)], [] => match strs xs with
    | some l => bif Nat.ble (joinB sep l).length 140737488355328 && Nat.ble l.length 140737488355328 then some (.str (joinB sep l), []) else none
    | none => none
  | _, _, _ => none
noncomputable abbrev Rn : CallF := run P H prim
abbrev Out : Type := AV × List (Nat × Ob)
end Go.Proofs.Ytogpflcfahjafaa.rk
