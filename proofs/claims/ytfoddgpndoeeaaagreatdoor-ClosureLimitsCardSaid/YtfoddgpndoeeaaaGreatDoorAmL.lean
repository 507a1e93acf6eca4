/-
  PLAIN FACTS: the order of byte strings; comparing by parts; inserting into a sorted list.
-/
import Derived.Test.YtfoddgpndoeeaaaGreatDoorAmS
set_option linter.unusedVariables false
namespace Go.AM

theorem bl_irrefl (a : List UInt8) : Op.bytesLess a a = false := by
  induction a with
  | nil => rfl
  | cons x a ih => simp [Op.bytesLess, ih]
theorem bl_total : ∀ (a b : List UInt8), Op.bytesLess a b = false → a ≠ b → Op.bytesLess b a = true := by
  intro a
  induction a with
  | nil => intro b h hne; cases b with
    | nil => exact absurd rfl hne
    | cons y b => simp [Op.bytesLess] at h
  | cons x a ih =>
    intro b h hne
    cases b with
    | nil => rfl
    | cons y b =>
      simp only [Op.bytesLess, Bool.or_eq_false_iff, decide_eq_false_iff_not, Bool.and_eq_false_iff] at h
      simp only [Op.bytesLess, Bool.or_eq_true, decide_eq_true_eq, Bool.and_eq_true, beq_iff_eq]
      by_cases e : x = y
      · subst e
        refine .inr ⟨rfl, ih b (h.2.resolve_left (by simp)) fun e => hne (by rw [e])⟩
      · refine .inl ?_
        have h1 := h.1
        simp only [UInt8.lt_iff_toNat_lt] at h1 ⊢
        have : x.toNat ≠ y.toNat := fun e2 => e (UInt8.toNat.inj e2)
        omega
theorem bl_trans : ∀ (a b c : List UInt8), Op.bytesLess a b = true → Op.bytesLess b c = true → Op.bytesLess a c = true := by
  intro a
  induction a with
  | nil => intro b c h1 h2; cases c with
    | nil => simp [Op.bytesLess] at h2
    | cons z c => rfl
  | cons x a ih =>
    intro b c h1 h2
    cases b with
    | nil => simp [Op.bytesLess] at h1
    | cons y b => cases c with
      | nil => simp [Op.bytesLess] at h2
      | cons z c =>
        simp only [Op.bytesLess, Bool.or_eq_true, decide_eq_true_eq, Bool.and_eq_true, beq_iff_eq, UInt8.lt_iff_toNat_lt] at h1 h2 ⊢
        rcases h1 with h1 | ⟨rfl, h1⟩
        · rcases h2 with h2 | ⟨rfl, h2⟩
          · exact .inl (by omega)
          · exact .inl h1
        · rcases h2 with h2 | ⟨rfl, h2⟩
          · exact .inl h2
          · exact .inr ⟨rfl, ih b c h1 h2⟩
theorem bl_asymm {a b : List UInt8} (h : Op.bytesLess a b = true) : Op.bytesLess b a = false := by
  cases e : Op.bytesLess b a with
  | false => rfl
  | true => have := bl_trans _ _ _ h e; rw [bl_irrefl] at this; cases this

def cmpI (a b : Int) : Int := if a < b then -1 else if a > b then 1 else 0
def cmpB (a b : List UInt8) : Int := if Op.bytesLess a b = true then -1 else if a = b then 0 else 1
def lex (a b : Int) : Int := if a = 0 then b else a

/-- what three comparisons have to do with each other: of a with b, of a with x, of x with b -/
def Tri (p q r : Int) : Prop := (p < 0 → q < 0 ∨ r < 0) ∧ (p = 0 → q = -r)

theorem tri_lex {p q r p' q' r' : Int} (h : Tri p q r) (k : Tri p' q' r') : Tri (lex p p') (lex q q') (lex r r') := by
  unfold Tri lex at *
  constructor
  · intro hp
    split at hp
    · rename_i e
      have := h.2 e
      by_cases hq : q = 0
      · have hr : r = 0 := by omega
        simp only [hq, hr, if_true]
        exact k.1 hp
      · have hr : r ≠ 0 := by omega
        simp only [hq, hr, if_false]
        omega
    · rcases h.1 hp with hq | hr
      · left; rw [if_neg (by omega)]; exact hq
      · right; rw [if_neg (by omega)]; exact hr
  · intro hp
    split at hp
    · rename_i e
      have := h.2 e
      by_cases hq : q = 0
      · have hr : r = 0 := by omega
        simp only [hq, hr, if_true]
        exact k.2 hp
      · have hr : r ≠ 0 := by omega
        simp only [hq, hr, if_false]
        omega
    · rename_i e; exact absurd hp e
theorem tri_int (a b x : Int) : Tri (cmpI a b) (cmpI a x) (cmpI x b) := by
  unfold Tri cmpI
  constructor
  · intro h
    split at h
    · by_cases h1 : a < x
      · left; rw [if_pos h1]; omega
      · right; rw [if_pos (by omega)]; omega
    · split at h <;> omega
  · intro h
    split at h
    · omega
    · split at h
      · omega
      · have : a = b := by omega
        subst this
        by_cases h1 : a < x
        · rw [if_pos h1, if_neg (by omega), if_pos h1]
        · rw [if_neg h1]
          by_cases h2 : a > x
          · rw [if_pos h2, if_pos h2]; omega
          · rw [if_neg h2, if_neg h2, if_neg h1]; omega
theorem tri_int' (a b x : Int) : Tri (cmpI b a) (cmpI x a) (cmpI b x) := by
  have h := tri_int b a x
  unfold Tri at *
  refine ⟨fun hp => (h.1 hp).symm, fun hp => by have := h.2 hp; omega⟩
theorem cmpB_lt {a b : List UInt8} : cmpB a b < 0 ↔ Op.bytesLess a b = true := by
  unfold cmpB
  constructor
  · intro h; split at h
    · assumption
    · split at h <;> omega
  · intro h; rw [if_pos h]; omega
theorem cmpB_eq {a b : List UInt8} : cmpB a b = 0 ↔ a = b := by
  unfold cmpB
  constructor
  · intro h; split at h
    · omega
    · split at h
      · assumption
      · omega
  · intro h; subst h; rw [if_neg (by simp [bl_irrefl]), if_pos rfl]
theorem cmpB_self (a : List UInt8) : cmpB a a = 0 := cmpB_eq.2 rfl
theorem cmpB_neg (a b : List UInt8) : cmpB b a = -cmpB a b := by
  unfold cmpB
  by_cases e : a = b
  · subst e; simp [bl_irrefl]
  · have e' : b ≠ a := fun h => e h.symm
    cases h : Op.bytesLess a b with
    | true => simp [bl_asymm h, e']
    | false => simp [bl_total _ _ h e, e]
theorem tri_str (a b x : List UInt8) : Tri (cmpB a b) (cmpB a x) (cmpB x b) := by
  constructor
  · intro h
    rw [cmpB_lt] at h
    by_cases e : a = x
    · subst e; right; exact cmpB_lt.2 h
    cases h1 : Op.bytesLess a x with
    | true => left; exact cmpB_lt.2 h1
    | false => right; exact cmpB_lt.2 (bl_trans _ _ _ (bl_total _ _ h1 e) h)
  · intro h
    rw [cmpB_eq] at h
    subst h
    exact cmpB_neg _ _
theorem cmpI_self (a : Int) : cmpI a a = 0 := by simp [cmpI]
theorem cmpI_neg (a b : Int) : cmpI b a = -cmpI a b := by
  unfold cmpI; split <;> split <;> (try split) <;> omega

/-! inserting -/
section
variable {α : Type} (lt : α → α → Bool)
def insL (x : α) : List α → List α
  | [] => [x]
  | y :: l => if lt x y = true then x :: y :: l else y :: insL x l

def Sorted (l : List α) : Prop := l.Pairwise fun a b => lt b a = false

theorem insL_split {x : α} {p q : List α} (hp : ∀ y ∈ p, lt x y = false) (hq : ∀ y ∈ q, lt x y = true) : insL lt x (p ++ q) = p ++ x :: q := by
  induction p with
  | nil => cases q with
    | nil => rfl
    | cons y q => simp only [List.nil_append, insL]; rw [if_pos (hq y (List.mem_cons_self ..))]
  | cons y p ih =>
    simp only [List.cons_append, insL]
    rw [if_neg (by simp [hp y (List.mem_cons_self ..)]), ih fun z hz => hp z (List.mem_cons_of_mem _ hz)]

theorem insL_mem {x y : α} : ∀ {l : List α}, y ∈ insL lt x l ↔ y = x ∨ y ∈ l := by
  intro l
  induction l with
  | nil => simp [insL]
  | cons z l ih =>
    simp only [insL]
    split
    · simp
    · simp only [List.mem_cons, ih]; constructor
      · rintro (h | h | h) <;> simp [h]
      · rintro (h | h | h) <;> simp [h]

theorem insL_length {x : α} : ∀ {l : List α}, (insL lt x l).length = l.length + 1 := by
  intro l
  induction l with
  | nil => rfl
  | cons y l ih => simp only [insL]; split <;> simp [ih]

theorem insL_sorted (asymm : ∀ a b, lt a b = true → lt b a = false) (up : ∀ x y z, lt x y = true → lt z y = false → lt x z = true) {x : α} : ∀ {l : List α}, Sorted lt l → Sorted lt (insL lt x l) := by
  intro l
  induction l with
  | nil => intro _; simp [insL, Sorted]
  | cons y l ih =>
    intro hs
    simp only [Sorted, List.pairwise_cons] at hs
    simp only [insL]
    split
    · rename_i h
      simp only [Sorted, List.pairwise_cons, List.mem_cons]
      refine ⟨fun z hz => ?_, hs⟩
      rcases hz with rfl | hz
      · exact asymm _ _ h
      · exact asymm _ _ (up _ _ _ h (hs.1 z hz))
    · rename_i h
      simp only [Sorted, List.pairwise_cons]
      refine ⟨fun z hz => ?_, ih hs.2⟩
      rcases (insL_mem lt).1 hz with rfl | hz
      · simpa using h
      · exact hs.1 z hz

def isort (l : List α) : List α := l.foldl (fun out x => insL lt x out) []
end
end Go.AM
