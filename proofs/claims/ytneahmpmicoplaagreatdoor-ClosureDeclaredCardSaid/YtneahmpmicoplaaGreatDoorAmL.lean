/-
  PLAIN FACTS: the order of byte strings; comparing by parts; inserting into a sorted list.
-/
import Derived.Test.YtneahmpmicoplaaGreatDoorAmS
set_option linter.unusedVariables false
namespace Go.AM
theorem bl_irrefl (a : List UInt8) : Op.bytesLess a a = false := by
  induction a with
  | nil => rfl
  | cons x a ih => simp [Op.bytesLess, ih]
theorem bl_total : ∀ (a b : List UInt8), Op.bytesLess a b = false → a ≠ b → Op.bytesLess b a = true := by
  intro a
  induction a with
  | nil => intro b h hne; cases b with
    | nil => exact absurd rfl hne
    | cons y b => simp [Op.bytesLess] at h
  | cons x a ih =>
    intro b h hne
    cases b with
    | nil => rfl
    | cons y b =>
      simp only [Op.bytesLess, Bool.or_eq_false_iff, decide_eq_false_iff_not, Bool.and_eq_false_iff] at h
      simp only [Op.bytesLess, Bool.or_eq_true, decide_eq_true_eq, Bool.and_eq_true, beq_iff_eq]
      by_cases e : x = y
      · subst e
        refine .inr ⟨rfl, ih b (h.2.resolve_left (by simp)) fun e => hne (by rw [e])⟩
      · refine .inl ?_
        have h1 := h.1
        simp only [UInt8.lt_iff_toNat_lt] at h1 ⊢
        have : x.toNat ≠ y.toNat := fun e2 => e (UInt8.toNat.inj e2)
        omega
theorem bl_trans : ∀ (a b c : List UInt8), Op.bytesLess a b = true → Op.bytesLess b c = true → Op.bytesLess a c = true := by
  intro a
  induction a with
  | nil => intro b c h1 h2; cases c with
    | nil => simp [Op.bytesLess] at h2
    | cons z c => rfl
  | cons x a ih =>
    intro b c h1 h2
    cases b with
    | nil => simp [Op.bytesLess] at h1
    | cons y b => cases c with
      | nil => simp [Op.bytesLess] at h2
      | cons z c =>
        simp only [Op.bytesLess, Bool.or_eq_true, decide_eq_true_eq, Bool.and_eq_true, beq_iff_eq, UInt8.lt_iff_toNat_lt] at h1 h2 ⊢
        rcases h1 with h1 | ⟨rfl, h1⟩
        · rcases h2 with h2 | ⟨rfl, h2⟩
          · exact .inl (by omega)
          · exact .inl h1
        · rcases h2 with h2 | ⟨rfl, h2⟩
          · exact .inl h2
          · exact .inr ⟨rfl, ih b c h1 h2⟩
theorem bl_asymm {a b : List UInt8} (h : Op.bytesLess a b = true) : Op.bytesLess b a = false := by
  cases e : Op.bytesLess b a with
  | false => rfl
  | true => have := bl_trans _ _ _ h e; rw [bl_irrefl] at this; cases this
/-! inserting -/
section
variable {α : Type} (lt : α → α → Bool)
def insL (x : α) : List α → List α
  | [] => [x]
  | y :: l => if lt x y = true then x :: y :: l else y :: insL x l
def Sorted (l : List α) : Prop := l.Pairwise fun a b => lt b a = false
theorem insL_split {x : α} {p q : List α} (hp : ∀ y ∈ p, lt x y = false) (hq : ∀ y ∈ q, lt x y = true) : insL lt x (p ++ q) = p ++ x :: q := by
  induction p with
  | nil => cases q with
    | nil => rfl
    | cons y q => simp only [List.nil_append, insL]; rw [if_pos (hq y (List.mem_cons_self ..))]
  | cons y p ih =>
    simp only [List.cons_append, insL]
    rw [if_neg (by simp [hp y (List.mem_cons_self ..)]), ih fun z hz => hp z (List.mem_cons_of_mem _ hz)]
theorem insL_mem {x y : α} : ∀ {l : List α}, y ∈ insL lt x l ↔ y = x ∨ y ∈ l := by
  intro l
  induction l with
  | nil => simp [insL]
  | cons z l ih =>
    simp only [insL]
    split
    · simp
    · simp only [List.mem_cons, ih]; constructor
      · rintro (h | h | h) <;> simp [h]
      · rintro (h | h | h) <;> simp [h]
theorem insL_length {x : α} : ∀ {l : List α}, (insL lt x l).length = l.length + 1 := by
  intro l
  induction l with
  | nil => rfl
  | cons y l ih => simp only [insL]; split <;> simp [ih]
theorem insL_sorted (asymm : ∀ a b, lt a b = true → lt b a = false) (up : ∀ x y z, lt x y = true → lt z y = false → lt x z = true) {x : α} : ∀ {l : List α}, Sorted lt l → Sorted lt (insL lt x l) := by
  intro l
  induction l with
  | nil => intro _; simp [insL, Sorted]
  | cons y l ih =>
    intro hs
    simp only [Sorted, List.pairwise_cons] at hs
    simp only [insL]
    split
    · rename_i h
      simp only [Sorted, List.pairwise_cons, List.mem_cons]
      refine ⟨fun z hz => ?_, hs⟩
      rcases hz with rfl | hz
      · exact asymm _ _ h
      · exact asymm _ _ (up _ _ _ h (hs.1 z hz))
    · rename_i h
      simp only [Sorted, List.pairwise_cons]
      refine ⟨fun z hz => ?_, ih hs.2⟩
      rcases (insL_mem lt).1 hz with rfl | hz
      · simpa using h
      · exact hs.1 z hz
def isort (l : List α) : List α := l.foldl (fun out x => insL lt x out) []
end
end Go.AM
