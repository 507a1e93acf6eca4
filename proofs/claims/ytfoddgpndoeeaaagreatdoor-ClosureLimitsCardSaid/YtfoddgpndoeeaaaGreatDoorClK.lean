/-
  The Closure laws: the codes of declared types, their family of intersections, names (ref02.Of, Has, List, Count; ref04).
-/
import Derived.Test.YtfoddgpndoeeaaaGreatDoorClJ
set_option linter.unusedVariables false
set_option linter.unusedSimpArgs false
set_option linter.unusedSectionVars false
namespace Go.Proofs.YtfoddgpndoeeaaaGreatDoor.cl
open Go Go.AM

/-- the word with these bits -/
def mk (w : Nat) : List Nat → Nat
  | [] => w
  | j :: l => mk (w ||| 2 ^ j) l
theorem mk_bit : ∀ (l : List Nat) (w i : Nat), (mk w l).testBit i = (w.testBit i || decide (i ∈ l)) := by
  intro l
  induction l with
  | nil => intro w i; simp [mk]
  | cons j l ih =>
    intro w i
    rw [mk, ih, Nat.testBit_or, Nat.testBit_two_pow]
    by_cases h : j = i
    · subst h; simp
    · have : ¬ i = j := fun e => h e.symm
      simp [h, this]
theorem pow_lt64 {j : Nat} (h : j < 64) : 2 ^ j < 18446744073709551616 := by
  have := Nat.pow_lt_pow_right (a := 2) (by omega) h
  simpa using this
theorem mk_lt : ∀ (l : List Nat) (w : Nat), w < 18446744073709551616 → (∀ j ∈ l, j < 64) → mk w l < 18446744073709551616 := by
  intro l
  induction l with
  | nil => intro w h _; exact h
  | cons j l ih => intro w h hj; exact ih _ (or_lt h (pow_lt64 (hj j (by simp)))) fun k hk => hj k (by simp [hk])
abbrev row64 (w : Nat) : W := (w : Int) :: List.replicate 63 0
theorem norm_row64 (w : Nat) : norm (row64 w) = e1 w := by
  rw [← norm_e1 w]
  apply norm_ext
  intro j
  cases j with
  | zero => rw [wd_e1]; rfl
  | succ j =>
    rw [wd_e1_succ]
    unfold wd row64
    rw [List.getD_cons_succ, List.getD_eq_getElem?_getD, List.getElem?_replicate]
    split <;> rfl
theorem tdiv64 {x : Nat} (h : x < 64) : Int.tdiv (x : Int) 64 = 0 := by
  rw [Int.tdiv_eq_ediv_of_nonneg (by omega)]; omega
theorem tmod64 {x : Nat} (h : x < 64) : Int.tmod (x : Int) 64 = (x : Int) := by
  rw [Int.tmod_eq_emod_of_nonneg (by omega)]; omega
theorem wrapU64_nat {p : Nat} (h : p < 18446744073709551616) : IntKind.wrap .u64 (p : Int) = (p : Int) := wrapU64_id (by omega) (by omega)
/-! bits -/
def bitsOf (w : Nat) : List Nat := (List.range 64).filter w.testBit
/-- how many bits -/
def pc (w : Nat) : Nat := (bitsOf w).length
theorem filter_length_lt {α : Type} {p q : α → Bool} : ∀ {l : List α}, (∀ x ∈ l, p x = true → q x = true) → (∃ x ∈ l, p x = false ∧ q x = true) → (l.filter p).length < (l.filter q).length := by
  intro l
  induction l with
  | nil => rintro _ ⟨x, hx, _⟩; cases hx
  | cons y l ih =>
    intro h1 h2
    have hle : ∀ {l : List α}, (∀ x ∈ l, p x = true → q x = true) → (l.filter p).length ≤ (l.filter q).length := by
      intro l
      induction l with
      | nil => intro _; simp
      | cons z l ih' =>
        intro h
        have := ih' fun x hx => h x (by simp [hx])
        cases hp : p z with
        | true => simp [List.filter_cons, hp, h z (by simp) hp]; omega
        | false => cases hq : q z <;> simp [List.filter_cons, hp, hq] <;> omega
    have hl := hle (l := l) fun x hx => h1 x (by simp [hx])
    obtain ⟨x, hx, hpx, hqx⟩ := h2
    rcases List.mem_cons.1 hx with rfl | hx
    · simp [List.filter_cons, hpx, hqx]; omega
    · have := ih (fun x hx => h1 x (by simp [hx])) ⟨x, hx, hpx, hqx⟩
      cases hp : p y with
      | true => simp [List.filter_cons, hp, h1 y (by simp) hp]; omega
      | false => cases hq : q y <;> simp [List.filter_cons, hp, hq] <;> omega
theorem pc_lt {a b : Nat} (hb : b < 18446744073709551616) (h : sub a b = true) (hne : a ≠ b) : pc a < pc b := by
  apply filter_length_lt
  · intro i _ hi; exact sub_bit.1 h i hi
  · apply Classical.byContradiction
    intro hc
    apply hne
    refine sub_antisymm h (sub_bit.2 fun i hi => ?_)
    have hi64 : i < 64 := by
      apply Classical.byContradiction; intro hc
      have : b.testBit i = false := Nat.testBit_lt_two_pow (Nat.lt_of_lt_of_le (by simpa using hb : b < 2 ^ 64) (Nat.pow_le_pow_right (by omega) (by omega)))
      rw [this] at hi; cases hi
    cases ha : a.testBit i with
    | true => rfl
    | false => exact absurd ⟨i, by simpa using hi64, ha, hi⟩ hc

/-! the code of a declared type -/
open Classical in
noncomputable def idxs (d : List TypeDecl) (all : List Str) (x : Str) : List Nat := (List.range all.length).filter fun i => decide (Le d x (all.getD i []))
noncomputable def cw (d : List TypeDecl) (all : List Str) (x : Str) : Nat := mk 0 (idxs d all x)
theorem cw_bit {d : List TypeDecl} {all : List Str} {x : Str} {i : Nat} : (cw d all x).testBit i = true ↔ i < all.length ∧ Le d x (all.getD i []) := by
  rw [cw, mk_bit, Nat.zero_testBit, Bool.false_or, decide_eq_true_iff, idxs, List.mem_filter, List.mem_range]
  simp only [decide_eq_true_eq]
theorem cw_lt {d : List TypeDecl} {all : List Str} {x : Str} (h : all.length ≤ 64) : cw d all x < 18446744073709551616 := mk_lt _ _ (by omega) fun j hj => by
  have := List.mem_range.1 (List.mem_filter.1 hj).1; omega
/-! the family -/
def addF (l : List Nat) (b : Nat) : List Nat := if b = 0 ∨ b ∈ l then l else l ++ [b]
def famIn (i : Nat) : Nat → Nat → List Nat → List Nat
  | 0, _, l => l
  | n + 1, k, l => if l.length ≤ 256 then famIn i n (k + 1) (addF l (l.getD i 0 &&& l.getD k 0)) else l
def famOut : Nat → Nat → List Nat → List Nat
  | 0, _, l => l
  | n + 1, i, l => if i < l.length ∧ l.length ≤ 256 then famOut n (i + 1) (famIn i i 0 l) else l
def fam (cs : List Nat) : List Nat := famOut 258 0 cs
theorem addF_pre (l : List Nat) (b : Nat) : ∃ e, addF l b = l ++ e ∧ e.length ≤ 1 := by
  unfold addF; split
  · exact ⟨[], by simp, by simp⟩
  · exact ⟨[b], rfl, by simp⟩
theorem famIn_pre (i : Nat) : ∀ (n k : Nat) (l : List Nat), l.length ≤ 257 → ∃ e, famIn i n k l = l ++ e ∧ (l ++ e).length ≤ 257 := by
  intro n
  induction n with
  | zero => intro k l h; exact ⟨[], by simp [famIn], by simpa using h⟩
  | succ n ih =>
    intro k l h
    unfold famIn
    split
    · obtain ⟨e, he, hle⟩ := addF_pre l (l.getD i 0 &&& l.getD k 0)
      obtain ⟨e', he', hle'⟩ := ih (k + 1) (addF l (l.getD i 0 &&& l.getD k 0)) (by rw [he]; simp; omega)
      rw [he'] 
      rw [he] at hle' ⊢
      exact ⟨e ++ e', by simp, by simpa using hle'⟩
    · exact ⟨[], by simp, by simpa using h⟩
theorem addF_lt {l : List Nat} {b : Nat} (hl : ∀ c ∈ l, c < 18446744073709551616) (hb : b < 18446744073709551616) : ∀ c ∈ addF l b, c < 18446744073709551616 := by
  intro c hc
  unfold addF at hc; split at hc
  · exact hl c hc
  · rcases List.mem_append.1 hc with h | h
    · exact hl c h
    · simp only [List.mem_singleton] at h; subst h; exact hb
theorem getD_map {l : List Nat} {i : Nat} (h : i < l.length) : (l.map e1)[i]? = some (e1 (l.getD i 0)) := by
  rw [List.getElem?_map, List.getD_eq_getElem?_getD, List.getElem?_eq_getElem h]; rfl
theorem getD_lt {l : List Nat} {i : Nat} (hl : ∀ c ∈ l, c < 18446744073709551616) (h : i < l.length) : l.getD i 0 < 18446744073709551616 := hl _ (getD_mem0 h)
theorem famIn_lt (i : Nat) : ∀ (n k : Nat) (l : List Nat), (∀ c ∈ l, c < 18446744073709551616) → ∀ c ∈ famIn i n k l, c < 18446744073709551616 := by
  intro n
  induction n with
  | zero => intro k l h; exact h
  | succ n ih =>
    intro k l h
    unfold famIn
    split
    · refine ih _ _ (addF_lt h ?_)
      by_cases hi : i < l.length
      · exact Nat.lt_of_le_of_lt Nat.and_le_left (getD_lt h hi)
      · rw [List.getD_eq_getElem?_getD, List.getElem?_eq_none (by omega)]; simp
    · exact h
/-! what the family is -/
structure Fm (cs l : List Nat) : Prop where
  nd : l.Nodup
  nz : ∀ c ∈ l, c ≠ 0
  gen : ∀ P : Nat → Prop, (∀ c ∈ cs, P c) → (∀ a b, P a → P b → P (a &&& b)) → ∀ c ∈ l, P c
  pre : ∃ e, l = cs ++ e
theorem Fm.add {cs l : List Nat} (h : Fm cs l) {i k : Nat} (hi : i < l.length) (hk : k < l.length) : Fm cs (addF l (l.getD i 0 &&& l.getD k 0)) := by
  unfold addF
  split
  · exact h
  · rename_i hc
    simp only [not_or] at hc
    refine ⟨?_, ?_, ?_, ?_⟩
    · rw [List.nodup_append]
      exact ⟨h.nd, by simp, fun a ha b hb => by simp only [List.mem_singleton] at hb; subst hb; exact fun e => hc.2 (e ▸ ha)⟩
    · intro c hc'
      rcases List.mem_append.1 hc' with h' | h'
      · exact h.nz c h'
      · simp only [List.mem_singleton] at h'; subst h'; exact hc.1
    · intro P h1 h2 c hc'
      rcases List.mem_append.1 hc' with h' | h'
      · exact h.gen P h1 h2 c h'
      · simp only [List.mem_singleton] at h'; subst h'
        exact h2 _ _ (h.gen P h1 h2 _ (getD_mem0 hi)) (h.gen P h1 h2 _ (getD_mem0 hk))
    · obtain ⟨e, he⟩ := h.pre
      exact ⟨e ++ [l.getD i 0 &&& l.getD k 0], by rw [he]; simp⟩
theorem getD_pre {l e : List Nat} {i : Nat} (h : i < l.length) : (l ++ e).getD i 0 = l.getD i 0 := by
  rw [List.getD_eq_getElem?_getD, List.getD_eq_getElem?_getD, List.getElem?_append_left h]
theorem addF_in (l : List Nat) (b : Nat) : b = 0 ∨ b ∈ addF l b := by
  unfold addF; split
  · assumption
  · simp
theorem famIn_spec {cs : List Nat} (i : Nat) : ∀ (n k : Nat) (l : List Nat), Fm cs l → i < l.length → k + n ≤ i → Fm cs (famIn i n k l) ∧ ((famIn i n k l).length ≤ 256 → ∀ j, k ≤ j → j < k + n → l.getD i 0 &&& l.getD j 0 = 0 ∨ l.getD i 0 &&& l.getD j 0 ∈ famIn i n k l) ∧ ∃ e, famIn i n k l = l ++ e := by
  intro n
  induction n with
  | zero => intro k l h hi hk; exact ⟨h, fun _ j h1 h2 => by omega, [], by simp [famIn]⟩
  | succ n ih =>
    intro k l h hi hk
    unfold famIn
    split
    · obtain ⟨e, he, _⟩ := addF_pre l (l.getD i 0 &&& l.getD k 0)
      have hil : i < (addF l (l.getD i 0 &&& l.getD k 0)).length := by rw [he]; simp; omega
      obtain ⟨a1, a2, e', a3⟩ := ih (k + 1) _ (h.add hi (by omega)) hil (by omega)
      refine ⟨a1, fun hlen j h1 h2 => ?_, e ++ e', by rw [a3, he]; simp⟩
      by_cases hj : j = k
      · subst hj
        rcases addF_in l (l.getD i 0 &&& l.getD j 0) with h0 | h0
        · exact .inl h0
        · right; rw [a3]; exact List.mem_append_left _ h0
      · have := a2 hlen j (by omega) (by omega)
        rw [he, getD_pre hi, getD_pre (by omega)] at this
        rw [he]; exact this
    · rename_i hc
      refine ⟨h, fun hlen => absurd hlen hc, [], by simp⟩
theorem famOut_spec {cs : List Nat} : ∀ (n i : Nat) (l : List Nat), 258 ≤ i + n → l.length ≤ 257 → Fm cs l → (∀ a b, a < i → b < a → a < l.length → l.getD a 0 &&& l.getD b 0 = 0 ∨ l.getD a 0 &&& l.getD b 0 ∈ l) →
    Fm cs (famOut n i l) ∧ (famOut n i l).length ≤ 257 ∧ ((famOut n i l).length ≤ 256 → ∀ a b, b < a → a < (famOut n i l).length → (famOut n i l).getD a 0 &&& (famOut n i l).getD b 0 = 0 ∨ (famOut n i l).getD a 0 &&& (famOut n i l).getD b 0 ∈ famOut n i l) := by
  intro n
  induction n with
  | zero =>
    intro i l hn hlen h hc
    exact ⟨h, hlen, fun _ a b h1 h2 => hc a b (by have h2' : a < l.length := h2; omega) h1 h2⟩
  | succ n ih =>
    intro i l hn hlen h hc
    unfold famOut
    split
    · rename_i hi
      obtain ⟨a1, a2, e, a3⟩ := famIn_spec (cs := cs) i i 0 l h hi.1 (by omega)
      obtain ⟨e', he', hle'⟩ := famIn_pre i i 0 l hlen
      have hlen' : (famIn i i 0 l).length ≤ 257 := by rw [he']; exact hle'
      by_cases hlen2 : (famIn i i 0 l).length ≤ 256
      · refine ih (i + 1) _ (by omega) hlen' a1 ?_
        intro a b hai hba hal
        by_cases hai' : a = i
        · subst hai'
          rw [a3, getD_pre hi.1, getD_pre (by omega), ← a3]
          exact a2 hlen2 b (by omega) (by omega)
        · rw [a3, getD_pre (by omega), getD_pre (by omega)]
          rcases hc a b (by omega) hba (by omega) with h0 | h0
          · exact .inl h0
          · exact .inr (List.mem_append_left _ h0)
      · have hstop : ∀ n, famOut n (i + 1) (famIn i i 0 l) = famIn i i 0 l := by
          intro n
          cases n with
          | zero => rfl
          | succ n => unfold famOut; rw [if_neg (fun h => hlen2 h.2)]
        rw [hstop]
        exact ⟨a1, hlen', fun h => absurd h hlen2⟩
    · rename_i hi
      refine ⟨h, hlen, fun h256 a b h1 h2 => ?_⟩
      have : ¬ i < l.length := fun hh => hi ⟨hh, h256⟩
      exact hc a b (by omega) h1 h2
theorem fam_spec {cs : List Nat} (hnd : cs.Nodup) (hnz : ∀ c ∈ cs, c ≠ 0) (hlen : cs.length ≤ 256) : Fm cs (fam cs) ∧ (fam cs).length ≤ 257 ∧ ((fam cs).length ≤ 256 → ∀ a ∈ fam cs, ∀ b ∈ fam cs, a &&& b ≠ 0 → a &&& b ∈ fam cs) := by
  obtain ⟨h1, h2, h3⟩ := famOut_spec (cs := cs) 258 0 cs (by omega) (by omega) ⟨hnd, hnz, fun P h1 _ => h1, [], by simp⟩ (fun a b h => by omega)
  refine ⟨h1, h2, fun hle a ha b hb hne => ?_⟩
  obtain ⟨i, hi, rfl⟩ := List.mem_iff_getElem.1 ha
  obtain ⟨j, hj, rfl⟩ := List.mem_iff_getElem.1 hb
  have e1' : (fam cs)[i] = (fam cs).getD i 0 := by rw [List.getD_eq_getElem?_getD, List.getElem?_eq_getElem hi]; rfl
  have e2' : (fam cs)[j] = (fam cs).getD j 0 := by rw [List.getD_eq_getElem?_getD, List.getElem?_eq_getElem hj]; rfl
  rw [e1', e2'] at hne ⊢
  by_cases e : i = j
  · subst e; rw [Nat.and_self]; exact getD_mem0 hi
  · by_cases hlt : j < i
    · exact (h3 hle i j hlt hi).resolve_left hne
    · rw [Nat.and_comm] at hne ⊢
      exact (h3 hle j i (by omega) hj).resolve_left hne
end Go.Proofs.YtfoddgpndoeeaaaGreatDoor.cl
