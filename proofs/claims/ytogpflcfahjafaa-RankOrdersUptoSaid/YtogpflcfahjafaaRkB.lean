/-
  RankOrders: comparing derivations; sizes.
-/
import Derived.Test.YtogpflcfahjafaaRkA
set_option linter.unusedVariables false
set_option linter.unusedSimpArgs false
namespace Go.Proofs.Ytogpflcfahjafaa.rk
open Go Go.AM

/-! sizes -/
mutual
def Deriv.size : Deriv → Nat
  | .mk _ n _ _ l => n.length + 1 + Deriv.sizes l
def Deriv.sizes : List Deriv → Nat
  | [] => 0
  | x :: l => Deriv.size x + Deriv.sizes l
end
theorem Deriv.size_eq (d : Deriv) : d.size = d.Name.length + 1 + Deriv.sizes d.Kids := by cases d; rfl
theorem Deriv.size_pos (d : Deriv) : 1 ≤ d.size := by rw [Deriv.size_eq]; omega
theorem Deriv.sizes_mem {x : Deriv} {l : List Deriv} (h : x ∈ l) : x.size ≤ Deriv.sizes l := by
  induction l with
  | nil => cases h
  | cons y l ih =>
    simp only [Deriv.sizes]
    cases List.mem_cons.1 h with
    | inl e => subst e; omega
    | inr e => have := ih e; omega
theorem Deriv.sizes_len (l : List Deriv) : l.length ≤ Deriv.sizes l := by
  induction l with
  | nil => simp
  | cons y l ih => have := Deriv.size_pos y; simp only [Deriv.sizes, List.length_cons]; omega
theorem Deriv.kid_lt {x d : Deriv} (h : x ∈ d.Kids) : x.size < d.size := by
  have := Deriv.sizes_mem h; rw [Deriv.size_eq d]; omega
theorem Deriv.kids_le (d : Deriv) : d.Kids.length < d.size := by
  have := Deriv.sizes_len d.Kids; rw [Deriv.size_eq d]; omega

/-! the order of derivations -/
mutual
def cmpD : Deriv → Deriv → Int
  | .mk k n f t l, .mk k' n' f' t' l' => lex (cmpI f f') (lex (cmpI t t') (lex (cmpI k k') (lex (cmpB n n') (cmpL l l'))))
def cmpL : List Deriv → List Deriv → Int
  | [], [] => 0
  | [], _ :: _ => -1
  | _ :: _, [] => 1
  | x :: l, y :: m => lex (cmpD x y) (cmpL l m)
end
theorem cmpD_eq (a b : Deriv) : cmpD a b = lex (cmpI a.From b.From) (lex (cmpI a.To b.To) (lex (cmpI a.Kind b.Kind) (lex (cmpB a.Name b.Name) (cmpL a.Kids b.Kids)))) := by
  cases a; cases b; rw [cmpD]; rfl
mutual
theorem triD : ∀ a b x : Deriv, Tri (cmpD a b) (cmpD a x) (cmpD x b)
  | .mk k n f t l, .mk k' n' f' t' l', .mk k2 n2 f2 t2 l2 => by
    simp only [cmpD]
    exact tri_lex (tri_int _ _ _) (tri_lex (tri_int _ _ _) (tri_lex (tri_int _ _ _) (tri_lex (tri_str _ _ _) (triL l l' l2))))
theorem triL : ∀ a b x : List Deriv, Tri (cmpL a b) (cmpL a x) (cmpL x b)
  | [], [], [] => by simp [cmpL, Tri]
  | [], [], _ :: _ => by simp [cmpL, Tri]
  | [], _ :: _, [] => by simp [cmpL, Tri]
  | [], _ :: _, _ :: _ => by simp [cmpL, Tri]
  | _ :: _, [], [] => by simp [cmpL, Tri]
  | _ :: _, [], _ :: _ => by simp [cmpL, Tri]
  | _ :: _, _ :: _, [] => by simp [cmpL, Tri]
  | a :: l, b :: m, x :: k => by simp only [cmpL]; exact tri_lex (triD a b x) (triL l m k)
end
mutual
theorem cmpD_self : ∀ a : Deriv, cmpD a a = 0
  | .mk k n f t l => by simp [cmpD, lex, cmpI_self, cmpB_self, cmpL_self l]
theorem cmpL_self : ∀ a : List Deriv, cmpL a a = 0
  | [] => by simp [cmpL]
  | x :: l => by simp [cmpL, lex, cmpD_self x, cmpL_self l]
end

theorem c21 (a b : Int) : Rn 21 [.pv (.int .i64 a), .pv (.int .i64 b)] [] = some (R21.enc (cmpI a b), []) := by
  refine b21 a b ?_
  simp only [cmpI, Bool.cond_eq_ite, decide_eq_true_eq]
  split
  · rfl
  · split <;> rfl
theorem c37 (a : Int) : Rn 37 [.pv (.int .i64 a)] [] = some (R37.enc false, []) := by
  refine b37 a ?_
  simp [R37.enc]
theorem c44 (a : List UInt8) : Rn 44 [.pv (.str a)] [] = some (R44.enc false, []) := by
  refine b44 a ?_
  simp [R44.enc]
theorem c26 (a b : Int) : Rn 26 [.pv (.int .i64 a), .pv (.int .i64 b)] [] = some (R26.enc (cmpI a b), []) := by
  refine b26 a b ?_
  simp only [c37, callE_some', asE_enc, cmpI, Bool.cond_eq_ite, decide_eq_true_eq, if_false, Bool.false_eq_true]
  split
  · rfl
  · split <;> rfl
theorem c34 (a b : List UInt8) : Rn 34 [.pv (.str a), .pv (.str b)] [] = some (R34.enc (cmpB a b), []) := by
  refine b34 a b ?_
  simp only [c44, callE_some', asE_enc, cmpB, Bool.cond_eq_ite, if_false, Bool.false_eq_true]
  by_cases h : Op.bytesLess a b = true
  · simp only [h, if_true]; rfl
  · by_cases e : a = b
    · subst e; simp [bl_irrefl]; rfl
    · simp [h, e]; rfl
def orI : List Int → Int
  | [] => 0
  | x :: l => lex x (orI l)
theorem h25 (l : List Int) (hl : l.length ≤ 1073741824) : ∀ (n i : Nat), l.length - i = n → headT P cods H prim 25 3 [] [(3, (.pv (.int .i64 0))), (6, (.pv (.lst 1 (List.map (eInt .i64) l)))), (7, (.pv (.int .i64 (l.length : Int)))), (8, (.pv (.int .i64 i)))] [] = some (R25.enc (orI (l.drop i)), []) := by
  intro n
  induction n with
  | zero =>
    intro i hi
    refine L25_3 0 l l.length i ?_
    rw [cond_neg (by simp; omega), List.drop_eq_nil_of_le (by omega)]; rfl
  | succ n ih =>
    intro i hi
    refine L25_3 0 l l.length i ?_
    rw [cond_pos (by simp; omega), getK_map, getK_lt (by omega)]
    simp only [asE_enc]
    rw [drop_getD (show i < l.length by omega), wrap_succ (by omega), ih (i + 1) (by omega)]
    simp only [orI, lex, Bool.cond_eq_ite, bne_iff_ne, ne_eq]
    split <;> first | rfl | (simp_all; done) | (simp_all; rfl)
theorem c25 (l : List Int) (hl : l.length ≤ 1073741824) : Rn 25 [.pv (.lst 1 (List.map (eInt .i64) l))] [] = some (R25.enc (orI l), []) := by
  refine b25 l ?_
  rw [List.length_map]
  exact h25 l hl _ 0 rfl

/-- the comparison of the reference -/
theorem h13 (a b : Deriv) (ha : a.Kids.length ≤ 1073741824) (ih : ∀ x ∈ a.Kids, ∀ y ∈ b.Kids, Rn 13 [.pv (.agg (Deriv.enc x)), .pv (.agg (Deriv.enc y))] [] = some (R13.enc (cmpD x y), [])) :
    ∀ (n i : Nat), a.Kids.length - i = n → i ≤ a.Kids.length → i ≤ b.Kids.length → headT P cods H prim 13 12 [] [(2, (.ptr 2 0)), (3, (.ptr 3 0)), (5, (.pv (.int .i64 i)))] [(2, (.box 36 (List.map .pv (Deriv.enc a)))), (3, (.box 36 (List.map .pv (Deriv.enc b))))] = some (R13.enc (cmpL (a.Kids.drop i) (b.Kids.drop i)), []) := by
  have out : ∀ i : Nat, i ≤ a.Kids.length → i ≤ b.Kids.length → (i = a.Kids.length ∨ i = b.Kids.length) → cmpI (a.Kids.length : Int) (b.Kids.length : Int) = cmpL (a.Kids.drop i) (b.Kids.drop i) := by
    intro i h1 h2 h
    by_cases ea : i = a.Kids.length
    · rw [List.drop_eq_nil_of_le (show a.Kids.length ≤ i by omega)]
      by_cases eb : i = b.Kids.length
      · rw [List.drop_eq_nil_of_le (show b.Kids.length ≤ i by omega)]
        simp [cmpL, cmpI, ← ea, ← eb]
      · rw [drop_getD (show i < b.Kids.length by omega)]
        simp only [cmpL, cmpI]
        rw [if_pos (by omega)]
    · have eb : i = b.Kids.length := by omega
      rw [List.drop_eq_nil_of_le (show b.Kids.length ≤ i by omega), drop_getD (show i < a.Kids.length by omega)]
      simp only [cmpL, cmpI]
      rw [if_neg (by omega), if_pos (by omega)]
  intro n
  induction n with
  | zero =>
    intro i hi h1 h2
    refine L13_12 i a b ?_
    rw [cond_neg (by simp; omega)]
    simp only [List.length_map, c21, callE_some', asE_enc]
    rw [out i h1 h2 (by omega)]; rfl
  | succ n ihn =>
    intro i hi h1 h2
    refine L13_12 i a b ?_
    rw [cond_pos (by simp; omega)]
    by_cases hb : i < b.Kids.length
    · rw [cond_pos (by simp; omega)]
      simp only [Deriv.encX_eq, getK_map, asE_enc]
      rw [getK_lt (by omega), getK_lt hb, ih _ (getD_mem (by omega)) _ (getD_mem hb)]
      simp only [callE_some', asE_enc]
      rw [drop_getD (show i < a.Kids.length by omega), drop_getD hb, wrap_succ (by omega), ihn (i + 1) (by omega) (by omega) (by omega)]
      simp only [cmpL, lex, Bool.cond_eq_ite, bne_iff_ne, ne_eq]
      split <;> first | rfl | (simp_all; done) | (simp_all; rfl)
    · rw [cond_neg (by simp; omega)]
      simp only [List.length_map, c21, callE_some', asE_enc]
      rw [out i h1 h2 (by omega)]; rfl
theorem c13 : ∀ (n : Nat) (a b : Deriv), a.size ≤ n → n ≤ 1073741824 → Rn 13 [.pv (.agg (Deriv.enc a)), .pv (.agg (Deriv.enc b))] [] = some (R13.enc (cmpD a b), []) := by
  intro n
  induction n with
  | zero => intro a b h; have := a.size_pos; omega
  | succ n ih =>
    intro a b h hn
    have hk := a.kids_le
    refine b13 a b ?_
    have hloop := h13 a b (by omega) (fun x hx y _ => ih x y (by have := Deriv.kid_lt hx; omega) (by omega)) _ 0 rfl (by omega) (by omega)
    simp only [c21, callE_some', asE_enc]
    rw [show ((0 : Int)) = ((0 : Nat) : Int) from rfl, hloop, cmpD_eq]
    simp only [List.drop_zero, Bool.cond_eq_ite, bne_iff_ne, ne_eq, lex]
    by_cases h1 : a.From = b.From
    · by_cases h2 : a.To = b.To
      · by_cases h3 : a.Kind = b.Kind
        · by_cases h4 : a.Name = b.Name
          · simp [h1, h2, h3, h4, cmpI_self, cmpB_self]
          · have : cmpB a.Name b.Name ≠ 0 := fun e => h4 (cmpB_eq.1 e)
            simp only [h1, h2, h3, cmpI_self, this]
            simp [h4, cmpB]
            split <;> rfl
        · have : cmpI a.Kind b.Kind ≠ 0 := by unfold cmpI; split <;> (try split) <;> omega
          simp [h1, h2, h3, cmpI_self, this]; rfl
      · have : cmpI a.To b.To ≠ 0 := by unfold cmpI; split <;> (try split) <;> omega
        simp [h1, h2, cmpI_self, this]; rfl
    · have : cmpI a.From b.From ≠ 0 := by unfold cmpI; split <;> (try split) <;> omega
      simp [h1, this]; rfl

/-- the comparison of the program -/
theorem h38 (a b : List Deriv) (ha : a.length ≤ 1073741824) (ih : ∀ x ∈ a, ∀ y ∈ b, Rn 27 [.pv (.agg (Deriv.enc x)), .pv (.agg (Deriv.enc y))] [] = some (R27.enc (cmpD x y), [])) :
    ∀ (n i : Nat), a.length - i = n → i ≤ a.length → i ≤ b.length → headT P cods H prim 38 2 [] [(0, (.pv (.lst 5 (List.map Deriv.encX a)))), (1, (.pv (.lst 5 (List.map Deriv.encX b)))), (2, (.pv (.fn 27 []))), (11, (.pv (.lst 5 (List.map Deriv.encX a)))), (12, (.pv (.int .i64 (a.length : Int)))), (13, (.pv (.int .i64 i)))] [] = some (R38.enc (cmpL (a.drop i) (b.drop i)), []) := by
  intro n
  induction n with
  | zero =>
    intro i hi h1 h2
    refine L38_2 a b a a.length i ?_
    rw [cond_neg (by simp; omega)]
    simp only [List.length_map]
    rw [List.drop_eq_nil_of_le (show a.length ≤ i by omega)]
    by_cases eb : i = b.length
    · rw [List.drop_eq_nil_of_le (show b.length ≤ i by omega), cond_neg (by simp; omega)]
      simp [cmpL]; rfl
    · rw [drop_getD (show i < b.length by omega), cond_pos (by simp; omega)]
      simp [cmpL]; rfl
  | succ n ihn =>
    intro i hi h1 h2
    refine L38_2 a b a a.length i ?_
    rw [cond_pos (by simp; omega)]
    simp only [Deriv.encX_eq, getK_map, asE_enc, List.length_map]
    rw [getK_lt (by omega), drop_getD (show i < a.length by omega)]
    by_cases hb : i < b.length
    · rw [cond_neg (by simp; omega), getK_lt hb, ih _ (getD_mem (by omega)) _ (getD_mem hb)]
      simp only [callE_some', asE_enc]
      have := ihn (i + 1) (by omega) (by omega) (by omega)
      simp only [Deriv.encX_eq] at this
      rw [drop_getD hb, wrap_succ (by omega), this]
      simp only [cmpL, lex, Bool.cond_eq_ite, bne_iff_ne, ne_eq]
      split <;> first | rfl | (simp_all; done) | (simp_all; rfl)
    · rw [cond_pos (by simp; omega), List.drop_eq_nil_of_le (show b.length ≤ i by omega)]
      simp [cmpL]; rfl
theorem c38 (a b : List Deriv) (ha : a.length ≤ 1073741824) (ih : ∀ x ∈ a, ∀ y ∈ b, Rn 27 [.pv (.agg (Deriv.enc x)), .pv (.agg (Deriv.enc y))] [] = some (R27.enc (cmpD x y), [])) :
    Rn 38 [.pv (.lst 5 (List.map Deriv.encX a)), .pv (.lst 5 (List.map Deriv.encX b)), .pv (.fn 27 [])] [] = some (R38.enc (cmpL a b), []) := by
  refine b38 a b ?_
  simp only [List.length_map]
  exact h38 a b ha ih _ 0 rfl (by omega) (by omega)
theorem c27 : ∀ (n : Nat) (a b : Deriv), a.size ≤ n → n ≤ 1073741824 → Rn 27 [.pv (.agg (Deriv.enc a)), .pv (.agg (Deriv.enc b))] [] = some (R27.enc (cmpD a b), []) := by
  intro n
  induction n with
  | zero => intro a b h; have := a.size_pos; omega
  | succ n ih =>
    intro a b h hn
    have hk := a.kids_le
    refine b27 a b ?_
    simp only [c26, c34, callE_some', asE_enc]
    rw [c25 _ (by simp)]
    simp only [callE_some', asE_enc]
    rw [c38 _ _ (by omega) (fun x hx y _ => ih x y (by have := Deriv.kid_lt hx; omega) (by omega))]
    simp only [callE_some', asE_enc, Bool.cond_eq_ite, bne_iff_ne, ne_eq]
    rw [cmpD_eq]
    simp only [orI, lex]
    repeat' split
    all_goals simp_all
    all_goals rfl

/-- a scored derivation stands before another one -/
def cmpS (a b : Scored) : Int := lex (cmpI b.Score a.Score) (cmpD a.Deriv b.Deriv)
def ltS (a b : Scored) : Bool := decide (cmpS a b < 0)
theorem triS (a b x : Scored) : Tri (cmpS a b) (cmpS a x) (cmpS x b) := tri_lex (tri_int' _ _ _) (triD _ _ _)
theorem cmpS_self (a : Scored) : cmpS a a = 0 := by simp [cmpS, lex, cmpI_self, cmpD_self]
theorem ltS_asymm (a b : Scored) (h : ltS a b = true) : ltS b a = false := by
  have := (triS a a b).2 (cmpS_self a)
  simp only [ltS, decide_eq_true_eq, decide_eq_false_iff_not] at *
  omega
theorem ltS_up (x y z : Scored) (h : ltS x y = true) (k : ltS z y = false) : ltS x z = true := by
  have := (triS x y z).1
  simp only [ltS, decide_eq_true_eq, decide_eq_false_iff_not] at *
  exact (this h).resolve_right k

theorem c16 (a b : Scored) (ha : a.Deriv.size ≤ 1073741824) : Rn 16 [.pv (.agg (Scored.enc a)), .pv (.agg (Scored.enc b))] [] = some (R16.enc (cmpS a b), []) := by
  refine b16 a b ?_
  simp only [c26, callE_some', asE_enc, c27 _ a.Deriv b.Deriv ha (Nat.le_refl _)]
  rw [c25 _ (by simp)]
  simp only [callE_some', asE_enc, orI, cmpS, lex]
  repeat' split
  all_goals simp_all
  all_goals rfl
theorem c18 (a b : Scored) (ha : a.Deriv.size ≤ 1073741824) : Rn 18 [.pv (.agg (Scored.enc a)), .pv (.agg (Scored.enc b))] [] = some (R18.enc (ltS a b), []) := by
  refine b18 a b ?_
  simp only [callE_some', asE_enc, c13 _ a.Deriv b.Deriv ha (Nat.le_refl _)]
  unfold ltS cmpS lex cmpI
  simp only [Bool.cond_eq_ite, decide_eq_true_eq]
  repeat' split
  all_goals simp_all
  all_goals first | rfl | omega
end Go.Proofs.Ytogpflcfahjafaa.rk
