/-
  RankOrders: sorting; the law.
-/
import Derived.Test.YtogpflcfahjafaaRkC
set_option linter.unusedVariables false
set_option linter.unusedSimpArgs false
set_option linter.unnecessarySimpa false
namespace Go.Proofs.Ytogpflcfahjafaa.rk
open Go Go.AM

/-- elements whose derivations are small -/
def Small (l : List Scored) : Prop := ∀ x ∈ l, x.Deriv.size ≤ 1073741824

theorem getD_mid {α : Type} [Inhabited α] (p : List α) (x : α) (q : List α) : (p ++ x :: q).getD p.length default = x := by
  simp [List.getD_eq_getElem?_getD]
theorem set_mid {α : Type} (p : List α) (x y : α) (q : List α) : (p ++ x :: q).set p.length y = p ++ y :: q := by
  induction p with
  | nil => rfl
  | cons z p ih => simp [ih]
theorem set_mid' {α : Type} (p : List α) (x y z : α) (q : List α) : (p ++ x :: y :: q).set (p.length + 1) z = p ++ x :: z :: q := by
  have := set_mid (p ++ [x]) y z q
  simpa using this

/-- one element is moved down -/
theorem h35b (x : Scored) (hx : x.Deriv.size ≤ 1073741824) (rest : List Scored) (b : Nat) {r : Out} : ∀ (p q : List Scored), p.length + q.length + rest.length ≤ 1000000000 → Small p → Sorted ltS (p ++ q) → (∀ y ∈ q, ltS x y = true) →
    headT P cods H prim 35 1 [10000] [(0, (.row 10000)), (1, (.pv (.int .i64 0))), (2, (.pv (.int .i64 b))), (3, (.pv (.fn 16 []))), (8, (.pv (.int .i64 ((p.length + q.length + 1 : Nat) : Int))))] [(10000, (.row 42 6 (List.map Scored.enc (insL ltS x (p ++ q) ++ rest))))] = some r →
    headT P cods H prim 35 4 [10000] [(0, (.row 10000)), (1, (.pv (.int .i64 0))), (2, (.pv (.int .i64 b))), (3, (.pv (.fn 16 []))), (8, (.pv (.int .i64 ((p.length + q.length : Nat) : Int)))), (9, (.pv (.int .i64 (p.length : Int))))] [(10000, (.row 42 6 (List.map Scored.enc (p ++ x :: q ++ rest))))] = some r := by
  intro p
  induction h : p.length generalizing p with
  | zero =>
    intro q hlen hp hs hq hgo
    have : p = [] := List.length_eq_zero_iff.1 h
    subst this
    refine L35_4 0 b _ _ _ ?_
    rw [cond_neg (by simp), wrap_succ (by omega)]
    rw [insL_split ltS (p := []) (fun y hy => by cases hy) hq] at hgo
    simpa using hgo
  | succ n ih =>
    intro q hlen hp hs hq hgo
    obtain ⟨p', y, rfl⟩ : ∃ p' y, p = p' ++ [y] := ⟨p.dropLast, p.getLast (by intro e; simp [e] at h), (List.dropLast_concat_getLast _).symm⟩
    have hn : p'.length = n := by simpa using h
    subst hn
    refine L35_4 0 b _ _ _ ?_
    have el : (p' ++ [y]) ++ x :: q ++ rest = p' ++ y :: x :: (q ++ rest) := by simp
    rw [cond_pos (by simp <;> omega), el]
    have e1 : Int.toNat ((p'.length + 1 : Nat) : Int) = p'.length + 1 := by omega
    have e2 : IntKind.wrap .i64 (((p'.length + 1 : Nat) : Int) - 1) = (p'.length : Int) := by rw [wrap64_id (by omega) (by omega)]; omega
    have e3 : Int.toNat (p'.length : Int) = p'.length := by omega
    have g1 : (p' ++ y :: x :: (q ++ rest)).getD (p'.length + 1) default = x := by
      have := getD_mid (p' ++ [y]) x (q ++ rest); simpa using this
    have g2 : (p' ++ y :: x :: (q ++ rest)).getD p'.length default = y := getD_mid _ _ _
    simp only [e1, e2, e3, ← List.map_set, getN_map, asE_enc, List.length_map]
    rw [check_pos (by simp <;> omega), getN_lt (by simp <;> omega), check_pos (by simp <;> omega), getN_lt (by simp <;> omega), g1, g2, c16 x y hx]
    simp only [callE_some', asE_enc]
    cases hlt : ltS x y with
    | true =>
      rw [cond_pos (by simpa [ltS] using hlt)]
      rw [check_pos (by simp <;> omega), getN_lt (by simp <;> omega), check_pos (by simp <;> omega), getN_lt (by simp <;> omega), check_pos (by simp <;> omega), getN_lt (by simp <;> omega), g1, g2, check_pos (by simp <;> omega), getN_lt (by simp <;> omega)]
      rw [set_mid' p' y x y (q ++ rest), set_mid p' y x (y :: (q ++ rest))]
      have := ih p' rfl (y :: q) (by simp at hlen ⊢; omega) (fun z hz => hp z (by simp [hz])) (by simpa using hs) (fun z hz => by
        cases List.mem_cons.1 hz with
        | inl e => subst e; exact hlt
        | inr e => exact hq z e) (by
          have e : p'.length + (y :: q).length = p'.length + 1 + q.length := by simp <;> omega
          rw [e]
          simpa using hgo)
      have e : p'.length + (y :: q).length = p'.length + 1 + q.length := by simp <;> omega
      rw [e] at this
      simpa using this
    | false =>
      rw [cond_neg (by simpa [ltS] using hlt), wrap_succ (by omega)]
      have hall : ∀ z ∈ p' ++ [y], ltS x z = false := by
        intro z hz
        simp only [List.mem_append, List.mem_singleton] at hz
        rcases hz with hz | rfl
        · cases hxz : ltS x z with
          | false => rfl
          | true =>
            have hs' : ltS y z = false := by
              simp only [Sorted, List.append_assoc, List.pairwise_append] at hs
              exact hs.2.2 z hz y (by simp)
            rw [ltS_up x z y hxz hs'] at hlt
            cases hlt
        · exact hlt
      rw [insL_split ltS hall hq] at hgo
      simpa using hgo
theorem insL_small {x : Scored} {l : List Scored} (hx : x.Deriv.size ≤ 1073741824) (hl : Small l) : Small (insL ltS x l) := fun y hy => by
  rcases (insL_mem ltS).1 hy with rfl | h
  · exact hx
  · exact hl y h
theorem h35 (b : Nat) : ∀ (rest s : List Scored), s.length + rest.length = b → 1 ≤ s.length → b ≤ 1000000 → Small s → Small rest → Sorted ltS s →
    headT P cods H prim 35 1 [10000] [(0, (.row 10000)), (1, (.pv (.int .i64 0))), (2, (.pv (.int .i64 b))), (3, (.pv (.fn 16 []))), (8, (.pv (.int .i64 (s.length : Int))))] [(10000, (.row 42 6 (List.map Scored.enc (s ++ rest))))] =
      some (R35.enc (), [(10000, (.row 42 6 (List.map Scored.enc (rest.foldl (fun out x => insL ltS x out) s))))]) := by
  intro rest
  induction rest with
  | nil =>
    intro s hb h1 hm hs hr hso
    refine L35_1 0 b _ _ ?_
    rw [cond_neg (by simp at hb ⊢; omega)]
    simp; rfl
  | cons x rest ih =>
    intro s hb h1 hm hs hr hso
    refine L35_1 0 b _ _ ?_
    simp only [List.length_cons] at hb
    rw [cond_pos (by simp <;> omega)]
    have := h35b x (hr x (by simp)) rest b s [] (by simp <;> omega) hs (by simpa using hso) (fun y hy => by cases hy) (r := (R35.enc (), [(10000, (.row 42 6 (List.map Scored.enc ((x :: rest).foldl (fun out x => insL ltS x out) s))))])) (by
      have h := ih (insL ltS x s) (by rw [insL_length]; omega) (by rw [insL_length]; omega) hm (insL_small (hr x (by simp)) hs) (fun y hy => hr y (by simp [hy])) (insL_sorted ltS ltS_asymm ltS_up hso)
      rw [insL_length] at h
      simpa using h)
    simpa using this
theorem c35 (w : List Scored) (hw : w.length ≤ 1000000) (hs : Small w) : Rn 35 [.row 10000, .pv (.int .i64 0), .pv (.int .i64 (w.length : Int)), .pv (.fn 16 [])] [(10000, (.row 42 6 (List.map Scored.enc w)))] =
    some (R35.enc (), [(10000, (.row 42 6 (List.map Scored.enc (isort ltS w))))]) := by
  refine b35 0 w.length w ?_
  rw [show IntKind.wrap .i64 (0 + 1) = 1 by rfl]
  cases w with
  | nil =>
    refine L35_1 0 _ _ _ ?_
    rw [cond_neg (by simp)]; rfl
  | cons x w =>
    have := h35 (x :: w).length w [x] (by simp <;> omega) (by simp) hw (fun y hy => hs y (by simp at hy; simp [hy])) (fun y hy => hs y (by simp [hy])) (by simp [Sorted])
    exact this
theorem c24 (w : List Scored) (hw : w.length ≤ 19) (hs : Small w) : Rn 24 [.row 10000, .pv (.int .i64 (w.length : Int)), .pv (.fn 16 [])] [(10000, (.row 42 6 (List.map Scored.enc w)))] =
    some (R24.enc (), [(10000, (.row 42 6 (List.map Scored.enc (isort ltS w))))]) := by
  refine b24 w.length w ?_
  refine L24_2 _ _ _ _ _ ?_
  rw [cond_neg (by simp <;> omega), c35 w (by omega) hs, callR_some']
  simp only [asE_enc]
  refine L24_7 _ _ _ ?_
  rw [cond_neg (by simp <;> omega)]; rfl
theorem c15 (w : List Scored) (hw : w.length ≤ 19) (hs : Small w) : Rn 15 [.row 10000, .pv (.fn 16 [])] [(10000, (.row 42 6 (List.map Scored.enc w)))] =
    some (R15.enc (), [(10000, (.row 42 6 (List.map Scored.enc (isort ltS w))))]) := by
  refine b15 w ?_
  rw [List.length_map, c24 w hw hs, callR_some']
  simp only [asE_enc]; rfl

/-! the program's order -/
def scored (m : Model) (l : List Deriv) : List Scored := l.map fun d => ⟨d, sc m d⟩
theorem scored_small {m : Model} {l : List Deriv} (h : ∀ d ∈ l, d.size ≤ 1073741824) : Small (scored m l) := fun x hx => by
  obtain ⟨d, hd, rfl⟩ := List.mem_map.1 hx
  exact h d hd
theorem h8 (m : Model) (hm : m.Weights.length ≤ 1073741824) (hA : Asc m.Weights) (l : List Deriv) (hl : l.length ≤ 19) (hs : ∀ d ∈ l, d.size ≤ 1073741824) (z : Scored) : ∀ (n i : Nat), l.length - i = n → i ≤ l.length →
    headT P cods H prim 8 3 [] [(2, (.ptr 2 0)), (5, (.row 10)), (11, (.pv (.lst 5 (List.map Deriv.encX l)))), (12, (.pv (.int .i64 (l.length : Int)))), (13, (.pv (.int .i64 i)))] [(2, (.box 24 (List.map .pv (Model.enc m)))), (10, (.row 42 6 (List.map Scored.enc (scored m (l.take i) ++ List.replicate (l.length - i) z))))] =
      some (R8.enc (isort ltS (scored m l)), []) := by
  intro n
  induction n with
  | zero =>
    intro i hi hle
    refine L8_3 l l.length i m _ ?_
    rw [cond_neg (by simp <;> omega), List.take_of_length_le (by omega), hi]
    simp only [List.replicate_zero, List.append_nil]
    rw [c15 _ (by simpa [scored] using hl) (scored_small hs), callR_some']
    simp only [asE_enc]; rfl
  | succ n ih =>
    intro i hi hle
    have hlt : i < l.length := by omega
    refine L8_3 l l.length i m _ ?_
    rw [cond_pos (by simp <;> omega)]
    simp only [Deriv.encX_eq, getK_map, asE_enc, getN_map, ← List.map_set]
    rw [getK_lt hlt, c14 m _ hm hA (hs _ (getD_mem hlt))]
    simp only [callE_some', asE_enc, List.length_map]
    have hlen : (scored m (l.take i)).length = i := by simp [scored]; omega
    rw [check_pos (by simp [hlen]; omega), getN_lt (by simp [hlen]; omega), wrap_succ (by omega), hi, List.replicate_succ, show Int.toNat (i : Int) = (scored m (l.take i)).length by omega, set_mid]
    have := ih (i + 1) (by omega) (by omega)
    simp only [Deriv.encX_eq] at this
    rw [show l.length - (i + 1) = n by omega] at this
    rw [show scored m (l.take (i + 1)) = scored m (l.take i) ++ [⟨l.getD i default, sc m (l.getD i default)⟩] by
      rw [scored, List.take_add_one, List.map_append, List.getElem?_eq_getElem hlt, List.getD_eq_getElem?_getD, List.getElem?_eq_getElem hlt]; rfl] at this
    simpa using this
theorem c8 (m : Model) (hm : m.Weights.length ≤ 1073741824) (hA : Asc m.Weights) (l : List Deriv) (hl : l.length ≤ 19) (hs : ∀ d ∈ l, d.size ≤ 1073741824) :
    Rn 8 [.pv (.agg (Model.enc m)), .pv (.lst 5 (List.map Deriv.encX l))] [] = some (R8.enc (isort ltS (scored m l)), []) := by
  refine b8 m l ?_
  rw [check_pos (by simp <;> omega)]
  have := h8 m hm hA l hl hs (Scored.mk (Deriv.mk 0 [] 0 0 []) 0) _ 0 rfl (by omega)
  simpa [scored] using this

/-! the reference's order -/
theorem h9b (m : Model) (l : List Deriv) (out : List Scored) (i : Nat) (x : Scored) (hx : x.Deriv.size ≤ 1073741824) (hi : i ≤ 1000000) (ho : out.length ≤ 1000000) {r : Out} : ∀ (n k : Nat) (done : Bool) (o : List Scored), out.length - k = n → k ≤ out.length → o.length ≤ k + done.toNat →
    headT P cods H prim 9 3 [] [(1, (.pv (.lst 5 (List.map Deriv.encX l)))), (2, (.ptr 2 0)), (5, (.pv (.lst 6 (List.map Scored.enc (o ++ if done = true then out.drop k else insL ltS x (out.drop k)))))), (6, (.pv (.int .i64 ((i + 1 : Nat) : Int))))] [(2, (.box 24 (List.map .pv (Model.enc m))))] = some r →
    headT P cods H prim 9 9 [] [(1, (.pv (.lst 5 (List.map Deriv.encX l)))), (2, (.ptr 2 0)), (5, (.pv (.lst 6 (List.map Scored.enc out)))), (6, (.pv (.int .i64 i))), (7, (.ptr 7 0)), (8, (.row 29)), (9, (.pv (.bool done))), (10, (.pv (.int .i64 k)))] [(2, (.box 24 (List.map .pv (Model.enc m)))), (7, (.box 42 (List.map .pv (Scored.enc x)))), (29, (.row 42 6 (List.map Scored.enc o)))] = some r := by
  intro n
  induction n with
  | zero =>
    intro k done o hn hk hok hgo
    refine L9_9 l out i done k m x o ?_
    rw [cond_neg (by simp <;> omega), wrap_succ (by omega)]
    rw [List.drop_eq_nil_of_le (by omega)] at hgo
    cases done with
    | true => simpa using hgo
    | false =>
      simp only [Bool.toNat_false] at hok
      rw [cond_pos (by rfl), check_pos (by simp <;> omega), ← List.map_append]
      simpa [insL] using hgo
  | succ n ih =>
    intro k done o hn hk hok hgo
    have hlt : k < out.length := by omega
    refine L9_9 l out i done k m x o ?_
    rw [cond_pos (by simp <;> omega), wrap_succ (by omega)]
    simp only [getK_map, asE_enc]
    rw [drop_getD hlt] at hgo
    cases done with
    | true =>
      simp only [Bool.toNat_true] at hok
      rw [cond_neg (by rfl), getK_lt hlt, check_pos (by simp <;> omega), ← List.map_append]
      refine ih (k + 1) true _ (by omega) (by omega) (by simp <;> omega) ?_
      simpa using hgo
    | false =>
      simp only [Bool.toNat_false] at hok
      rw [cond_pos (by rfl), getK_lt hlt, c18 x _ hx]
      simp only [callE_some', asE_enc]
      cases hb : ltS x (out.getD k default) with
      | true =>
        rw [cond_pos rfl, check_pos (by simp <;> omega), getK_lt hlt, check_pos (by simp <;> omega), ← List.map_append, ← List.map_append]
        refine ih (k + 1) true _ (by omega) (by omega) (by simp <;> omega) ?_
        simp only [insL, hb] at hgo
        simpa using hgo
      | false =>
        rw [cond_neg rfl, getK_lt hlt, check_pos (by simp <;> omega), ← List.map_append]
        refine ih (k + 1) false _ (by omega) (by omega) (by simp <;> omega) ?_
        simp only [insL, hb] at hgo
        simpa using hgo
theorem h9 (m : Model) (hm : m.Weights.length ≤ 1073741824) (l : List Deriv) (hl : l.length ≤ 1000000) (hs : ∀ d ∈ l, d.size ≤ 1073741824) : ∀ (n i : Nat) (out : List Scored), l.length - i = n → out.length ≤ i →
    headT P cods H prim 9 3 [] [(1, (.pv (.lst 5 (List.map Deriv.encX l)))), (2, (.ptr 2 0)), (5, (.pv (.lst 6 (List.map Scored.enc out)))), (6, (.pv (.int .i64 i)))] [(2, (.box 24 (List.map .pv (Model.enc m))))] =
      some (R9.enc ((scored m (l.drop i)).foldl (fun out x => insL ltS x out) out), []) := by
  intro n
  induction n with
  | zero =>
    intro i out hi ho
    refine L9_3 l out i m ?_
    rw [cond_neg (by simp <;> omega), List.drop_eq_nil_of_le (by omega)]; rfl
  | succ n ih =>
    intro i out hi ho
    have hlt : i < l.length := by omega
    refine L9_3 l out i m ?_
    rw [cond_pos (by simp <;> omega)]
    simp only [Deriv.encX_eq, getK_map, asE_enc]
    rw [getK_lt hlt, getK_lt hlt, c17 m _ hm (hs _ (getD_mem hlt))]
    simp only [callE_some', asE_enc]
    have h := h9b m l out i ⟨l.getD i default, sc m (l.getD i default)⟩ (hs _ (getD_mem hlt)) (by omega) (by omega) _ 0 false [] rfl (by omega) (by simp) (r := (R9.enc ((scored m (l.drop i)).foldl (fun out x => insL ltS x out) out), [])) (by
      have := ih (i + 1) (insL ltS ⟨l.getD i default, sc m (l.getD i default)⟩ out) (by omega) (by rw [insL_length]; omega)
      rw [drop_getD hlt]
      simpa [scored] using this)
    simp only [Deriv.encX_eq] at h
    exact h
theorem c9 (m : Model) (hm : m.Weights.length ≤ 1073741824) (l : List Deriv) (hl : l.length ≤ 1000000) (hs : ∀ d ∈ l, d.size ≤ 1073741824) :
    Rn 9 [.pv (.agg (Model.enc m)), .pv (.lst 5 (List.map Deriv.encX l))] [] = some (R9.enc (isort ltS (scored m l)), []) :=
  b9 m l (h9 m hm l hl hs _ 0 [] rfl (by simp))

/-! equal lists -/
theorem h7 (a : List Scored) (ha : a.length ≤ 1000000) (hs : Small a) : ∀ (n i : Nat), a.length - i = n →
    headT P cods H prim 7 4 [] [(0, (.pv (.lst 6 (List.map Scored.enc a)))), (1, (.pv (.lst 6 (List.map Scored.enc a)))), (5, (.pv (.int .i64 i)))] [] = some (R7.enc true, []) := by
  intro n
  induction n with
  | zero =>
    intro i hi
    refine L7_4 a a i ?_
    rw [cond_neg (by simp <;> omega)]; rfl
  | succ n ih =>
    intro i hi
    have hlt : i < a.length := by omega
    refine L7_4 a a i ?_
    rw [cond_pos (by simp <;> omega)]
    simp only [getK_map, asE_enc]
    rw [getK_lt hlt, getK_lt hlt, cond_neg (by simp), getK_lt hlt, getK_lt hlt, c13 _ _ _ (hs _ (getD_mem hlt)) (Nat.le_refl _)]
    simp only [callE_some', asE_enc, cmpD_self]
    rw [cond_neg (by rfl), wrap_succ (by omega)]
    exact ih (i + 1) (by omega)
theorem c7 (a : List Scored) (ha : a.length ≤ 1000000) (hs : Small a) : Rn 7 [.pv (.lst 6 (List.map Scored.enc a)), .pv (.lst 6 (List.map Scored.enc a))] [] = some (R7.enc true, []) := by
  refine b7 a a ?_
  rw [cond_neg (by simp)]
  exact h7 a ha hs _ 0 rfl

/-! counting nodes -/
theorem h10 (d : Deriv) (hd : d.size ≤ 1073741824) (ih : ∀ x ∈ d.Kids, ∀ most, ∃ v, Rn 10 [.pv (.agg (Deriv.enc x)), .pv (.int .i64 most)] [] = some (R10.enc v, [])) (most : Int) : ∀ (n i : Nat) (a : Int), d.Kids.length - i = n →
    ∃ v, headT P cods H prim 10 3 [] [(1, (.pv (.int .i64 most))), (2, (.ptr 2 0)), (5, (.pv (.int .i64 a))), (6, (.pv (.int .i64 i)))] [(2, (.box 36 (List.map .pv (Deriv.enc d))))] = some (R10.enc v, []) := by
  have hk := d.kids_le
  intro n
  induction n with
  | zero =>
    intro i a hi
    refine ex_of (L10_3 most a i d) ?_
    rw [cond_neg (by simp <;> omega)]; exact ⟨_, rfl⟩
  | succ n ihn =>
    intro i a hi
    have hlt : i < d.Kids.length := by omega
    refine ex_of (L10_3 most a i d) ?_
    rw [cond_pos (by simp <;> omega)]
    apply ex_cond <;> intro h
    · simp only [Deriv.encX_eq, getK_map, asE_enc]
      rw [getK_lt hlt]
      obtain ⟨v, hv⟩ := ih _ (getD_mem hlt) (IntKind.wrap .i64 (most - a))
      rw [hv]
      simp only [callE_some', asE_enc]
      rw [wrap_succ (by omega)]
      exact ihn (i + 1) _ (by omega)
    · exact ⟨_, rfl⟩
theorem c10 : ∀ (n : Nat) (d : Deriv), d.size ≤ n → n ≤ 1073741824 → ∀ most, ∃ v, Rn 10 [.pv (.agg (Deriv.enc d)), .pv (.int .i64 most)] [] = some (R10.enc v, []) := by
  intro n
  induction n with
  | zero => intro d h; have := d.size_pos; omega
  | succ n ih =>
    intro d h hn most
    exact ex_of (b10 d most) (h10 d (by omega) (fun x hx => ih x (by have := Deriv.kid_lt hx; omega) (by omega)) most _ 0 1 rfl)
theorem h4 (l : List Deriv) (hl : l.length ≤ 1000000) (hs : ∀ d ∈ l, d.size ≤ 1073741824) (most : Int) : ∀ (n i : Nat) (a : Int), l.length - i = n →
    ∃ v, headT P cods H prim 4 3 [] [(0, (.pv (.lst 5 (List.map Deriv.encX l)))), (1, (.pv (.int .i64 most))), (5, (.pv (.int .i64 a))), (6, (.pv (.int .i64 i)))] [] = some (R4.enc v, []) := by
  intro n
  induction n with
  | zero =>
    intro i a hi
    refine ex_of (L4_3 l most a i) ?_
    rw [cond_neg (by simp <;> omega)]; exact ⟨_, rfl⟩
  | succ n ihn =>
    intro i a hi
    have hlt : i < l.length := by omega
    refine ex_of (L4_3 l most a i) ?_
    rw [cond_pos (by simp <;> omega)]
    apply ex_cond <;> intro h
    · have := ihn (i + 1)
      simp only [Deriv.encX_eq, getK_map, asE_enc] at this ⊢
      rw [getK_lt hlt]
      obtain ⟨v, hv⟩ := c10 _ _ (hs _ (getD_mem hlt)) (Nat.le_refl _) (IntKind.wrap .i64 (most + 1))
      rw [hv]
      simp only [callE_some', asE_enc]
      rw [wrap_succ (by omega)]
      exact this _ (by omega)
    · exact ⟨_, rfl⟩

/-! the example -/
theorem c12 (s : List UInt8) : Rn 12 [.pv (.str s)] [] = some (R12.enc (Deriv.mk 0 s 0 1 []), []) := b12 s rfl
theorem c6 : Rn 6 [] [] = some (R6.enc true, []) := by
  refine b6 ?_
  simp only [c12, callE_some', asE_enc]
  have h := c8 (Model.mk [Weight.mk [98] 2]) (by decide) (fun i hi => by simp at hi) [Deriv.mk 0 [97] 0 1 [], Deriv.mk 0 [98] 0 1 []] (by decide) (fun d hd => by
    simp only [List.mem_cons, List.not_mem_nil, or_false] at hd
    rcases hd with rfl | rfl <;> decide)
  simp only [Deriv.encX_eq] at h
  rw [h, show isort ltS (scored (Model.mk [Weight.mk [98] 2]) [Deriv.mk 0 [97] 0 1 [], Deriv.mk 0 [98] 0 1 []]) = [⟨Deriv.mk 0 [98] 0 1 [], 2⟩, ⟨Deriv.mk 0 [97] 0 1 [], 0⟩] by rfl]
  simp only [callE_some', asE_enc, getK_map]
  rw [cond_pos (by rfl), show (0 : Int) = ((0 : Nat) : Int) from rfl, show (1 : Int) = ((1 : Nat) : Int) from rfl, getK_lt (by decide), cond_pos (by rfl), getK_lt (by decide), cond_pos (by rfl), getK_lt (by decide), cond_pos (by rfl), getK_lt (by decide)]
  rfl

/-- THE LAW -/
theorem isort_small {l : List Scored} (h : Small l) : Small (isort ltS l) := by
  have key : ∀ (l s : List Scored), Small l → Small s → Small (l.foldl (fun out x => insL ltS x out) s) := by
    intro l
    induction l with
    | nil => intro s _ h; exact h
    | cons x l ih => intro s hl h; exact ih _ (fun y hy => hl y (by simp [hy])) (insL_small (hl x (by simp)) h)
  exact key l [] h (fun x hx => by cases hx)
theorem isort_length (l : List Scored) : (isort ltS l).length = l.length := by
  have key : ∀ (l s : List Scored), (l.foldl (fun out x => insL ltS x out) s).length = s.length + l.length := by
    intro l
    induction l with
    | nil => intro s; rfl
    | cons x l ih => intro s; simp only [List.foldl_cons, ih, insL_length, List.length_cons]; omega
  have := key l []
  simpa [isort] using this
theorem law (m : Model) (l : List Deriv) (hm : m.Weights.length ≤ 1000000) (hf : ∀ x ∈ m.Weights, x.Feature.length ≤ 1073741824) (hl : l.length ≤ 1000000) (hs : ∀ d ∈ l, d.size ≤ 1073741824) :
    Rn 3 [.pv (.agg (Model.enc m)), .pv (.lst 5 (List.map Deriv.encX l))] [] = some (.bool true, []) := by
  refine b3 m l ?_
  simp only [List.length_map, c6, callE_some', asE_enc]
  cases h1 : decide ((m.Weights.length : Int) > 60) with
  | true => rfl
  | false =>
    cases h2 : decide ((l.length : Int) > 8) with
    | true => rfl
    | false =>
      obtain ⟨b, hb⟩ := h4 l hl hs 80 _ 0 0 rfl
      have hb' : Rn 4 [.pv (.lst 5 (List.map Deriv.encX l)), .pv (.int .i64 80)] [] = some (R4.enc b, []) := b4 l 80 hb
      obtain ⟨v, hv, hA⟩ := c5 m (by omega) hf
      simp only [hb', hv, callE_some', asE_enc, cond_false]
      cases b with
      | false => rfl
      | true =>
        by_cases hv0 : v = 0
        · have hl8 : l.length ≤ 8 := by simp at h2; omega
          simp only [hv0, c8 m (by omega) (hA hv0) l (by omega) hs, c9 m (by omega) l hl hs, callE_some', asE_enc]
          rw [c7 _ (by rw [isort_length]; simp [scored]; omega) (isort_small (scored_small hs))]
          simp only [callE_some', asE_enc]; rfl
        · have : (v != 0) = true := by simpa using hv0
          simp only [this]; rfl
end Go.Proofs.Ytogpflcfahjafaa.rk
