/-
  The Closure laws: Meets, Orders.
-/
import Derived.Test.YtneahmpmicoplaaGreatDoorClMb
set_option linter.unusedVariables false
set_option linter.unusedSimpArgs false
set_option linter.unusedSectionVars false
namespace Go.Proofs.YtneahmpmicoplaaGreatDoor.cl
open Go Go.AM
/-! how many bits -/
theorem o69 {x : Nat} (hx : x < 18446744073709551616) : f69 (x : Int) = some ((cntN 64 x : Nat) : Int) := by
  obtain ⟨p1, p2, p3, p4, p5⟩ := pop.pop_eq hx
  obtain ⟨k1, k2, k3⟩ := pop.fold_parts p5
  refine e69 _ ?_
  rw [check_pos (by decide), check_pos (by decide), check_pos (by decide), check_pos (by decide), check_pos (by decide), check_pos (by decide)]
  rw [pop.t1 hx p2, pop.t2 p2 p3, pop.t3 p4, pop.t48 k1, pop.t416 k2, pop.t432 (by rw [← k3]; omega), ← k3, pop.t5 p5, p1]
theorem o30 {w : Nat} (hw : w < 18446744073709551616) : f30 (e1 w) = some ((cntN 64 w : Nat) : Int) := by
  refine e30 _ ?_
  by_cases h0 : w = 0
  · subst h0
    show t30_3 0 [] 0 0 = some 0
    refine k30_3 _ _ _ _ ?_
    rfl
  · have e : e1 w = [(w : Int)] := by unfold e1; rw [if_neg h0]
    have hle := pop.cntN_le 64 w
    rw [e]
    refine k30_3 _ _ _ _ ?_
    rw [cond_pos (by simp), show (0 : Int) = ((0 : Nat) : Int) from rfl, getK_nat (x := (w : Int)) (by simp), o69 hw, bind_some']
    refine k30_3 _ _ _ _ ?_
    rw [wrap_succ (by omega), cond_neg (by simp), wrap64_id (by omega) (by omega)]; simp
theorem pc_zero {w : Nat} (hw : w < 18446744073709551616) : cntN 64 w = 0 ↔ w = 0 := by
  rw [cnt_pc]
  constructor
  · intro h
    apply Classical.byContradiction
    intro h0
    have : pc 0 < pc w := pc_lt hw (sub_bit.2 fun i h => by simp at h) (fun e => h0 e.symm)
    omega
  · rintro rfl; decide
theorem o31 {w v : Nat} (hw : w < 18446744073709551616) (hv : v < 18446744073709551616) : f31 (e1 w) (e1 v) = some (decide (w = v)) := by
  refine e31 _ _ ?_
  rw [o63 hw hv, bind_some', o63 hv hw, bind_some']
  by_cases h : w = v
  · subst h; rw [sub_refl]; simp
  · cases h1 : sub w v with
    | false => simp [h]
    | true =>
      cases h2 : sub v w with
      | false => simp [h]
      | true => exact absurd (sub_antisymm h1 h2) h
/-- ClosureMeets -/
theorem h6 {l : List Coded} {cs : List Nat} (H : Cd l cs) (K : Hier cs) {a b n : Nat} {m : Int} (ha : a < cs.length) (hb : b < cs.length) (hn : n < cs.length) (en : cs.getD n 0 = join cs (cs.getD a 0) (cs.getD b 0))
    (hm : m = fnd cs (cs.getD a 0 &&& cs.getD b 0)) : ∀ (k i : Nat), cs.length - i = k → i ≤ cs.length → t6_14 a b l m n l.length i = some true := by
  have hl := H.length
  have hlen := H.len
  obtain ⟨j1, j2, j3, j4⟩ := join_spec K (getD_mem0 ha) (getD_mem0 hb)
  intro k
  induction k with
  | zero =>
    intro i hi hle
    refine k6_14 _ _ _ _ _ _ _ ?_
    rw [cond_neg (by simp; omega), c13]; rfl
  | succ k ih =>
    intro i hi hle
    refine k6_14 _ _ _ _ _ _ _ ?_
    have hlt : i < cs.length := by omega
    have hih := ih (i + 1) (by omega) (by omega)
    have hrest : ∀ (r : Option Bool), r = (Option.bind (f24 l i a) fun y207 =>
              bif y207 then (
                Option.bind (f24 l i b) fun y209 =>
                bif y209 then (
                  Option.bind (f24 l i n) fun y211 =>
                  bif (!y211) then (
                    some false)
                  else (
                    t6_14 a b l m n l.length (IntKind.wrap .i64 ((i : Int) + 1))))
                else (
                  t6_14 a b l m n l.length (IntKind.wrap .i64 ((i : Int) + 1))))
              else (
                t6_14 a b l m n l.length (IntKind.wrap .i64 ((i : Int) + 1)))) → r = some true := by
      intro r hr
      rw [hr, o24 H hlt ha, bind_some', o24 H hlt hb, bind_some', o24 H hlt hn, bind_some', wrap_succ (by omega), hih, en]
      cases q1 : sub (cs.getD a 0) (cs.getD i 0) with
      | false => rfl
      | true =>
        cases q2 : sub (cs.getD b 0) (cs.getD i 0) with
        | false => rfl
        | true => rw [j4 _ (getD_mem0 hlt) q1 q2]; rfl
    have hrest' := hrest _ rfl
    rw [cond_pos (by simp; omega), o24 H ha hlt, bind_some', o24 H hb hlt, bind_some']
    cases q1 : sub (cs.getD i 0) (cs.getD a 0) with
    | false => exact hrest'
    | true =>
      cases q2 : sub (cs.getD i 0) (cs.getD b 0) with
      | false => exact hrest'
      | true =>
        have hs := sub_and q1 q2
        have h0 : cs.getD a 0 &&& cs.getD b 0 ≠ 0 := fun e => by
          rw [e] at hs
          exact K.nz _ (getD_mem0 hlt) (sub_zero hs)
        obtain ⟨q, hq, eq, hqf⟩ := fnd_mem (K.cl _ (getD_mem0 ha) _ (getD_mem0 hb) h0)
        rw [hqf] at hm
        rw [cond_true, cond_true, hm, cond_neg (by simp), o24 H hq hlt, bind_some', eq, hs, Bool.not_true, cond_false]
        rw [hm] at hrest'
        exact hrest'
theorem ok_chk {d : List TypeDecl} {i j : Int} {l : List Coded} {a b : Int} (ok : Ok d) (h : f17 d i j = some (l, a, b, true)) : chk d = 0 := by
  apply Classical.byContradiction
  intro h0
  have hd := ok.len
  have : f17 d i j = some ([], 0, 0, false) := by
    cases hL : (lightB d && decide (d.length ≤ 12)) with
    | false => refine e17 _ _ _ ?_; rw [c12, hL]; rfl
    | true =>
      refine e17 _ _ _ ?_
      rw [c12, hL, bind_some', c15 ok.z (by omega), if_pos h0, bind_some', Bool.not_true, cond_false, cond_pos (by simpa using h0)]
  rw [this] at h
  simp at h
theorem o14 {d : List TypeDecl} (z : Sz d) (hlen : d.length ≤ 12) (h0 : chk d = 0) (hle : (fam (cws d)).length ≤ 256) : f14 d = some ((ents d).map toC, 0) := by
  rw [i14 z (by omega), c15 z (by omega), if_neg (by simpa using h0), if_neg (by omega)]
theorem law6 {d : List TypeDecl} {i j : Int} (hi0 : 0 ≤ i) (hi1 : i ≤ 255) (hj0 : 0 ≤ j) (hj1 : j ≤ 255) : f6 d i j = some true := by
  refine e6 _ _ _ ?_
  rcases c17 (d := d) hi0 hi1 hj0 hj1 with h | ⟨ok, a, b, ha, hb, h⟩
  · rw [h, bind_some', c13]; rfl
  · have h0 := ok_chk ok h
    rw [h, bind_some']
    have K := ok.hier
    have H := ok.cd
    have hl := H.length
    have hlen := H.len
    have ma := getD_mem0 ha
    have mb := getD_mem0 hb
    obtain ⟨j1, j2, j3, j4⟩ := join_spec K ma mb
    obtain ⟨n, hn, en, hnf⟩ := fnd_mem j1
    have hal := H.get ha
    have hbl := H.get hb
    have hrest := h6 H K ha hb hn en rfl _ 0 rfl (by omega)
    rw [show ((0 : Nat) : Int) = 0 from rfl] at hrest
    have hwand : (tys d).getD a 0 &&& (tys d).getD b 0 < 18446744073709551616 := Nat.lt_of_le_of_lt Nat.and_le_left hal
    simp only [Bool.not_true, cond_false]
    rw [o14 ok.z ok.len h0 ok.le, bind_some']
    dsimp only
    rw [cond_neg (by simp), cond_neg (by rw [decide_eq_false_iff_not]; omega), cond_neg (by rw [decide_eq_false_iff_not]; omega), o20 H ha hb, bind_some', o22 H ha hb, bind_some', hnf]
    have hmlt : fnd (tys d) ((tys d).getD a 0 &&& (tys d).getD b 0) < ((tys d).length : Int) := by
      by_cases hm : (tys d).getD a 0 &&& (tys d).getD b 0 ∈ tys d
      · obtain ⟨q, hq, _, e⟩ := fnd_mem hm; rw [e]; omega
      · rw [fnd_not hm]; omega
    rw [cond_neg (by rw [decide_eq_false_iff_not]; omega), cond_neg (by simp), cond_neg (by rw [decide_eq_false_iff_not]; omega), o24 H hn ha, bind_some', en, j2, Bool.not_true, cond_false, o24 H hn hb, bind_some', en, j3, Bool.not_true, cond_false]
    rw [getK_at (by omega), getK_at (by omega), H.code, H.code, o29 hal hbl, bind_some', o30 hwand, bind_some']
    by_cases hz : (tys d).getD a 0 &&& (tys d).getD b 0 = 0
    · have hf : fnd (tys d) ((tys d).getD a 0 &&& (tys d).getD b 0) = -1 := by rw [hz]; exact fnd_not (fun hh => K.nz 0 hh rfl)
      rw [hf] at hrest ⊢
      rw [hz, (pc_zero (by decide)).2 rfl, cond_neg (by decide), cond_neg (by decide)]
      exact hrest
    · obtain ⟨q, hq, eq, hqf⟩ := fnd_mem (K.cl _ ma _ mb hz)
      have hc : cntN 64 ((tys d).getD a 0 &&& (tys d).getD b 0) ≠ 0 := fun e => hz ((pc_zero hwand).1 e)
      rw [hqf] at hrest ⊢
      have e1' : (!(decide ((q : Int) < 0) == (((cntN 64 ((tys d).getD a 0 &&& (tys d).getD b 0) : Nat) : Int) == 0))) = false := by
        have h1 : decide ((q : Int) < 0) = false := by simp
        have h2 : (((cntN 64 ((tys d).getD a 0 &&& (tys d).getD b 0) : Nat) : Int) == 0) = false := by
          rw [beq_eq_false_iff_ne]; omega
        rw [h1, h2]; rfl
      rw [e1', cond_false, cond_pos (by simp), getK_at (by omega), H.code, eq, o31 hwand hwand, bind_some', cond_neg (by simp), o24 H ha hq, bind_some', eq, sub_and_left, Bool.not_true, cond_false, o24 H hb hq, bind_some', eq, sub_and_right, Bool.not_true, cond_false]
      exact hrest
end Go.Proofs.YtneahmpmicoplaaGreatDoor.cl
