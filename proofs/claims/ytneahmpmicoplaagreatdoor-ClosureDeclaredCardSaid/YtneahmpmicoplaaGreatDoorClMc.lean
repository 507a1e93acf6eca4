/-
  The Closure laws: Meets, Orders.
-/
import Derived.Test.YtneahmpmicoplaaGreatDoorClMb
set_option linter.unusedVariables false
set_option linter.unusedSimpArgs false
set_option linter.unusedSectionVars false
namespace Go.Proofs.YtneahmpmicoplaaGreatDoor.cl
open Go Go.AM
/-! how many bits -/
theorem o69 {x : Nat} (hx : x < 18446744073709551616) : f69 (x : Int) = some ((cntN 64 x : Nat) : Int) := by
  obtain ⟨p1, p2, p3, p4, p5⟩ := pop.pop_eq hx
  obtain ⟨k1, k2, k3⟩ := pop.fold_parts p5
  refine e69 _ ?_
  rw [check_pos (by decide), check_pos (by decide), check_pos (by decide), check_pos (by decide), check_pos (by decide), check_pos (by decide)]
  rw [pop.t1 hx p2, pop.t2 p2 p3, pop.t3 p4, pop.t48 k1, pop.t416 k2, pop.t432 (by rw [← k3]; omega), ← k3, pop.t5 p5, p1]
theorem o30 {w : Nat} (hw : w < 18446744073709551616) : f30 (e1 w) = some ((cntN 64 w : Nat) : Int) := by
  refine e30 _ ?_
  by_cases h0 : w = 0
  · subst h0
    show t30_3 0 [] 0 0 = some 0
    refine k30_3 _ _ _ _ ?_
    rfl
  · have e : e1 w = [(w : Int)] := by unfold e1; rw [if_neg h0]
    have hle := pop.cntN_le 64 w
    rw [e]
    refine k30_3 _ _ _ _ ?_
    rw [cond_pos (by simp), show (0 : Int) = ((0 : Nat) : Int) from rfl, getK_nat (x := (w : Int)) (by simp), o69 hw, bind_some']
    refine k30_3 _ _ _ _ ?_
    rw [wrap_succ (by omega), cond_neg (by simp), wrap64_id (by omega) (by omega)]; simp
theorem pc_zero {w : Nat} (hw : w < 18446744073709551616) : cntN 64 w = 0 ↔ w = 0 := by
  rw [cnt_pc]
  constructor
  · intro h
    apply Classical.byContradiction
    intro h0
    have : pc 0 < pc w := pc_lt hw (sub_bit.2 fun i h => by simp at h) (fun e => h0 e.symm)
    omega
  · rintro rfl; decide
theorem o31 {w v : Nat} (hw : w < 18446744073709551616) (hv : v < 18446744073709551616) : f31 (e1 w) (e1 v) = some (decide (w = v)) := by
  refine e31 _ _ ?_
  rw [o63 hw hv, bind_some', o63 hv hw, bind_some']
  by_cases h : w = v
  · subst h; rw [sub_refl]; simp
  · cases h1 : sub w v with
    | false => simp [h]
    | true =>
      cases h2 : sub v w with
      | false => simp [h]
      | true => exact absurd (sub_antisymm h1 h2) h
/-- ClosureMeets -/
theorem h6 {l : List Coded} {cs : List Nat} (H : Cd l cs) (K : Hier cs) {a b n : Nat} {m : Int} (ha : a < cs.length) (hb : b < cs.length) (hn : n < cs.length) (en : cs.getD n 0 = join cs (cs.getD a 0) (cs.getD b 0))
    (hm : m = fnd cs (cs.getD a 0 &&& cs.getD b 0)) : ∀ (k i : Nat), cs.length - i = k → i ≤ cs.length → t6_14 a b l m n l.length i = some true := by
  have hl := H.length
  have hlen := H.len
  obtain ⟨j1, j2, j3, j4⟩ := join_spec K (getD_mem0 ha) (getD_mem0 hb)
  intro k
  induction k with
  | zero =>
    intro i hi hle
    refine k6_14 _ _ _ _ _ _ _ ?_
    rw [cond_neg (by simp; omega), c13]; rfl
  | succ k ih =>
    intro i hi hle
    refine k6_14 _ _ _ _ _ _ _ ?_
    have hlt : i < cs.length := by omega
    have hih := ih (i + 1) (by omega) (by omega)
    have hrest : ∀ (r : Option Bool), r = (Option.bind (f24 l i a) fun y207 =>
              bif y207 then (
                Option.bind (f24 l i b) fun y209 =>
                bif y209 then (
                  Option.bind (f24 l i n) fun y211 =>
                  bif (!y211) then (
                    some false)
                  else (
                    t6_14 a b l m n l.length (IntKind.wrap .i64 ((i : Int) + 1))))
                else (
                  t6_14 a b l m n l.length (IntKind.wrap .i64 ((i : Int) + 1))))
              else (
                t6_14 a b l m n l.length (IntKind.wrap .i64 ((i : Int) + 1)))) → r = some true := by
      intro r hr
      rw [hr, o24 H hlt ha, bind_some', o24 H hlt hb, bind_some', o24 H hlt hn, bind_some', wrap_succ (by omega), hih, en]
      cases q1 : sub (cs.getD a 0) (cs.getD i 0) with
      | false => rfl
      | true =>
        cases q2 : sub (cs.getD b 0) (cs.getD i 0) with
        | false => rfl
        | true => rw [j4 _ (getD_mem0 hlt) q1 q2]; rfl
    have hrest' := hrest _ rfl
    rw [cond_pos (by simp; omega), o24 H ha hlt, bind_some', o24 H hb hlt, bind_some']
    cases q1 : sub (cs.getD i 0) (cs.getD a 0) with
    | false => exact hrest'
    | true =>
      cases q2 : sub (cs.getD i 0) (cs.getD b 0) with
      | false => exact hrest'
      | true =>
        have hs := sub_and q1 q2
        have h0 : cs.getD a 0 &&& cs.getD b 0 ≠ 0 := fun e => by
          rw [e] at hs
          exact K.nz _ (getD_mem0 hlt) (sub_zero hs)
        obtain ⟨q, hq, eq, hqf⟩ := fnd_mem (K.cl _ (getD_mem0 ha) _ (getD_mem0 hb) h0)
        rw [hqf] at hm
        rw [cond_true, cond_true, hm, cond_neg (by simp), o24 H hq hlt, bind_some', eq, hs, Bool.not_true, cond_false]
        rw [hm] at hrest'
        exact hrest'
theorem o14 {d : List TypeDecl} (z : Sz d) (hlen : d.length ≤ 12) (h0 : chk d = 0) (hle : (fam (cws d)).length ≤ 256) : f14 d = some ((ents d).map toC, 0) := by
  rw [i14 z (by omega), c15 z (by omega), if_neg (by simpa using h0), if_neg (by omega)]
end Go.Proofs.YtneahmpmicoplaaGreatDoor.cl
