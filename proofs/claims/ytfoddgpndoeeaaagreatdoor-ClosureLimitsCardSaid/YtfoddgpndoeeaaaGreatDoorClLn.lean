/-
  The law of ClosureLimits over the machine.
-/
import Derived.Test.YtfoddgpndoeeaaaGreatDoorClLm
set_option linter.unusedVariables false
set_option linter.unusedSimpArgs false
set_option linter.unusedSectionVars false
set_option maxRecDepth 1000000
namespace Go.Proofs.YtfoddgpndoeeaaaGreatDoor.cl
open Go Go.AM

theorem i14s {d : List TypeDecl} (z : Sz d) (h64 : d.length ≤ 64) : f14 d = some (if chk d ≠ 0 then ([], chk d) else if (fam (cws d)).length > 256 then ([], 7) else ((ents d).map toC, 0)) := by
  have hl := z.len
  refine e14 _ ?_
  rw [i39 z, bind_some']
  by_cases h0 : chk d = 0
  · have A := acc_of_chk h0
    have hsn : ∀ t ∈ d, t.Supers.Nodup := sups_nodup h0
    have hlen : (cws d).length ≤ 256 := by have := cws_len (d := d); omega
    obtain ⟨F, _, _⟩ := fam_spec (cws_nodup A) cws_nz hlen
    rw [if_neg (by simpa using h0), h0, cond_neg (by simp), i40 z A.nd hsn h64, bind_some', i41 (cws_lt h64) (cws_nodup A) cws_nz hlen, bind_some']
    by_cases h1 : (fam (cws d)).length ≤ 256
    · rw [if_pos h1, if_neg (by omega), cond_neg (by simp)]
      have hD : ∀ w ∈ fam (cws d), Dn d w := F.gen (Dn d) (fun c hc => by
        obtain ⟨x, _, rfl⟩ := List.mem_map.1 hc
        exact dn_cw x) (fun a b => dn_and)
      exact h14 z A h64 (Fm_lt F (cws_lt h64)) hD F.nz F.nd h1 _ 0 rfl (by omega)
    · rw [if_neg h1, if_pos (by omega), cond_pos (by simp)]
  · rw [if_pos h0, cond_pos (by simpa using h0)]

theorem example13 : Rn 7 [] [] = some (.bool true, []) := run_iff.2 ⟨70, by kernel_rfl⟩
theorem c13 : f13 = some true := dec_some example13
theorem c393 (name : Str) (sup : List Str) : f393 name sup = some ⟨name, sup, []⟩ := e393 _ _ rfl
theorem c393a (name : Str) : f393a name = some (name, []) := e393a _ rfl
theorem bytes_at {R : Type} {i : Nat} (h : i < 9) (k : List UInt8 → Option R) : bytesT [IntKind.wrap .u8 (IntKind.wrap .i64 (97 + (i : Int)))] k = k [UInt8.ofNat (97 + i)] := by
  have : i = 0 ∨ i = 1 ∨ i = 2 ∨ i = 3 ∨ i = 4 ∨ i = 5 ∨ i = 6 ∨ i = 7 ∨ i = 8 := by omega
  unfold bytesT bytesK
  rcases this with rfl | rfl | rfl | rfl | rfl | rfl | rfl | rfl | rfl <;> rfl
theorem dX_succ (i : Nat) : dX (i + 1) = dX i ++ [⟨xN i, [tN], []⟩] := by simp [dX, List.range_succ]
theorem dY_succ (n i : Nat) : dY n (i + 1) = dY n i ++ [⟨yN i, xsup n i, []⟩] := by simp [dY, List.range_succ]
def xsp (k i : Nat) : List Str := ((List.range k).filter (fun j => j != i)).map xN
theorem xsp_succ (k i : Nat) : xsp (k + 1) i = if k = i then xsp k i else xsp k i ++ [xN k] := by
  unfold xsp
  rw [List.range_succ, List.filter_append, List.map_append]
  by_cases h : k = i
  · rw [if_pos h]; simp [h]
  · rw [if_neg h]; simp [h]
theorem xsp_len (k i : Nat) : (xsp k i).length ≤ k := by
  unfold xsp
  rw [List.length_map]
  exact Nat.le_trans (List.length_filter_le _ _) (by simp)
theorem h392_12 {n : Nat} (h9 : n ≤ 9) {i : Nat} (hi : i < n) {o : List TypeDecl} (ho : o.length ≤ 1000) {a : List (List UInt8)} {c : List FeatDecl} {r : Bool} (hr : t392_8 n ((i + 1 : Nat) : Int) (o ++ [⟨yN i, xsup n i, []⟩]) = some r) :
    ∀ (m k : Nat), n - k = m → k ≤ n → t392_12 n i k (yN i) [] o a c (xsp k i) = some r := by
  intro m
  induction m with
  | zero =>
    intro k hk hle
    obtain rfl : k = n := by omega
    refine k392_12 _ _ _ _ _ _ _ _ _ ?_
    rw [cond_neg (by simp), chk_app _ (by omega) (by simp) (by omega), wrap_succ (by omega)]
    exact hr
  | succ m ih =>
    intro k hk hle
    refine k392_12 _ _ _ _ _ _ _ _ _ ?_
    have hn := ih (k + 1) (by omega) (by omega)
    have hl := xsp_len k i
    rw [cond_pos (by simp; omega), bytes_at (by omega), wrap_succ (by omega)]
    rw [xsp_succ] at hn
    by_cases e : k = i
    · subst e
      rw [if_pos rfl] at hn
      rw [cond_neg (by simp)]
      exact hn
    · rw [if_neg e] at hn
      rw [cond_pos (by simpa using fun h => e (by omega)), check_pos (by simp), chk_app _ (by omega) (by simp) (by omega)]
      exact hn
theorem h392_8 {n : Nat} (h3 : 3 ≤ n) (h9 : n ≤ 9) : ∀ (m i : Nat), n - i = m → i ≤ n → t392_8 n i (⟨tN, [], []⟩ :: (dX n ++ dY n i)) = some true := by
  intro m
  induction m with
  | zero =>
    intro i hi hle
    obtain rfl : i = n := by omega
    refine k392_8 _ _ _ ?_
    obtain ⟨hc, _⟩ := lim_ok h3 h9
    obtain ⟨f1, f2⟩ := lim_fam h3 h9
    have hcode := i14s (lim_sz h9) (by rw [lim_len]; omega)
    change f14 (⟨tN, [], []⟩ :: (dX i ++ dY i i)) = _ at hcode
    rw [if_neg (by simpa using hc)] at hcode
    rw [cond_neg (by simp), hcode, bind_some', bind_some', c13]
    by_cases e : i = 9
    · have := f2 e
      rw [if_pos this]
      subst e
      rfl
    · have hlen := f1 e
      have : i = 3 ∨ i = 4 ∨ i = 5 ∨ i = 6 ∨ i = 7 ∨ i = 8 := by omega
      have hp : 2 ^ i ≤ 256 := by rcases this with rfl | rfl | rfl | rfl | rfl | rfl <;> decide
      rw [if_neg (by omega)]
      have h5 : ((ents (dL i)).map toC).length = 2 ^ i - 1 := by
        rw [List.length_map, (ents_spec (d := dL i)).2.length_eq, List.length_map, hlen]
      rw [cond_neg (by simp; omega), cond_pos (by simp), check_pos (by omega), cond_pos (by
        rw [show (List.map toC (ents (dL i)), (0 : Int)).fst.length = 2 ^ i - 1 from h5, beq_iff_eq]
        rcases this with rfl | rfl | rfl | rfl | rfl | rfl <;> decide), bind_some']
  | succ m ih =>
    intro i hi hle
    refine k392_8 _ _ _ ?_
    have hn := ih (i + 1) (by omega) (by omega)
    rw [dY_succ, ← List.append_assoc] at hn
    rw [cond_pos (by simp; omega), bytes_at (by omega), check_pos (by simp), c393a, bind_some']
    exact h392_12 (a := []) (c := []) h9 (by omega) (by simp [dX, dY]; omega) hn n 0 rfl (by omega)
theorem h392_4 {n : Nat} (h3 : 3 ≤ n) (h9 : n ≤ 9) : ∀ (m i : Nat), n - i = m → i ≤ n → t392_4 n i (⟨tN, [], []⟩ :: dX i) = some true := by
  intro m
  induction m with
  | zero =>
    intro i hi hle
    obtain rfl : i = n := by omega
    refine k392_4 _ _ _ ?_
    rw [cond_neg (by simp)]
    have := h392_8 h3 h9 i 0 rfl (by omega)
    simpa [dY] using this
  | succ m ih =>
    intro i hi hle
    refine k392_4 _ _ _ ?_
    have hn := ih (i + 1) (by omega) (by omega)
    rw [dX_succ] at hn
    rw [cond_pos (by simp; omega), bytes_at (by omega), check_pos (by simp), c393, bind_some', chk_app _ (by simp [dX]; omega) (by simp) (by omega), wrap_succ (by omega)]
    exact hn
theorem tmod_u8 {i : Int} (h0 : 0 ≤ i) (h1 : i ≤ 255) {n : Nat} (hn : 0 < n) : ∃ a : Nat, a < n ∧ Int.tmod (IntKind.wrap .i64 i) (n : Int) = (a : Int) := by
  refine ⟨i.toNat % n, Nat.mod_lt _ hn, ?_⟩
  rw [wrap64_id (by omega) (by omega), Int.tmod_eq_emod_of_nonneg h0]
  have : i = ((i.toNat : Nat) : Int) := by omega
  rw [this]; simp
/-- the law -/
theorem law392 {i : Int} (h0 : 0 ≤ i) (h1 : i ≤ 255) : f392 i = some true := by
  obtain ⟨a, ha, e⟩ := tmod_u8 h0 h1 (n := 7) (by omega)
  refine e392 _ ?_
  have e' : Int.tmod (IntKind.wrap .i64 i) 7 = (a : Int) := e
  rw [check_pos (by decide), c393, bind_some', e', wrap64_id (by omega) (by omega)]
  have := h392_4 (n := 3 + a) (by omega) (by omega) _ 0 rfl (by omega)
  have e3 : ((3 + a : Nat) : Int) = 3 + (a : Int) := by omega
  rw [e3] at this
  simpa [dX, tN] using this
end Go.Proofs.YtfoddgpndoeeaaaGreatDoor.cl
