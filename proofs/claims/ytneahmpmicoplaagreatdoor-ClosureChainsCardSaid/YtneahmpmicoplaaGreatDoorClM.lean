/-
  The Closure laws: Finds, Relations, Chains.
-/
import Derived.Test.YtneahmpmicoplaaGreatDoorClL
import Derived.Test.YtneahmpmicoplaaGreatDoorClX
set_option linter.unusedVariables false
set_option linter.unusedSimpArgs false
set_option linter.unusedSectionVars false
namespace Go.Proofs.YtneahmpmicoplaaGreatDoor.cl
open Go Go.AM

theorem c13 : f13 = some true := dec_some example13
theorem light_sz {d : List TypeDecl} (h : (lightB d && decide (d.length ≤ 12)) = true) : Sz d ∧ d.length ≤ 12 := by
  simp only [lightB, Bool.and_eq_true, decide_eq_true_eq, List.all_eq_true] at h
  exact ⟨⟨by omega, fun t ht => by have := (h.1.2 t ht).1; omega⟩, h.2⟩
theorem tmod_u8 {i : Int} (h0 : 0 ≤ i) (h1 : i ≤ 255) {n : Nat} (hn : 0 < n) : ∃ a : Nat, a < n ∧ Int.tmod (IntKind.wrap .i64 i) (n : Int) = (a : Int) := by
  refine ⟨i.toNat % n, Nat.mod_lt _ hn, ?_⟩
  rw [wrap64_id (by omega) (by omega), Int.tmod_eq_emod_of_nonneg h0]
  have : i = ((i.toNat : Nat) : Int) := by omega
  rw [this]; simp
/-- accepted declarations -/
structure Ok (d : List TypeDecl) : Prop where
  z : Sz d
  acc : Acc d
  len : d.length ≤ 12
  le : (fam (cws d)).length ≤ 256
noncomputable def tys (d : List TypeDecl) : List Nat := (ents d).map (·.2)
theorem tys_length {d : List TypeDecl} : ((ents d).map toC).length = (tys d).length := by simp [tys]
theorem Ok.hier {d : List TypeDecl} (h : Ok d) : Hier (tys d) := cl.hier h.acc (by have := h.len; omega) h.le
theorem Ok.cd {d : List TypeDecl} (h : Ok d) : Cd ((ents d).map toC) (tys d) := cd_ents h.acc (by have := h.len; omega) h.le
theorem c17 {d : List TypeDecl} {i j : Int} (hi0 : 0 ≤ i) (hi1 : i ≤ 255) (hj0 : 0 ≤ j) (hj1 : j ≤ 255) : f17 d i j = some ([], 0, 0, false) ∨ (Ok d ∧ ∃ a b : Nat, a < (tys d).length ∧ b < (tys d).length ∧ f17 d i j = some ((ents d).map toC, (a : Int), (b : Int), true)) := by
  cases hL : (lightB d && decide (d.length ≤ 12)) with
  | false => left; refine e17 _ _ _ ?_; rw [c12, hL]; rfl
  | true =>
    obtain ⟨z, hlen⟩ := light_sz hL
    by_cases h0 : chk d = 0
    · by_cases h1 : (fam (cws d)).length > 256
      · left
        refine e17 _ _ _ ?_
        rw [c12, hL, bind_some', c15 z (by omega), if_neg (by simpa using h0), if_pos h1]; rfl
      · right
        have ok : Ok d := ⟨z, acc_of_chk h0, hlen, by omega⟩
        have hpos := ok.hier.pos
        have hl := tys_length (d := d)
        obtain ⟨a, ha, ea⟩ := tmod_u8 hi0 hi1 hpos
        obtain ⟨b, hb, eb⟩ := tmod_u8 hj0 hj1 hpos
        refine ⟨ok, a, b, ha, hb, ?_⟩
        refine e17 _ _ _ ?_
        rw [c12, hL, bind_some', c15 z (by omega), if_neg (by simpa using h0), if_neg h1, bind_some']
        rw [Bool.not_true, cond_false, cond_neg (by simp), hl, check_pos (by omega), check_pos (by omega), ea, eb]
    · left
      refine e17 _ _ _ ?_
      rw [c12, hL, bind_some', c15 z (by omega), if_pos h0, bind_some', Bool.not_true, cond_false, cond_pos (by simpa using h0)]

/-- ClosureFinds -/
theorem law4 {d : List TypeDecl} {code : W} {i : Int} (hc : Wds code) (hi0 : 0 ≤ i) (hi1 : i ≤ 255) : f4 d code i = some true := by
  refine e4 _ _ _ ?_
  rcases c17 (d := d) (j := 0) hi0 hi1 (by omega) (by omega) with h | ⟨ok, a, b, ha, hb, h⟩
  · rw [h, bind_some', c13]; rfl
  · rw [h, bind_some', c13]
    simp only [bind_some', Bool.not_true, cond_false]
    by_cases h70 : code.length > 70
    · rw [cond_pos (by simp; omega)]
    · have hl := tys_length (d := d)
      have hlt := ok.cd.get ha
      rw [cond_neg (by simp; omega), c18 ok.cd hc (by omega), bind_some', c19 ok.cd (by omega), bind_some', cond_pos (by simp), getK_at (by omega), ok.cd.code]
      have := e1_length ((tys d).getD a 0)
      rw [chk_app _ (by simp) (by omega) (by omega), chk_app _ (by rw [List.nil_append]; omega) (by simp) (by omega), o18z ok.cd hlt, bind_some', fnd_at ok.hier.nd ha, cond_pos (by simp)]
/-- ClosureRelations -/
theorem law5 {d : List TypeDecl} {i j : Int} (hi0 : 0 ≤ i) (hi1 : i ≤ 255) (hj0 : 0 ≤ j) (hj1 : j ≤ 255) : f5 d i j = some true := by
  refine e5 _ _ _ ?_
  rcases c17 (d := d) hi0 hi1 hj0 hj1 with h | ⟨ok, a, b, ha, hb, h⟩
  · rw [h, bind_some', c13]; rfl
  · rw [h, bind_some', c13]
    simp only [bind_some', Bool.not_true, cond_false]
    have hs : (cast (sups (tys d) a)).length ≤ 1073741824 := by
      have h1 : (sups (tys d) a).length ≤ (tys d).length := by
        refine Nat.le_trans (List.length_filter_le _ _) (Nat.le_trans (List.length_filter_le _ _) ?_)
        simp
      have := ok.cd.len
      rw [List.length_map]; omega
    rw [o20 ok.cd ha hb, o21 ok.cd ha hb, bind_some', bind_some', cond_pos (by simp), o22 ok.cd ha hb, o23 ok.cd ha hb, bind_some', bind_some', cond_pos (by simp), o24 ok.cd ha hb, o25 ok.cd ha hb, bind_some', bind_some', cond_pos (by simp),
      o27 ok.cd ha, o28 ok.cd ha, bind_some', bind_some', c26 _ _ hs, bind_some', cond_pos (by simp)]

/-! ClosureChains -/
section
variable {l : List Coded} {cs : List Nat} (H : Cd l cs) (K : Hier cs) {a : Nat} (ha : a < cs.length)
/-- what is known of the list of types to do, and of the marks -/
structure Inv (cs : List Nat) (a n : Nat) (rd : List Bool) (todo : List Nat) : Prop where
  rl : rd.length = cs.length
  nd : todo.Nodup
  lt : ∀ x ∈ todo, x < cs.length
  mark : ∀ x, x < cs.length → (rd.getD x false = true ↔ x ∈ todo)
  start : a ∈ todo
  up : ∀ x ∈ todo, sub (cs.getD a 0) (cs.getD x 0) = true
  done : ∀ m x, m < n → todo[m]? = some x → ∀ k ∈ sups cs x, k ∈ todo
include H K ha
theorem h9c {rd : List Bool} (hrl : rd.length = cs.length) (hrd : ∀ x, x < cs.length → (rd.getD x false = sub (cs.getD a 0) (cs.getD x 0))) : ∀ (n i : Nat), cs.length - i = n → i ≤ cs.length → t9_23 l a l.length i rd = some true := by
  have hl := H.length
  have hlen := H.len
  intro n
  induction n with
  | zero =>
    intro i hi hle
    refine k9_23 _ _ _ _ _ ?_
    rw [cond_neg (by simp; omega), c13]; rfl
  | succ n ih =>
    intro i hi hle
    refine k9_23 _ _ _ _ _ ?_
    have hlt : i < cs.length := by omega
    have hi2 : i < rd.length := by omega
    have e : rd[i] = rd.getD i false := by rw [List.getD_eq_getElem?_getD, List.getElem?_eq_getElem hi2]; rfl
    rw [cond_pos (by simp; omega), chk_at hi2, Int.toNat_natCast, getN_at hi2, o24 H hlt ha, bind_some', e, hrd i hlt, cond_neg (by simp), wrap_succ (by omega), ih (i + 1) (by omega) (by omega)]
theorem fin9 {n : Nat} {rd : List Bool} {todo : List Nat} (I : Inv cs a n rd todo) (hn : todo.length ≤ n) : t9_23 l a l.length 0 rd = some true := by
  refine h9c H K ha I.rl (fun x hx => ?_) _ 0 rfl (by omega)
  rw [Bool.eq_iff_iff, I.mark x hx]
  constructor
  · exact I.up x
  · intro h
    refine sups_closed K (S := fun x => x ∈ todo) (fun y hy hyl k hk => ?_) a ha I.start x hx h
    obtain ⟨m, hm, e⟩ := List.mem_iff_getElem.1 hy
    exact I.done m y (by omega) (by rw [List.getElem?_eq_getElem hm, e]) k hk
theorem inv_len {n : Nat} {rd : List Bool} {todo : List Nat} (I : Inv cs a n rd todo) : todo.length ≤ cs.length := by
  have := nodup_length_le (m := List.range cs.length) I.nd (fun x hx => by simpa using I.lt x hx)
  simpa using this
theorem h9b {n x : Nat} (hn : n < 1048576) (hx : x < cs.length) (hax : sub (cs.getD a 0) (cs.getD x 0) = true) : ∀ (ys : List Nat) (j : Nat) (rd : List Bool) (todo : List Nat), (sups cs x).drop j = ys → Inv cs a n rd todo → todo[n]? = some x → (∀ k ∈ (sups cs x).take j, k ∈ todo) → 
    (∀ rd' todo', Inv cs a (n + 1) rd' todo' → todo'.length ≥ todo.length → t9_8 l a (n + 1 : Nat) rd' (cast todo') = some true) → t9_14 l a n (cast (sups cs x)) (cast (sups cs x)).length j rd (cast todo) = some true := by
  have hl := H.length
  have hlen := H.len
  have hsl : (sups cs x).length ≤ cs.length := by
    refine Nat.le_trans (List.length_filter_le _ _) (Nat.le_trans (List.length_filter_le _ _) ?_)
    simp
  intro ys
  induction ys with
  | nil =>
    intro j rd todo h I hnx hdone hk
    refine k9_14 _ _ _ _ _ _ _ _ ?_
    rw [end_drop (cast_end h), cond_false, wrap_succ (by omega)]
    refine hk rd todo ⟨I.rl, I.nd, I.lt, I.mark, I.start, I.up, ?_⟩ (Nat.le_refl _)
    intro m y hm hy k hks
    by_cases e : m = n
    · subst e
      rw [hnx] at hy
      obtain rfl : x = y := Option.some.inj hy
      have := drop_ge h
      rw [List.take_of_length_le this] at hdone
      exact hdone k hks
    · exact I.done m y (by omega) hy k hks
  | cons y ys ih =>
    intro j rd todo h I hnx hdone hk
    refine k9_14 _ _ _ _ _ _ _ _ ?_
    have hys : y ∈ sups cs x := List.mem_of_getElem? (drop_get h)
    have hyx := sups_lt K hx hys
    have hyl : y < cs.length := by omega
    have hnl := (List.getElem?_eq_some_iff.1 hnx).1
    have hnx' : (cast todo)[n]? = some (x : Int) := by rw [List.getElem?_map, hnx]; rfl
    have hyr : y < rd.length := by rw [I.rl]; exact hyl
    have hd : (sups cs x).take (j + 1) = (sups cs x).take j ++ [y] := by
      rw [List.take_add_one, drop_get h]; rfl
    have e : rd[y] = rd.getD y false := by rw [List.getD_eq_getElem?_getD, List.getElem?_eq_getElem hyr]; rfl
    rw [in_drop (cast_drop h), cond_true, at_drop (cast_drop h), cond_neg (by simp), check_pos (by simp; omega), Int.toNat_natCast, getN_pos hnx', cond_neg (by simp; omega), Int.toNat_natCast, check_pos (by simp; omega), getN_at hyr, e, wrap_drop (cast_drop h) (by simp; omega)]
    have hyup : sub (cs.getD a 0) (cs.getD y 0) = true := sub_trans hax (mem_aboves.1 (mem_sups.1 hys).1).2.2
    cases hb : rd.getD y false with
    | true =>
      rw [Bool.not_true, cond_false]
      have hyt := (I.mark y hyl).1 hb
      exact ih (j + 1) rd todo (drop_next h) I hnx (fun k hk' => by
        rw [hd] at hk'
        rcases List.mem_append.1 hk' with hk' | hk'
        · exact hdone k hk'
        · simp only [List.mem_singleton] at hk'; subst hk'; exact hyt) hk
    | false =>
      have hyt : y ∉ todo := fun hm => by
        have := (I.mark y hyl).2 hm
        rw [hb] at this; cases this
      have hlt := inv_len H K ha I
      rw [Bool.not_false, cond_true, check_pos (by simp; omega), getN_at hyr, chk_app _ (by simp; omega) (by simp) (by omega)]
      have I' : Inv cs a n (rd.set y true) (todo ++ [y]) := by
        refine ⟨by rw [List.length_set]; exact I.rl, ?_, ?_, ?_, List.mem_append_left _ I.start, ?_, ?_⟩
        · rw [List.nodup_append]
          exact ⟨I.nd, by simp, fun p hp q hq => by simp only [List.mem_singleton] at hq; subst hq; exact fun e => hyt (e ▸ hp)⟩
        · intro p hp
          rcases List.mem_append.1 hp with hp | hp
          · exact I.lt p hp
          · simp only [List.mem_singleton] at hp; subst hp; exact hyl
        · intro p hp
          rw [List.mem_append, List.mem_singleton, List.getD_eq_getElem?_getD, List.getElem?_set]
          by_cases e2 : y = p
          · subst e2; simp [hyr]
          · rw [if_neg e2, ← List.getD_eq_getElem?_getD, I.mark p hp]
            exact ⟨.inl, fun h => h.resolve_right fun e3 => e2 e3.symm⟩
        · intro p hp
          rcases List.mem_append.1 hp with hp | hp
          · exact I.up p hp
          · simp only [List.mem_singleton] at hp; subst hp; exact hyup
        · intro m p hm hp k hks
          have hml : m < todo.length := by omega
          rw [List.getElem?_append_left hml] at hp
          exact List.mem_append_left _ (I.done m p hm hp k hks)
      have := ih (j + 1) (rd.set y true) (todo ++ [y]) (drop_next h) I' (by rw [List.getElem?_append_left hnl]; exact hnx) (fun k hk' => by
        rw [hd] at hk'
        rcases List.mem_append.1 hk' with hk' | hk'
        · exact List.mem_append_left _ (hdone k hk')
        · exact List.mem_append_right _ hk') (fun rd' todo' I2 hle => hk rd' todo' I2 (by simp at hle; omega))
      rw [show cast (todo ++ [y]) = cast todo ++ [(y : Int)] from List.map_append] at this
      exact this
theorem h9a : ∀ (m n : Nat) (rd : List Bool) (todo : List Nat), cs.length - n = m → Inv cs a n rd todo → t9_8 l a n rd (cast todo) = some true := by
  have hl := H.length
  have hlen := H.len
  intro m
  induction m with
  | zero =>
    intro n rd todo hm I
    have := inv_len H K ha I
    refine k9_8 _ _ _ _ _ ?_
    rw [cond_neg (by simp; omega)]
    exact fin9 H K ha I (by omega)
  | succ m ih =>
    intro n rd todo hm I
    have hil := inv_len H K ha I
    refine k9_8 _ _ _ _ _ ?_
    by_cases hn : n < todo.length
    · have hnx : todo[n]? = some todo[n] := List.getElem?_eq_getElem hn
      have hnx' : (cast todo)[n]? = some (todo[n] : Int) := by rw [List.getElem?_map, hnx]; rfl
      have hx := I.lt _ (List.getElem_mem hn)
      have hrest := h9b H K ha (n := n) (x := todo[n]) (by omega) hx (I.up _ (List.getElem_mem hn)) _ 0 rd todo rfl I hnx (fun k hk => by simp at hk) (fun rd' todo' I' _ => ih (n + 1) rd' todo' (by omega) I')
      rw [show ((0 : Nat) : Int) = 0 from rfl] at hrest
      simp only [Int.toNat_natCast, getN_pos hnx']
      rw [cond_pos (by simp; omega), check_pos (by simp; omega), o27 H hx, bind_some', check_pos (by simp; omega)]
      by_cases h0 : todo[n] = 0
      · have hs : sups cs todo[n] = [] := by rw [h0]; exact sups_zero K
        rw [cond_pos (by rw [hs]; simp), cond_neg (by simp; omega), cond_neg (by rw [hs]; simp)]
        exact hrest
      · have hs := sups_ne K hx h0
        have hpos : 0 < (sups cs todo[n]).length := List.length_pos_iff.2 hs
        rw [cond_neg (by simp; exact hs), cond_pos (by simp; omega), check_pos (by simp; omega), cond_neg (by simp; omega)]
        exact hrest
    · rw [cond_neg (by simp; omega)]
      exact fin9 H K ha I (by omega)
end
theorem law9 {d : List TypeDecl} {i : Int} (hi0 : 0 ≤ i) (hi1 : i ≤ 255) : f9 d i = some true := by
  refine e9 _ _ ?_
  rcases c17 (d := d) (j := 0) hi0 hi1 (by omega) (by omega) with h | ⟨ok, a, b, ha, hb, h⟩
  · rw [h, bind_some', c13]; rfl
  · rw [h, bind_some', c13]
    simp only [bind_some', Bool.not_true, cond_false]
    have hl := tys_length (d := d)
    have hlen := ok.cd.len
    rw [hl]
    have ha' : a < (List.replicate (tys d).length false).length := by simpa using ha
    rw [check_pos (by omega), Int.toNat_natCast, Int.toNat_natCast, check_pos ⟨by omega, ha'⟩, getN_at ha']
    have := h9a ok.cd ok.hier ha _ 0 ((List.replicate (tys d).length false).set a true) [a] rfl ⟨by simp, by simp, by simpa using ha, ?_, by simp, by simp [sub_refl], fun m x hm => by omega⟩
    · exact this
    · intro x hx
      rw [List.getD_eq_getElem?_getD, List.getElem?_set, List.mem_singleton]
      by_cases e : a = x
      · subst e; simp [ha]
      · rw [if_neg e, List.getElem?_replicate, if_pos hx]
        simp; exact fun h => e h.symm

/-! ClosureLaws -/
theorem fnd_inj {cs : List Nat} (K : Hier cs) {a b : Nat} (ha : a ∈ cs) (hb : b ∈ cs) (h : fnd cs a = fnd cs b) : a = b := by
  obtain ⟨i, hi, e1, h1⟩ := fnd_mem ha
  obtain ⟨j, hj, e2, h2⟩ := fnd_mem hb
  have : i = j := by omega
  subst this
  rw [← e1, e2]
theorem o33 {l : List Coded} {cs : List Nat} (H : Cd l cs) (K : Hier cs) {a b c : Nat} (ha : a < cs.length) (hb : b < cs.length) (hc : c < cs.length) :
    f33 l a b c = some (fnd cs (cs.getD a 0 &&& cs.getD b 0 &&& cs.getD c 0)) := by
  have hl := H.length
  refine e33 _ _ _ _ ?_
  rw [o20 H ha hb, bind_some']
  by_cases h0 : cs.getD a 0 &&& cs.getD b 0 = 0
  · have hn : (0 : Nat) ∉ cs := fun h => K.nz 0 h rfl
    rw [h0, fnd_not hn, cond_pos (by decide), Nat.zero_and, fnd_not hn]
  · obtain ⟨m, hm, e1, h1⟩ := fnd_mem (K.cl _ (getD_mem0 ha) _ (getD_mem0 hb) h0)
    rw [h1, cond_neg (by simp), cond_neg (by simp; omega), o20 H hm hc, e1]; rfl
theorem law8 {d : List TypeDecl} {i j k : Int} (hi0 : 0 ≤ i) (hi1 : i ≤ 255) (hj0 : 0 ≤ j) (hj1 : j ≤ 255) (hk0 : 0 ≤ k) (hk1 : k ≤ 255) : f8 d i j k = some true := by
  refine e8 _ _ _ _ ?_
  rcases c17 (d := d) hi0 hi1 hj0 hj1 with h | ⟨ok, a, b, ha, hb, h⟩
  · rw [h, bind_some', c13]; rfl
  · have K := ok.hier
    have H := ok.cd
    have hl := tys_length (d := d)
    have hpos := K.pos
    obtain ⟨c, hc, ec⟩ := tmod_u8 hk0 hk1 hpos
    have ma := getD_mem0 ha
    have mb := getD_mem0 hb
    have mc := getD_mem0 hc
    obtain ⟨j1, j2, j3, j4⟩ := join_spec K ma mb
    obtain ⟨q1, q2, q3, q4⟩ := join_spec K mb mc
    obtain ⟨n, hn, en, hnf⟩ := fnd_mem j1
    obtain ⟨o, ho, eo, hof⟩ := fnd_mem q1
    rw [h, bind_some', c13]
    simp only [bind_some', Bool.not_true, cond_false]
    rw [hl, ec, check_pos (by omega), o20 H ha hb, bind_some', o22 H ha hb, bind_some', o22 H hb hc, bind_some', hnf, hof, cond_neg (by simp), cond_neg (by simp; omega), cond_neg (by simp), cond_neg (by simp; omega),
      o20 H hb ha, bind_some', Nat.and_comm ((tys d).getD b 0), cond_neg (by simp), o22 H hb ha, bind_some', join_comm K mb ma, hnf, cond_neg (by simp), o20 H ha ha, bind_some', Nat.and_self, fnd_at K.nd ha, cond_neg (by simp),
      o22 H ha ha, bind_some', join_self K ma, fnd_at K.nd ha, cond_neg (by simp), o22 H hn hc, bind_some', o22 H ha ho, bind_some', en, eo, join_assoc K ma mb mc, cond_neg (by simp),
      o33 H K ha hb hc, bind_some', o33 H K hb hc ha, bind_some']
    have ecom : (tys d).getD b 0 &&& (tys d).getD c 0 &&& (tys d).getD a 0 = (tys d).getD a 0 &&& (tys d).getD b 0 &&& (tys d).getD c 0 := by
      rw [Nat.and_comm, Nat.and_assoc]
    rw [ecom, cond_neg (by simp), o24 H ha hb, bind_some']
    have hm : (fnd (tys d) ((tys d).getD a 0 &&& (tys d).getD b 0) == (b : Int)) = sub ((tys d).getD b 0) ((tys d).getD a 0) := by
      rw [Bool.eq_iff_iff, meet_sub, beq_iff_eq]
      constructor
      · intro h2
        by_cases h0 : (tys d).getD a 0 &&& (tys d).getD b 0 = 0
        · rw [h0, fnd_not (fun hh => K.nz 0 hh rfl)] at h2; omega
        · have hm := K.cl _ ma _ mb h0
          exact fnd_inj K hm mb (by rw [h2, fnd_at K.nd hb])
      · intro h2; rw [h2, fnd_at K.nd hb]
    have hj : (((n : Nat) : Int) == (a : Int)) = sub ((tys d).getD b 0) ((tys d).getD a 0) := by
      rw [Bool.eq_iff_iff, join_sub K ma mb, beq_iff_eq]
      constructor
      · intro h2
        exact fnd_inj K j1 ma (by rw [hnf, h2, fnd_at K.nd ha])
      · intro h2
        rw [h2, fnd_at K.nd ha] at hnf
        exact hnf.symm
    rw [hm, hj]
    cases sub ((tys d).getD b 0) ((tys d).getD a 0) <;> rfl
end Go.Proofs.YtneahmpmicoplaaGreatDoor.cl
