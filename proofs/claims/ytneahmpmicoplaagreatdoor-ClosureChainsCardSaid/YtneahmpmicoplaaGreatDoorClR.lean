/-
  The Closure laws: reading the arguments.
-/
import Derived.Test.YtneahmpmicoplaaGreatDoorClT
import Derived.Test.YtneahmpmicoplaaGreatDoorAmR
import Derived.Test.YtneahmpmicoplaaGreatDoorRows
set_option linter.unusedVariables false
set_option linter.unusedSimpArgs false
set_option maxRecDepth 100000
namespace Go.Proofs.YtneahmpmicoplaaGreatDoor.cl
open Go Go.AM Go.RowKit Go.ChangeShapes Go.WideShapes Go.ChangeAt

theorem exists_map {T : Type} {en : T → List AV} : ∀ {xs : List (List AV)}, (∀ x ∈ xs, ∃ y : T, x = en y) → ∃ l : List T, xs = l.map en := by
  intro xs
  induction xs with
  | nil => intro _; exact ⟨[], rfl⟩
  | cons x xs ih =>
    intro h
    obtain ⟨y, rfl⟩ := h x (by simp)
    obtain ⟨l, rfl⟩ := ih fun z hz => h z (by simp [hz])
    exact ⟨y :: l, rfl⟩

section
variable {H : Type} {enc : TypeId × Value → H} {w : World}
theorem bulks : BulkLike (H := H) Rows.uptoBulk Rows.uptoBulkAll where
  str := fun _ => rfl
  lit := fun l => by cases l <;> simp [Rows.uptoBulk]
  nil := by simp [Rows.uptoBulk]
  slice := fun _ _ => by simp [Rows.uptoBulk]
  agg := fun _ => by simp [Rows.uptoBulk]
  nilA := by simp [Rows.uptoBulkAll]
  consA := fun _ _ => by simp [Rows.uptoBulkAll]
theorem rd184 (n : Nat) : RdA enc P w Rows.uptoBulk n 184 fun avs => ∃ x : FeatDecl, avs = x.enc := by
  cases n with
  | zero => exact RdA.zero
  | succ n =>
    refine (rd_struct bulks (Qs := [fun a => ∃ x, a = eStr x, fun a => ∃ x, a = eStr x]) Tryz.underlying184 (by kernel_rfl) (by kernel_rfl) ?_).mono ?_
    · exact ⟨rd_str bulks Tryz.underlying9, rd_str bulks Tryz.underlying9, trivial⟩
    · rintro a ⟨_, _, rfl, ⟨s, rfl⟩, _, _, rfl, ⟨v, rfl⟩, rfl⟩
      exact ⟨⟨s, v⟩, rfl⟩
theorem rd55 (n : Nat) : RdA enc P w Rows.uptoBulk n 55 fun avs => ∃ l : List FeatDecl, avs = [.lst 2 (l.map FeatDecl.enc)] := by
  cases n with
  | zero => exact RdA.zero
  | succ n =>
    refine (rd_slice bulks (sz := 2) Tryz.underlying55 (by kernel_rfl) (by decide) (rd184 n)).mono ?_
    rintro a ⟨xs, rfl, hx⟩
    obtain ⟨l, rfl⟩ := exists_map hx
    exact ⟨l, rfl⟩
theorem rd54 (n : Nat) : RdA enc P w Rows.uptoBulk n 54 fun avs => ∃ l : List (List UInt8), avs = [.lst 1 (l.map eStr)] := by
  cases n with
  | zero => exact RdA.zero
  | succ n =>
    refine (rd_slice bulks (sz := 1) Tryz.underlying54 (by kernel_rfl) (by decide) (rd_str bulks (n := n) Tryz.underlying9)).mono ?_
    rintro a ⟨xs, rfl, hx⟩
    obtain ⟨l, rfl⟩ := exists_map hx
    exact ⟨l, rfl⟩
theorem rd31 (n : Nat) : RdA enc P w Rows.uptoBulk n 31 fun avs => ∃ l : List Int, avs = [.lst 1 (l.map (eInt .u64))] := by
  cases n with
  | zero => exact RdA.zero
  | succ n =>
    refine (rd_slice bulks (sz := 1) Tryz.underlying31 (by kernel_rfl) (by decide) (rd_int bulks (n := n) Tryz.underlying37)).mono ?_
    rintro a ⟨xs, rfl, hx⟩
    obtain ⟨l, rfl⟩ := exists_map hx
    exact ⟨l, rfl⟩
theorem rd57 (n : Nat) : RdA enc P w Rows.uptoBulk n 57 fun avs => ∃ x : TypeDecl, avs = x.enc := by
  cases n with
  | zero => exact RdA.zero
  | succ n =>
    refine (rd_struct bulks (Qs := [fun a => ∃ x, a = eStr x, fun a => ∃ l : List (List UInt8), a = [.lst 1 (l.map eStr)], fun a => ∃ l : List FeatDecl, a = [.lst 2 (l.map FeatDecl.enc)]]) Tryz.underlying57 (by kernel_rfl) (by kernel_rfl) ?_).mono ?_
    · exact ⟨rd_str bulks Tryz.underlying9, rd54 n, rd55 n, trivial⟩
    · rintro a ⟨_, _, rfl, ⟨s, rfl⟩, _, _, rfl, ⟨l, rfl⟩, _, _, rfl, ⟨m, rfl⟩, rfl⟩
      exact ⟨⟨s, l, m⟩, rfl⟩
theorem rd22 (n : Nat) : RdA enc P w Rows.uptoBulk n 22 fun avs => ∃ l : List TypeDecl, avs = [.lst 3 (l.map TypeDecl.enc)] := by
  cases n with
  | zero => exact RdA.zero
  | succ n =>
    refine (rd_slice bulks (sz := 3) Tryz.underlying22 (by kernel_rfl) (by decide) (rd57 n)).mono ?_
    rintro a ⟨xs, rfl, hx⟩
    obtain ⟨l, rfl⟩ := exists_map hx
    exact ⟨l, rfl⟩
end
/-- a byte, read -/
theorem wf_u8 {x : Int} (h : (AV.int .u8 x).wf) : 0 ≤ x ∧ x ≤ 255 := by
  have h' : (decide (IntKind.min .u8 ≤ x) && decide (x ≤ IntKind.max .u8)) = true := by
    rw [AV.wf] at h; exact h
  simp only [Bool.and_eq_true, decide_eq_true_eq] at h'
  exact h'
theorem wf_words {l : List Int} (h : (AV.lst 1 (l.map (eInt .u64))).wf) : ∀ x ∈ l, 0 ≤ x ∧ x < 18446744073709551616 := by
  rw [AV.wf] at h
  intro x hx
  have := wfR_mem h (List.mem_map_of_mem (f := eInt .u64) hx)
  simp only [eInt, wfC, AV.wf] at this
  have h' : (decide (IntKind.min .u64 ≤ x) && decide (x ≤ IntKind.max .u64)) = true := this.1
  simp only [Bool.and_eq_true, decide_eq_true_eq] at h'
  have h1 : (0 : Int) ≤ x := h'.1
  have h2 : x ≤ 18446744073709551615 := h'.2
  omega
section
variable {H : Type} {enc : TypeId × Value → H} {w : World} {base : Nat} {rch : Reach}
theorem arg_decls {v : Value} {d : DataW H} {ps : List MemPlace} (hok : Value.okWide Tryz.prog w rch base 22 v) (hd : DataW.Trod enc Tryz.prog w 0 (fun _ => true) true 22 v d ps) : ∃ l : List TypeDecl, rep (muW w) (.lst 3 (l.map TypeDecl.enc)) v := by
  obtain ⟨ad, len, cap, rfl⟩ := okWide_slice Tryz.underlying22 hok
  obtain ⟨a, ⟨l, hl⟩, hr, _, _⟩ := arg_one rfl hd rd22
  injection hl with hl
  subst hl
  exact ⟨l, hr⟩
theorem arg_bits {v : Value} {d : DataW H} {ps : List MemPlace} (hok : Value.okWide Tryz.prog w rch base 31 v) (hd : DataW.Trod enc Tryz.prog w 0 (fun _ => true) true 31 v d ps) : ∃ l : List Int, rep (muW w) (.lst 1 (l.map (eInt .u64))) v ∧ ∀ x ∈ l, 0 ≤ x ∧ x < 18446744073709551616 := by
  obtain ⟨ad, len, cap, rfl⟩ := okWide_slice Tryz.underlying31 hok
  obtain ⟨a, ⟨l, hl⟩, hr, _, hw⟩ := arg_one rfl hd rd31
  injection hl with hl
  subst hl
  exact ⟨l, hr, wf_words hw⟩
theorem arg_u8 {v : Value} {d : DataW H} {ps : List MemPlace} (hok : Value.okWide Tryz.prog w rch base 5 v) (hd : DataW.Trod enc Tryz.prog w 0 (fun _ => true) true 5 v d ps) : ∃ x : Int, rep (muW w) (.int .u8 x) v ∧ 0 ≤ x ∧ x ≤ 255 := by
  obtain ⟨n, rfl⟩ := okWide_int Tryz.underlying5 hok
  obtain ⟨a, ⟨x, hl⟩, hr, _, hw⟩ := arg_one rfl hd (fun n => rd_int bulks (n := n) Tryz.underlying5)
  simp only [eInt, List.cons.injEq, and_true] at hl
  subst hl
  exact ⟨x, hr, wf_u8 hw⟩
theorem okWide_arr {n : Nat} {t e : TypeId} {v : Value} (ht : Tryz.prog.underlying t = some (.array n e)) (h : Value.okWide Tryz.prog w rch base t v) : ∃ cs, v = .agg cs := by
  simp only [Value.okWide, ht] at h
  obtain ⟨cs, h1, _⟩ := h
  exact ⟨cs, h1⟩
theorem arg_u8s {v : Value} {d : DataW H} {ps : List MemPlace} (hok : Value.okWide Tryz.prog w rch base 49 v) (hd : DataW.Trod enc Tryz.prog w 0 (fun _ => true) true 49 v d ps) :
    ∃ x y z : Int, rep (muW w) (.agg [.int .u8 x, .int .u8 y, .int .u8 z]) v ∧ 0 ≤ x ∧ x ≤ 255 ∧ 0 ≤ y ∧ y ≤ 255 ∧ 0 ≤ z ∧ z ≤ 255 := by
  obtain ⟨cs, rfl⟩ := okWide_arr Tryz.underlying49 hok
  obtain ⟨n, hn⟩ := hd
  obtain ⟨xs, m, rfl, _, hl, hxl, hall⟩ := DataW.trod_array Tryz.underlying49 hn
  have h5 : Tryz.prog.cellsOf 5 = 1 := by kernel_rfl
  have h49 : Tryz.prog.cellsOf 49 = 3 := by kernel_rfl
  have hc : (Value.agg cs).cells.toList = cs.toList := by simp [Value.cells]
  rw [hc] at hl hall
  rw [h49] at hl
  have one : ∀ i, i < 3 → ∃ x : Int, ∃ u, cs.toList[i]? = some u ∧ rep (muW w) (.int .u8 x) u ∧ u.oneCell' = true ∧ 0 ≤ x ∧ x ≤ 255 := by
    intro i hi
    have h0 := hall i hi
    rw [h5, Nat.mul_one] at h0
    have hxi : i < xs.length := by omega
    rw [List.getElem?_eq_getElem hxi] at h0
    obtain ⟨avs, ⟨x, rfl⟩, hr, _, hw⟩ := rd_int bulks (n := m) (enc := enc) (w := w) Tryz.underlying5 _ _ _ h0
    have hlt : i < cs.toList.length := by omega
    have e : (cs.toList.drop i).take 1 = [cs.toList[i]] := by
      rw [List.drop_eq_getElem_cons hlt]; rfl
    rw [e] at hr
    obtain ⟨h1, h2⟩ := hr
    simp only [eInt, repAll] at h1
    obtain ⟨u, us, hu, h3, _⟩ := h1
    injection hu with hu hu2
    subst hu
    exact ⟨x, cs.toList[i], List.getElem?_eq_getElem hlt, h3, h2 _ (by simp), wf_u8 hw.1⟩
  obtain ⟨x, u0, e0, r0, o0, x0, x1⟩ := one 0 (by omega)
  obtain ⟨y, u1, e1, r1, o1, y0, y1⟩ := one 1 (by omega)
  obtain ⟨z, u2, e2, r2, o2, z0, z1⟩ := one 2 (by omega)
  refine ⟨x, y, z, ?_, x0, x1, y0, y1, z0, z1⟩
  have hcs : cs.toList = [u0, u1, u2] := by
    match hm : cs.toList, hl with
    | [a, b, c], _ =>
      rw [hm] at e0 e1 e2
      simp at e0 e1 e2
      rw [e0, e1, e2]
  rw [rep]
  refine ⟨cs.toList, by simp, ?_, ?_⟩
  · rw [hcs]; exact repAll_cons r0 (repAll_cons r1 (repAll_cons r2 repAll_nil))
  · rw [hcs]
    intro u hu
    simp only [List.mem_cons, List.not_mem_nil, or_false] at hu
    rcases hu with rfl | rfl | rfl
    · exact o0
    · exact o1
    · exact o2
end
end Go.Proofs.YtneahmpmicoplaaGreatDoor.cl
