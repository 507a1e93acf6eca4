/-
  The Closure laws: reading the arguments.
-/
import Derived.Test.YtneahmpmicoplaaGreatDoorClT
import Derived.Test.YtneahmpmicoplaaGreatDoorAmR
import Derived.Test.YtneahmpmicoplaaGreatDoorRows
set_option linter.unusedVariables false
set_option linter.unusedSimpArgs false
set_option maxRecDepth 100000
namespace Go.Proofs.YtneahmpmicoplaaGreatDoor.cl
open Go Go.AM Go.RowKit Go.ChangeShapes Go.WideShapes Go.ChangeAt
theorem exists_map {T : Type} {en : T → List AV} : ∀ {xs : List (List AV)}, (∀ x ∈ xs, ∃ y : T, x = en y) → ∃ l : List T, xs = l.map en := by
  intro xs
  induction xs with
  | nil => intro _; exact ⟨[], rfl⟩
  | cons x xs ih =>
    intro h
    obtain ⟨y, rfl⟩ := h x (by simp)
    obtain ⟨l, rfl⟩ := ih fun z hz => h z (by simp [hz])
    exact ⟨y :: l, rfl⟩
section
variable {H : Type} {enc : TypeId × Value → H} {w : World}
theorem bulks : BulkLike (H := H) Rows.uptoBulk Rows.uptoBulkAll where
  str := fun _ => rfl
  lit := fun l => by cases l <;> simp [Rows.uptoBulk]
  nil := by simp [Rows.uptoBulk]
  slice := fun _ _ => by simp [Rows.uptoBulk]
  agg := fun _ => by simp [Rows.uptoBulk]
  nilA := by simp [Rows.uptoBulkAll]
  consA := fun _ _ => by simp [Rows.uptoBulkAll]
theorem rd184 (n : Nat) : RdA enc P w Rows.uptoBulk n 184 fun avs => ∃ x : FeatDecl, avs = x.enc := by
  cases n with
  | zero => exact RdA.zero
  | succ n =>
    refine (rd_struct bulks (Qs := [fun a => ∃ x, a = eStr x, fun a => ∃ x, a = eStr x]) Tryz.underlying184 (by kernel_rfl) (by kernel_rfl) ?_).mono ?_
    · exact ⟨rd_str bulks Tryz.underlying9, rd_str bulks Tryz.underlying9, trivial⟩
    · rintro a ⟨_, _, rfl, ⟨s, rfl⟩, _, _, rfl, ⟨v, rfl⟩, rfl⟩
      exact ⟨⟨s, v⟩, rfl⟩
theorem rd55 (n : Nat) : RdA enc P w Rows.uptoBulk n 55 fun avs => ∃ l : List FeatDecl, avs = [.lst 2 (l.map FeatDecl.enc)] := by
  cases n with
  | zero => exact RdA.zero
  | succ n =>
    refine (rd_slice bulks (sz := 2) Tryz.underlying55 (by kernel_rfl) (by decide) (rd184 n)).mono ?_
    rintro a ⟨xs, rfl, hx⟩
    obtain ⟨l, rfl⟩ := exists_map hx
    exact ⟨l, rfl⟩
theorem rd54 (n : Nat) : RdA enc P w Rows.uptoBulk n 54 fun avs => ∃ l : List (List UInt8), avs = [.lst 1 (l.map eStr)] := by
  cases n with
  | zero => exact RdA.zero
  | succ n =>
    refine (rd_slice bulks (sz := 1) Tryz.underlying54 (by kernel_rfl) (by decide) (rd_str bulks (n := n) Tryz.underlying9)).mono ?_
    rintro a ⟨xs, rfl, hx⟩
    obtain ⟨l, rfl⟩ := exists_map hx
    exact ⟨l, rfl⟩
theorem rd57 (n : Nat) : RdA enc P w Rows.uptoBulk n 57 fun avs => ∃ x : TypeDecl, avs = x.enc := by
  cases n with
  | zero => exact RdA.zero
  | succ n =>
    refine (rd_struct bulks (Qs := [fun a => ∃ x, a = eStr x, fun a => ∃ l : List (List UInt8), a = [.lst 1 (l.map eStr)], fun a => ∃ l : List FeatDecl, a = [.lst 2 (l.map FeatDecl.enc)]]) Tryz.underlying57 (by kernel_rfl) (by kernel_rfl) ?_).mono ?_
    · exact ⟨rd_str bulks Tryz.underlying9, rd54 n, rd55 n, trivial⟩
    · rintro a ⟨_, _, rfl, ⟨s, rfl⟩, _, _, rfl, ⟨l, rfl⟩, _, _, rfl, ⟨m, rfl⟩, rfl⟩
      exact ⟨⟨s, l, m⟩, rfl⟩
theorem rd22 (n : Nat) : RdA enc P w Rows.uptoBulk n 22 fun avs => ∃ l : List TypeDecl, avs = [.lst 3 (l.map TypeDecl.enc)] := by
  cases n with
  | zero => exact RdA.zero
  | succ n =>
    refine (rd_slice bulks (sz := 3) Tryz.underlying22 (by kernel_rfl) (by decide) (rd57 n)).mono ?_
    rintro a ⟨xs, rfl, hx⟩
    obtain ⟨l, rfl⟩ := exists_map hx
    exact ⟨l, rfl⟩
end
section
variable {H : Type} {enc : TypeId × Value → H} {w : World} {base : Nat} {rch : Reach}
theorem arg_decls {v : Value} {d : DataW H} {ps : List MemPlace} (hok : Value.okWide Tryz.prog w rch base 22 v) (hd : DataW.Trod enc Tryz.prog w 0 (fun _ => true) true 22 v d ps) : ∃ l : List TypeDecl, rep (muW w) (.lst 3 (l.map TypeDecl.enc)) v := by
  obtain ⟨ad, len, cap, rfl⟩ := okWide_slice Tryz.underlying22 hok
  obtain ⟨a, ⟨l, hl⟩, hr, _, _⟩ := arg_one rfl hd rd22
  injection hl with hl
  subst hl
  exact ⟨l, hr⟩
end
end Go.Proofs.YtneahmpmicoplaaGreatDoor.cl
