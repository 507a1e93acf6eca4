/-
  PROVED: for every model and every list of derivations that are together of bulk at most 1048576, the law RankOrders returns true and leaves its arguments as they read.
-/
import Derived.Test.YtogpflcfahjafaaRkP
import Derived.Test.YtogpflcfahjafaaRows
set_option linter.unusedVariables false
set_option linter.unusedSimpArgs false
namespace Go.Proofs.Ytogpflcfahjafaa.rk
open Go Go.AM Go.RowKit Go.ChangeShapes Go.WideShapes Go.ChangeAt

theorem exists_map {T : Type} {en : T → List AV} : ∀ {xs : List (List AV)}, (∀ x ∈ xs, ∃ y : T, x = en y) → ∃ l : List T, xs = l.map en := by
  intro xs
  induction xs with
  | nil => intro _; exact ⟨[], rfl⟩
  | cons x xs ih =>
    intro h
    obtain ⟨y, rfl⟩ := h x (by simp)
    obtain ⟨l, rfl⟩ := ih fun z hz => h z (by simp [hz])
    exact ⟨y :: l, rfl⟩

section
variable {H : Type} {enc : TypeId × Value → H} {w : World}
theorem bulks : BulkLike (H := H) Rows.uptoBulk Rows.uptoBulkAll where
  str := fun _ => rfl
  lit := fun l => by cases l <;> simp [Rows.uptoBulk]
  nil := by simp [Rows.uptoBulk]
  slice := fun _ _ => by simp [Rows.uptoBulk]
  agg := fun _ => by simp [Rows.uptoBulk]
  nilA := by simp [Rows.uptoBulkAll]
  consA := fun _ _ => by simp [Rows.uptoBulkAll]

theorem rd38 (n : Nat) : RdA enc P w Rows.uptoBulk n 38 fun avs => ∃ x : Weight, avs = x.enc := by
  cases n with
  | zero => exact RdA.zero
  | succ n =>
    refine (rd_struct bulks (Qs := [fun a => ∃ x, a = eStr x, fun a => ∃ x, a = eInt .i64 x]) Try.underlying38 (by kernel_rfl) (by kernel_rfl) ?_).mono ?_
    · exact ⟨rd_str bulks Try.underlying9, rd_int bulks Try.underlying3, trivial⟩
    · rintro a ⟨_, _, rfl, ⟨s, rfl⟩, _, _, rfl, ⟨v, rfl⟩, rfl⟩
      exact ⟨⟨s, v⟩, rfl⟩
theorem rd22 (n : Nat) : RdA enc P w Rows.uptoBulk n 22 fun avs => ∃ l : List Weight, avs = [.lst 2 (l.map Weight.enc)] := by
  cases n with
  | zero => exact RdA.zero
  | succ n =>
    refine (rd_slice bulks (sz := 2) Try.underlying22 (by kernel_rfl) (by decide) (rd38 n)).mono ?_
    rintro a ⟨xs, rfl, hx⟩
    obtain ⟨l, rfl⟩ := exists_map hx
    exact ⟨l, rfl⟩
theorem rd24 (n : Nat) : RdA enc P w Rows.uptoBulk n 24 fun avs => ∃ x : Model, avs = x.enc := by
  cases n with
  | zero => exact RdA.zero
  | succ n =>
    refine (rd_struct bulks (Qs := [fun a => ∃ l : List Weight, a = [.lst 2 (l.map Weight.enc)]]) Try.underlying24 (by kernel_rfl) (by kernel_rfl) ?_).mono ?_
    · exact ⟨rd22 n, trivial⟩
    · rintro a ⟨_, _, rfl, ⟨s, rfl⟩, rfl⟩
      exact ⟨⟨s⟩, rfl⟩
theorem rd36 : ∀ n : Nat, (RdA enc P w Rows.uptoBulk n 36 fun avs => ∃ x : Deriv, avs = x.encX) ∧ RdA enc P w Rows.uptoBulk n 25 fun avs => ∃ l : List Deriv, avs = [.lst 5 (l.map Deriv.encX)] := by
  intro n
  induction n with
  | zero => exact ⟨RdA.zero, RdA.zero⟩
  | succ n ih =>
    constructor
    · refine (rd_struct bulks (Qs := [fun a => ∃ x, a = eInt .i64 x, fun a => ∃ x, a = eStr x, fun a => ∃ x, a = eInt .i64 x, fun a => ∃ x, a = eInt .i64 x, fun a => ∃ l : List Deriv, a = [.lst 5 (l.map Deriv.encX)]]) Try.underlying36 (by kernel_rfl) (by kernel_rfl) ?_).mono ?_
      · exact ⟨rd_int bulks Try.underlying3, rd_str bulks Try.underlying9, rd_int bulks Try.underlying3, rd_int bulks Try.underlying3, ih.2, trivial⟩
      · rintro a ⟨_, _, rfl, ⟨k, rfl⟩, _, _, rfl, ⟨s, rfl⟩, _, _, rfl, ⟨f, rfl⟩, _, _, rfl, ⟨t, rfl⟩, _, _, rfl, ⟨l, rfl⟩, rfl⟩
        refine ⟨.mk k s f t l, ?_⟩
        rw [Deriv.encX, Deriv.encXs_eq]; rfl
    · refine (rd_slice bulks (sz := 5) Try.underlying25 (by kernel_rfl) (by decide) ih.1).mono ?_
      rintro a ⟨xs, rfl, hx⟩
      obtain ⟨l, rfl⟩ := exists_map hx
      exact ⟨l, rfl⟩
end

mutual
theorem size_bulk : ∀ d : Deriv, d.size ≤ bulkC d.encX
  | .mk k n f t l => by
    have := sizes_bulk l
    simp only [Deriv.size, Deriv.encX, bulkC, AV.bulk]; omega
theorem sizes_bulk : ∀ l : List Deriv, Deriv.sizes l ≤ bulkR (Deriv.encXs l)
  | [] => by simp [Deriv.sizes]
  | x :: l => by
    have h1 := size_bulk x
    have h2 := sizes_bulk l
    simp only [Deriv.sizes, Deriv.encXs, bulkR]; omega
end
theorem deriv_len (l : List Deriv) : 2 * l.length ≤ bulkR (l.map Deriv.encX) := by
  induction l with
  | nil => simp
  | cons x l ih =>
    cases x
    simp only [List.map_cons, List.length_cons, bulkR, Deriv.encX, bulkC, AV.bulk]; omega
theorem weight_len (l : List Weight) : 2 * l.length ≤ bulkR (l.map Weight.enc) := by
  induction l with
  | nil => simp
  | cons x l ih => simp only [List.map_cons, List.length_cons, bulkR, Weight.enc, bulkC, AV.bulk]; omega
theorem weight_feat {l : List Weight} {x : Weight} (h : x ∈ l) : x.Feature.length ≤ bulkR (l.map Weight.enc) := by
  have := bulkR_mem (List.mem_map_of_mem (f := Weight.enc) h)
  simp only [Weight.enc, bulkC, AV.bulk] at this; omega

theorem ok : progOk P = true := by kernel_rfl
theorem own : ownKnob Try.prog.godebug = none := by kernel_rfl

theorem contract (H : Type) (enc : TypeId × Value → H) (W : World) (base : Nat) (args : Array Value) (ds gs : List (DataW H)) (before : List MemPlace)
    (hval : ∀ (j : Nat) t v, Try.f3.params[j]? = some t → args[j]? = some v → Value.okWide Try.prog W .any base t v)
    (hW : DataW.Whole enc Try.prog Try.f3.params.toList Rows.rankOrdersSpec.vars false W args.toList ds gs before) (hk : Rows.uptoSmall H (ds ++ gs) = true) :
    Calls Try.prog 3 args W fun e W' => ∃ v, e = .returned v ∧ Rows.rankOrdersSpec.post enc Try.prog Try.f3 false true false false W args v W' := by
  have hW' := hW
  obtain ⟨p, q, hA0, hV, rfl, hfz, hnd⟩ := hW
  have hA : DataW.TrodAll enc Try.prog W 0 (fun _ => true) true Try.f3.params.toList args.toList ds p := hA0
  rw [Try.params3] at hA hval
  obtain ⟨v0, vs0, d0, ds0, p0, q0, hargs, rfl, rfl, h0, r0⟩ := trodAll_cons hA
  obtain ⟨v1, vs1, d1, ds1, p1, q1, rfl, rfl, rfl, h1, r1⟩ := trodAll_cons r0
  obtain ⟨rfl, rfl, rfl⟩ := trodAll_nil r1
  obtain rfl : args = #[v0, v1] := by cases args; simp_all
  obtain ⟨rfl, rfl⟩ := trodVars_none hV
  obtain ⟨a0, ⟨m, rfl⟩, hr0, hb0, _⟩ := arg_agg Try.underlying24 (hval 0 24 v0 rfl rfl) h0 rd24
  obtain ⟨ad, len, cap, rfl⟩ := okWide_slice Try.underlying25 (hval 1 25 v1 rfl rfl)
  obtain ⟨a1, ⟨l, hl⟩, hr1, hb1, _⟩ := arg_one rfl h1 (fun n => (rd36 n).2)
  injection hl with hl
  subst hl
  have hsum : Rows.uptoBulkAll ([d0, d1] ++ []) ≤ 1048576 := of_decide_eq_true hk
  simp only [List.cons_append, List.nil_append, Rows.uptoBulkAll] at hsum
  simp only [Model.enc, bulkC, AV.bulk] at hb0 hb1
  have hlaw := law m l (by have := weight_len m.Weights; omega) (fun x hx => by have := weight_feat hx; omega) (by have := deriv_len l; omega)
    (fun d hd => by
      have h1 := size_bulk d
      have h2 := bulkR_mem (List.mem_map_of_mem (f := Deriv.encX) hd)
      omega)
  have hcalls := law_calls (H := rk.H) ok prim_ok (avs := [.agg (Model.enc m), .lst 5 (l.map Deriv.encX)]) (us := [v0, .slice ad len cap]) (repAll_cons hr0 (repAll_cons hr1 repAll_nil)) hlaw
  refine hcalls.mono fun e W' ⟨he, hb⟩ => ?_
  subst he
  exact ⟨_, rfl, post_true (tb := 4) (by kernel_rfl) (by kernel_rfl) rfl rfl Try.underlying4 (fun ds hds => by
    match ds, hds with
    | [x, y], _ => rfl) hW' hb⟩

set_option maxRecDepth 100000 in
theorem lifted (os : Os) (started : os.Started) (H : Type) (enc : TypeId × Value → H) (F : Stop.Interp) :
    ReturnsInHanded {} Try.checked os 3 .any ((Rows.OpenSpec.upto Rows.rankOrdersSpec).pre6 enc Try.prog Try.f3 Rows.rankOrdersUptoRow.domain false) (((Rows.OpenSpec.upto Rows.rankOrdersSpec).at F).post enc Try.prog Try.f3 false true false false) := by
  refine returnsInHanded_of_cond (C := Try.checked) (s := Rows.OpenSpec.upto Rows.rankOrdersSpec) (k := Rows.uptoSmall) rfl own started (by kernel_rfl) Try.func3
    (OpenSpec.witness (enc := enc) (C := Try.checked) (s := Rows.OpenSpec.upto Rows.rankOrdersSpec) (k := Rows.uptoSmall) rfl false ⟨#[], #[.agg #[.slice none 0 0], .slice none 0 0], []⟩ 8 (by kernel_rfl) (by kernel_rfl) (by kernel_rfl)
      (x := ([.agg [.nil], .nil], [], [])) (by kernel_rfl) rfl (by kernel_rfl)) ?_
  intro W base args ds gs before hval hW _ hk _
  exact contract H enc W base args ds gs before hval hW hk
end Go.Proofs.Ytogpflcfahjafaa.rk

namespace Go.Proofs.Ytogpflcfahjafaa
theorem rankOrders_upto : Rows.RankOrdersUptoSaid :=
  OpenClaim.holds_of_cond 3 Try.f3 rfl rfl rfl rfl rfl rfl rfl ⟨rfl, rfl, rfl, rfl, rfl⟩ rfl rfl rfl rfl rfl (by kernel_rfl) Try.func3 (by kernel_rfl)
    (of_decide_eq_true (by kernel_rfl)) (by unfold Func.isWrapper; first | (rw [if_pos (by decide +kernel)]; kernel_rfl) | (rw [if_neg (by decide +kernel)]; exact ⟨rfl, rfl⟩))
    (fun os started H enc _ F => rk.lifted os started H enc F)
#print axioms rankOrders_upto
end Go.Proofs.Ytogpflcfahjafaa
