/- The laws of chapters 5 and 6. -/
import Derived.Test.YtmidjldjkbljjaaGreatDoorClT
import Derived.Test.YtmidjldjkbljjaaGreatDoorAmR
import Derived.Test.YtmidjldjkbljjaaGreatDoorRows
import Derived.Test.YtmidjldjkbljjaaGreatDoorClQ
import Derived.Test.YtmidjldjkbljjaaGreatDoorClBm
import Derived.Test.YtmidjldjkbljjaaGreatDoorCards
import Derived.Test.YtmidjldjkbljjaaGreatDoorTie
import Derived.WalkKit
import Derived.ProofKit
import Derived.OpenShut
import Derived.Deep.DeepHandedRow
import Derived.Lib.LaidTab
set_option linter.unusedVariables false
set_option linter.unusedSimpArgs false
set_option maxRecDepth 100000
namespace Go.Proofs.YtmidjldjkbljjaaGreatDoor.cl
open Go Go.AM Go.RowKit Go.ChangeShapes Go.WideShapes Go.ChangeAt
theorem nL {T:Type} {en:T→List AV}:∀{xs:List (List AV)},(∀x∈xs,∃y:T,x=en y)→∃l:List T,xs=l.map en:=by
 intro xs
 induction xs with
 |nil=>intro _;exact ⟨[],rfl⟩
 |cons x xs ih=>
  intro h;obtain ⟨y,rfl⟩:=h x (by simp);obtain ⟨l,rfl⟩:=ih fun z hz=>h z (by simp [hz])
  exact ⟨y::l,rfl⟩
section
variable {H:Type} {enc:TypeId×Value→H} {w:World}
theorem mJ:nB (H:=H) Rows.uptoBulk Rows.uptoBulkAll where
 str:=fun _=>rfl
 lit:=fun l=>by cases l<;>simp [Rows.uptoBulk]
 nil:=by simp [Rows.uptoBulk]
 slice:=fun _ _=>by simp [Rows.uptoBulk]
 agg:=fun _=>by simp [Rows.uptoBulk]
 nilA:=by simp [Rows.uptoBulkAll]
 Qn:=fun _ _=>by simp [Rows.uptoBulkAll]
theorem rd54 (n:Nat):xR enc P w Rows.uptoBulk n 54 fun lu=>∃x:aj,lu=x.enc:=by
 cases n with
 |zero=>exact xR.zero
 |succ n=>
  refine (yI mJ (Qs:=[fun a=>∃x,a=aA x,fun a=>∃x,a=aA x]) Tryz.underlying54 (by kernel_rfl) (by kernel_rfl) ?_).mono ?_
  ·exact ⟨B0 mJ Tryz.underlying9,B0 mJ Tryz.underlying9,trivial⟩
  ·rintro a ⟨_,_,rfl,⟨s,rfl⟩,_,_,rfl,⟨v,rfl⟩,rfl⟩
   exact ⟨⟨s,v⟩,rfl⟩
theorem rd50 (n:Nat):xR enc P w Rows.uptoBulk n 50 fun lu=>∃l:List aj,lu=[.cm 2 (l.map aj.enc)]:=by
 cases n with
 |zero=>exact xR.zero
 |succ n=>
  refine (s7 mJ (sz:=2) Tryz.underlying50 (by kernel_rfl) (by decide) (rd54 n)).mono ?_
  rintro a ⟨xs,rfl,hx⟩
  obtain ⟨l,rfl⟩:=nL hx;exact ⟨l,rfl⟩
theorem rd49 (n:Nat):xR enc P w Rows.uptoBulk n 49 fun lu=>∃l:List (List UInt8),lu=[.cm 1 (l.map aA)]:=by
 cases n with
 |zero=>exact xR.zero
 |succ n=>
  refine (s7 mJ (sz:=1) Tryz.underlying49 (by kernel_rfl) (by decide) (B0 mJ (n:=n) Tryz.underlying9)).mono ?_
  rintro a ⟨xs,rfl,hx⟩
  obtain ⟨l,rfl⟩:=nL hx;exact ⟨l,rfl⟩
theorem rd52 (n:Nat):xR enc P w Rows.uptoBulk n 52 fun lu=>∃x:af,lu=x.enc:=by
 cases n with
 |zero=>exact xR.zero
 |succ n=>
  refine (yI mJ (Qs:=[fun a=>∃x,a=aA x,fun a=>∃l:List (List UInt8),a=[.cm 1 (l.map aA)],fun a=>∃l:List aj,a=[.cm 2 (l.map aj.enc)]]) Tryz.underlying52 (by kernel_rfl) (by kernel_rfl) ?_).mono ?_
  ·exact ⟨B0 mJ Tryz.underlying9,rd49 n,rd50 n,trivial⟩
  ·rintro a ⟨_,_,rfl,⟨s,rfl⟩,_,_,rfl,⟨l,rfl⟩,_,_,rfl,⟨m,rfl⟩,rfl⟩
   exact ⟨⟨s,l,m⟩,rfl⟩
theorem rd22 (n:Nat):xR enc P w Rows.uptoBulk n 22 fun lu=>∃l:List af,lu=[.cm 3 (l.map af.enc)]:=by
 cases n with
 |zero=>exact xR.zero
 |succ n=>
  refine (s7 mJ (sz:=3) Tryz.underlying22 (by kernel_rfl) (by decide) (rd52 n)).mono ?_
  rintro a ⟨xs,rfl,hx⟩
  obtain ⟨l,rfl⟩:=nL hx;exact ⟨l,rfl⟩
theorem rd37 (n:Nat):xR enc P w Rows.uptoBulk n 37 fun lu=>∃x:au,lu=x.enc:=by
 cases n with
 |zero=>exact xR.zero
 |succ n=>
  refine (yI mJ (Qs:=[fun a=>∃x,a=aB .i64 x,fun a=>∃x,a=aB .i64 x]) Tryz.underlying37 (by kernel_rfl) (by kernel_rfl) ?_).mono ?_
  ·exact ⟨LX mJ Tryz.underlying3,LX mJ Tryz.underlying3,trivial⟩
  ·rintro a ⟨_,_,rfl,⟨s,rfl⟩,_,_,rfl,⟨v,rfl⟩,rfl⟩
   exact ⟨⟨s,v⟩,rfl⟩
theorem rd35 (n:Nat):xR enc P w Rows.uptoBulk n 35 fun lu=>∃l:List au,lu=[.cm 2 (l.map au.enc)]:=by
 cases n with
 |zero=>exact xR.zero
 |succ n=>
  refine (s7 mJ (sz:=2) Tryz.underlying35 (by kernel_rfl) (by decide) (rd37 n)).mono ?_
  rintro a ⟨xs,rfl,hx⟩
  obtain ⟨l,rfl⟩:=nL hx;exact ⟨l,rfl⟩
theorem rd31 (n:Nat):xR enc P w Rows.uptoBulk n 31 fun lu=>∃l:List (List au),lu=[.cm 1 (l.map (bS 2 au.enc))]:=by
 cases n with
 |zero=>exact xR.zero
 |succ n=>
  refine (s7 mJ (sz:=1) Tryz.underlying31 (by kernel_rfl) (by decide) (rd35 n)).mono ?_
  rintro a ⟨xs,rfl,hx⟩
  obtain ⟨l,rfl⟩:=nL hx;exact ⟨l,rfl⟩
end
theorem wf_u8 {x:Int} (h:(AV.int .u8 x).wf):0≤x∧x≤255:=by
 have h':(decide (IntKind.min .u8≤x)&&decide (x≤IntKind.max .u8))=true:=by
  rw [AV.wf] at h;exact h
 simp only [Bool.and_eq_true,decide_eq_true_eq] at h';exact h'
section
variable {H:Type} {enc:TypeId×Value→H} {w:World} {base:Nat} {rch:Reach}
theorem lq {v:Value} {d:DataW H} {ps:List MemPlace} (hok:Value.okWide Tryz.prog w rch base 22 v) (hd:DataW.Trod enc Tryz.prog w 0 (fun _=>true) true 22 v d ps):∃l:List af,rep (IM w) (.cm 3 (l.map af.enc)) v:=by
 obtain ⟨ad,len,cap,rfl⟩:=okWide_slice Tryz.underlying22 hok;obtain ⟨a,⟨l,hl⟩,hr,_,_⟩:=vM rfl hd rd22;injection hl with hl
 subst hl;exact ⟨l,hr⟩
theorem P0 {v:Value} {d:DataW H} {ps:List MemPlace} (hok:Value.okWide Tryz.prog w rch base 49 v) (hd:DataW.Trod enc Tryz.prog w 0 (fun _=>true) true 49 v d ps):∃l:List (List UInt8),rep (IM w) (.cm 1 (l.map aA)) v:=by
 obtain ⟨ad,len,cap,rfl⟩:=okWide_slice Tryz.underlying49 hok;obtain ⟨a,⟨l,hl⟩,hr,_,_⟩:=vM rfl hd rd49;injection hl with hl
 subst hl;exact ⟨l,hr⟩
theorem Y3 {v:Value} {d:DataW H} {ps:List MemPlace} (hok:Value.okWide Tryz.prog w rch base 31 v) (hd:DataW.Trod enc Tryz.prog w 0 (fun _=>true) true 31 v d ps):∃l:List (List au),rep (IM w) (.cm 1 (l.map (bS 2 au.enc))) v:=by
 obtain ⟨ad,len,cap,rfl⟩:=okWide_slice Tryz.underlying31 hok;obtain ⟨a,⟨l,hl⟩,hr,_,_⟩:=vM rfl hd rd31;injection hl with hl
 subst hl;exact ⟨l,hr⟩
theorem qO {v:Value} {d:DataW H} {ps:List MemPlace} (hok:Value.okWide Tryz.prog w rch base 5 v) (hd:DataW.Trod enc Tryz.prog w 0 (fun _=>true) true 5 v d ps):∃x:Int,rep (IM w) (.int .u8 x) v∧0≤x∧x≤255:=by
 obtain ⟨n,rfl⟩:=okWide_int Tryz.underlying5 hok;obtain ⟨a,⟨x,hl⟩,hr,_,hw⟩:=vM rfl hd (fun n=>LX mJ (n:=n) Tryz.underlying5);simp only [aB,List.cons.injEq,and_true] at hl;subst hl;exact ⟨x,hr,wf_u8 hw⟩
theorem arg_str {v:Value} {d:DataW H} {ps:List MemPlace} (hok:Value.okWide Tryz.prog w rch base 9 v) (hd:DataW.Trod enc Tryz.prog w 0 (fun _=>true) true 9 v d ps):∃x:List UInt8,rep (IM w) (.str x) v:=by
 obtain ⟨n,rfl⟩:=okWide_string Tryz.underlying9 hok;obtain ⟨a,⟨x,hl⟩,hr,_,hw⟩:=vM rfl hd (fun n=>B0 mJ (n:=n) Tryz.underlying9);simp only [aA,List.cons.injEq,and_true] at hl;subst hl;exact ⟨x,hr⟩
end
end Go.Proofs.YtmidjldjkbljjaaGreatDoor.cl
set_option linter.unusedVariables false
set_option linter.unusedSimpArgs false
set_option maxRecDepth 100000
namespace Go.Proofs.YtmidjldjkbljjaaGreatDoor.cl
open Go Go.AM Go.RowKit Go.ChangeShapes Go.WideShapes Go.ChangeAt
theorem own:ownKnob Tryz.prog.godebug=none:=by kernel_rfl
theorem Zt:Tryz.prog.globalNamed "math/bits.deBruijn64tab" =some 0:=by kernel_rfl
theorem QV:(Tryz.prog.globals[0]?).map (·.type)=some 189:=by kernel_rfl
theorem Ql:Tryz.prog.cellsOf 189=64:=by kernel_rfl
theorem WV:Tryz.prog.cellsOf 5=1:=by kernel_rfl
theorem U7 {W:World} (h:laidMetH Tryz.prog Rows.appropChecksRow.laid W):Lib.TabIs Tryz.prog W "math/bits.deBruijn64tab" .u8 [0,1,56,2,57,49,28,3,61,58,42,50,38,29,17,4,62,47,59,36,45,43,51,22,53,39,33,30,24,18,12,5,63,55,48,27,60,41,37,16,46,35,44,21,52,32,23,11,54,26,40,15,34,20,31,10,25,14,19,9,13,8,7,6]:=
 Lib.tabIs_of_head (rest:=[]) Zt QV Tryz.underlying189 Tryz.underlying5 WV Ql h
theorem pE {W:World} (h:laidMetH Tryz.prog Rows.appropChecksRow.laid W):TG.le (IM W):=by
 intro b j v hv;unfold TG at hv;split at hv
 ·rename_i hb
  obtain ⟨rfl,hj⟩:=hb;injection hv with hv
  subst hv;have:=(U7 h).cell Zt j hj;refine mB ?_ rfl;rw [this];have e:∀j,j<64→([0,1,56,2,57,49,28,3,61,58,42,50,38,29,17,4,62,47,59,36,45,43,51,22,53,39,33,30,24,18,12,5,63,55,48,27,60,41,37,16,46,35,44,21,52,32,23,11,54,26,40,15,34,20,31,10,25,14,19,9,13,8,7,6]:List Int).getD j 0=((Lib.deBruijn64tab.getD j 0:Nat):Int):=by decide
  rw [e j hj]
 ·cases hv
noncomputable def c7 (os:Os):World:=
 {World.holding Tryz.prog os ⟨#[], #[],[]⟩ with heap:=(World.holding Tryz.prog os ⟨#[], #[],[]⟩).heap.modify 0 fun
   | .cells _ t frozen=> .cells #[.int .u8 0, .int .u8 1, .int .u8 56, .int .u8 2, .int .u8 57, .int .u8 49, .int .u8 28, .int .u8 3, .int .u8 61, .int .u8 58, .int .u8 42, .int .u8 50, .int .u8 38, .int .u8 29, .int .u8 17, .int .u8 4, .int .u8 62, .int .u8 47, .int .u8 59, .int .u8 36, .int .u8 45, .int .u8 43, .int .u8 51, .int .u8 22, .int .u8 53, .int .u8 39, .int .u8 33, .int .u8 30, .int .u8 24, .int .u8 18, .int .u8 12, .int .u8 5, .int .u8 63, .int .u8 55, .int .u8 48, .int .u8 27, .int .u8 60, .int .u8 41, .int .u8 37, .int .u8 16, .int .u8 46, .int .u8 35, .int .u8 44, .int .u8 21, .int .u8 52, .int .u8 32, .int .u8 23, .int .u8 11, .int .u8 54, .int .u8 26, .int .u8 40, .int .u8 15, .int .u8 34, .int .u8 20, .int .u8 31, .int .u8 10, .int .u8 25, .int .u8 14, .int .u8 19, .int .u8 9, .int .u8 13, .int .u8 8, .int .u8 7, .int .u8 6] t frozen
   |o=>o }
end Go.Proofs.YtmidjldjkbljjaaGreatDoor.cl
