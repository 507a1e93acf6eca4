/- AppropLimits. -/
import Derived.Test.YtfoddgpndoeeaaaGreatDoorClT
import Derived.Test.YtfoddgpndoeeaaaGreatDoorAmR
import Derived.Test.YtfoddgpndoeeaaaGreatDoorRows
import Derived.Test.YtfoddgpndoeeaaaGreatDoorClQ
import Derived.Test.YtfoddgpndoeeaaaGreatDoorClBm
import Derived.Test.YtfoddgpndoeeaaaGreatDoorCards
import Derived.Test.YtfoddgpndoeeaaaGreatDoorTie
import Derived.WalkKit
import Derived.ProofKit
import Derived.OpenShut
import Derived.Deep.DeepHandedRow
import Derived.Lib.LaidTab
set_option linter.unusedVariables false
set_option linter.unusedSimpArgs false
set_option maxRecDepth 100000
namespace Go.Proofs.YtfoddgpndoeeaaaGreatDoor.cl
open Go Go.AM Go.RowKit Go.ChangeShapes Go.WideShapes Go.ChangeAt
section
variable {H:Type} {enc:TypeId×Value→H} {w:World}
theorem Uz:Ew (H:=H) Rows.uptoBulk Rows.uptoBulkAll where
 str:=fun _=>rfl
 lit:=fun l=>by cases l<;>simp [Rows.uptoBulk]
 nil:=by simp [Rows.uptoBulk]
 slice:=fun _ _=>by simp [Rows.uptoBulk]
 agg:=fun _=>by simp [Rows.uptoBulk]
 nilA:=by simp [Rows.uptoBulkAll]
 UC:=fun _ _=>by simp [Rows.uptoBulkAll]
end
section
variable {H:Type} {enc:TypeId×Value→H} {w:World} {base:Nat} {rch:Reach}
theorem Ms {v:Value} {d:DataW H} {ps:List MemPlace} (hok:Value.okWide Tryz.prog w rch base 4 v) (hd:DataW.Trod enc Tryz.prog w 0 (fun _=>true) true 4 v d ps):∃x:Bool,rep (Pw w) (.bool x) v:=by
 obtain ⟨n,rfl⟩:=okWide_bool Tryz.underlying4 hok;obtain ⟨a,⟨x,hl⟩,hr,_,hw⟩:=PG rfl hd (fun n=>QJ Uz (n:=n) Tryz.underlying4);simp only [Bz,List.cons.injEq,and_true] at hl;subst hl;exact ⟨x,hr⟩
end
end Go.Proofs.YtfoddgpndoeeaaaGreatDoor.cl
set_option linter.unusedVariables false
set_option linter.unusedSimpArgs false
set_option maxRecDepth 100000
namespace Go.Proofs.YtfoddgpndoeeaaaGreatDoor.cl
open Go Go.AM Go.RowKit Go.ChangeShapes Go.WideShapes Go.ChangeAt
theorem own:ownKnob Tryz.prog.godebug=none:=by kernel_rfl
theorem UQ:Tryz.prog.globalNamed "math/bits.deBruijn64tab" =some 0:=by kernel_rfl
theorem Nn:(Tryz.prog.globals[0]?).map (·.type)=some 138:=by kernel_rfl
theorem MH:Tryz.prog.cellsOf 138=64:=by kernel_rfl
theorem Sp:Tryz.prog.cellsOf 5=1:=by kernel_rfl
theorem QW {W:World} (h:laidMetH Tryz.prog Rows.appropLimitsRow.laid W):Lib.TabIs Tryz.prog W "math/bits.deBruijn64tab" .u8 [0,1,56,2,57,49,28,3,61,58,42,50,38,29,17,4,62,47,59,36,45,43,51,22,53,39,33,30,24,18,12,5,63,55,48,27,60,41,37,16,46,35,44,21,52,32,23,11,54,26,40,15,34,20,31,10,25,14,19,9,13,8,7,6]:=
 Lib.tabIs_of_head (rest:=[]) UQ Nn Tryz.underlying138 Tryz.underlying5 Sp MH h
theorem QV {W:World} (h:laidMetH Tryz.prog Rows.appropLimitsRow.laid W):JA.le (Pw W):=by
 intro b j v hv;unfold JA at hv;split at hv
 ·rename_i hb
  obtain ⟨rfl,hj⟩:=hb;injection hv with hv
  subst hv;have:=(QW h).cell UQ j hj;refine mX ?_ rfl;rw [this];have e:∀j,j<64→([0,1,56,2,57,49,28,3,61,58,42,50,38,29,17,4,62,47,59,36,45,43,51,22,53,39,33,30,24,18,12,5,63,55,48,27,60,41,37,16,46,35,44,21,52,32,23,11,54,26,40,15,34,20,31,10,25,14,19,9,13,8,7,6]:List Int).getD j 0=((Lib.deBruijn64tab.getD j 0:Nat):Int):=by decide
  rw [e j hj]
 ·cases hv
noncomputable def vK (os:Os):World:=
 {World.holding Tryz.prog os ⟨#[], #[],[]⟩ with heap:=(World.holding Tryz.prog os ⟨#[], #[],[]⟩).heap.modify 0 fun
   | .cells _ t frozen=> .cells #[.int .u8 0, .int .u8 1, .int .u8 56, .int .u8 2, .int .u8 57, .int .u8 49, .int .u8 28, .int .u8 3, .int .u8 61, .int .u8 58, .int .u8 42, .int .u8 50, .int .u8 38, .int .u8 29, .int .u8 17, .int .u8 4, .int .u8 62, .int .u8 47, .int .u8 59, .int .u8 36, .int .u8 45, .int .u8 43, .int .u8 51, .int .u8 22, .int .u8 53, .int .u8 39, .int .u8 33, .int .u8 30, .int .u8 24, .int .u8 18, .int .u8 12, .int .u8 5, .int .u8 63, .int .u8 55, .int .u8 48, .int .u8 27, .int .u8 60, .int .u8 41, .int .u8 37, .int .u8 16, .int .u8 46, .int .u8 35, .int .u8 44, .int .u8 21, .int .u8 52, .int .u8 32, .int .u8 23, .int .u8 11, .int .u8 54, .int .u8 26, .int .u8 40, .int .u8 15, .int .u8 34, .int .u8 20, .int .u8 31, .int .u8 10, .int .u8 25, .int .u8 14, .int .u8 19, .int .u8 9, .int .u8 13, .int .u8 8, .int .u8 7, .int .u8 6] t frozen
   |o=>o }
end Go.Proofs.YtfoddgpndoeeaaaGreatDoor.cl
