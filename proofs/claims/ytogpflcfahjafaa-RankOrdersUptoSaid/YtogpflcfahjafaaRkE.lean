/-
  RankOrders: the bodies of the functions and loops, as equations, by program (decomp.py).
-/
import Derived.Test.YtogpflcfahjafaaRkT
set_option linter.unusedVariables false
set_option linter.unusedSimpArgs false
set_option maxRecDepth 100000
namespace Go.Proofs.Ytogpflcfahjafaa.rk
open Go Go.AM
/-- grammarlab/grammarlablaw38.RankOrders -/
theorem b3 (m0 : Model) (l1 : List Deriv) {r : Out}
  (h : (
    bif (decide ((List.length (List.map Weight.enc m0.Weights) : Int) > 60)) then (
      callE (Rn 6 [] []) fun r202 => asE R6.enc r202 fun y201 =>
      some ((.bool y201), []))
    else (
      bif (decide ((List.length (List.map Deriv.encX l1) : Int) > 8)) then (
        callE (Rn 6 [] []) fun r204 => asE R6.enc r204 fun y203 =>
        some ((.bool y203), []))
      else (
        callE (Rn 4 [(.pv (.lst 5 (List.map Deriv.encX l1))), (.pv (.int .i64 80))] []) fun r206 => asE R4.enc r206 fun y205 =>
        bif (!y205) then (
          callE (Rn 6 [] []) fun r208 => asE R6.enc r208 fun y207 =>
          some ((.bool y207), []))
        else (
          callE (Rn 5 [(.pv (.agg (Model.enc m0)))] []) fun r210 => asE R5.enc r210 fun y209 =>
          bif (y209 != 0) then (
            callE (Rn 6 [] []) fun r212 => asE R6.enc r212 fun y211 =>
            some ((.bool y211), []))
          else (
            callE (Rn 8 [(.pv (.agg (Model.enc m0))), (.pv (.lst 5 (List.map Deriv.encX l1)))] []) fun r214 => asE R8.enc r214 fun y213 =>
            callE (Rn 9 [(.pv (.agg (Model.enc m0))), (.pv (.lst 5 (List.map Deriv.encX l1)))] []) fun r216 => asE R9.enc r216 fun y215 =>
            callE (Rn 7 [(.pv (.lst 6 (List.map Scored.enc y213))), (.pv (.lst 6 (List.map Scored.enc y215)))] []) fun r218 => asE R7.enc r218 fun y217 =>
            bif y217 then (
              callE (Rn 6 [] []) fun r220 => asE R6.enc r220 fun y219 =>
              some ((.bool y219), []))
            else (
              some ((.bool false), []))))))) = some r) :
  Rn 3 [(.pv (.agg (Model.enc m0))), (.pv (.lst 5 (List.map Deriv.encX l1)))] [] = some r :=
  run_body (C := cods) rfl (Eq.trans (by kernel_rfl) h)

/-- grammarlab/grammarlabref37.Light -/
theorem b4 (l0 : List Deriv) (most1 : Int) {r : Out}
  (h : (
    headT P cods H prim 4 3 [] [(0, (.pv (.lst 5 (List.map Deriv.encX l0)))), (1, (.pv (.int .i64 most1))), (5, (.pv (.int .i64 0))), (6, (.pv (.int .i64 0)))] []) = some r) :
  Rn 4 [(.pv (.lst 5 (List.map Deriv.encX l0))), (.pv (.int .i64 most1))] [] = some r :=
  run_body (C := cods) rfl (Eq.trans (by kernel_rfl) h)

/-- grammarlab/grammarlabref37.Light, loop 3 -/
theorem L4_3 (l0 : List Deriv) (most1 : Int) (n5 : Int) (i6 : Int) {r : Out}
  (h : (
    bif (decide (i6 < (List.length (List.map Deriv.encX l0) : Int))) then (
      bif (decide (n5 ≤ most1)) then (
        getK (List.map Deriv.encX l0) i6 fun c202 => asE Deriv.enc c202 fun x201 =>
        callE (Rn 10 [(.pv (.agg (Deriv.enc x201))), (.pv (.int .i64 (IntKind.wrap .i64 (most1 + 1))))] []) fun r204 => asE R10.enc r204 fun y203 =>
        headT P cods H prim 4 3 [] [(0, (.pv (.lst 5 (List.map Deriv.encX l0)))), (1, (.pv (.int .i64 most1))), (5, (.pv (.int .i64 (IntKind.wrap .i64 (n5 + y203))))), (6, (.pv (.int .i64 (IntKind.wrap .i64 (i6 + 1)))))] [])
      else (
        some ((.bool (decide (n5 ≤ most1))), [])))
    else (
      some ((.bool (decide (n5 ≤ most1))), []))) = some r) :
  headT P cods H prim 4 3 [] [(0, (.pv (.lst 5 (List.map Deriv.encX l0)))), (1, (.pv (.int .i64 most1))), (5, (.pv (.int .i64 n5))), (6, (.pv (.int .i64 i6)))] [] = some r :=
  head_round (Eq.trans (by kernel_rfl) h)

/-- grammarlab/grammarlabref37.Check -/
theorem b5 (m0 : Model) {r : Out}
  (h : (
    headT P cods H prim 5 2 [] [(1, (.ptr 1 0)), (3, (.pv (.int .i64 0)))] [(1, (.box 24 (List.map .pv (Model.enc m0))))]) = some r) :
  Rn 5 [(.pv (.agg (Model.enc m0)))] [] = some r :=
  run_body (C := cods) rfl (Eq.trans (by kernel_rfl) h)

/-- grammarlab/grammarlabref37.Check, loop 2 -/
theorem L5_2 (i3 : Int) (o1 : Model) {r : Out}
  (h : (
    bif (decide (i3 < (List.length (List.map Weight.enc o1.Weights) : Int))) then (
      getK (List.map Weight.enc o1.Weights) i3 fun c202 => asE Weight.enc c202 fun x201 =>
      callE (Rn 11 [(.pv (.str x201.Feature))] []) fun r204 => asE R11.enc r204 fun y203 =>
      bif (!y203) then (
        some ((.int .i64 1), []))
      else (
        bif (x201.Value == 0) then (
          some ((.int .i64 2), []))
        else (
          bif (decide (x201.Value < (-1048576))) then (
            some ((.int .i64 2), []))
          else (
            bif (decide (x201.Value > 1048576)) then (
              some ((.int .i64 2), []))
            else (
              bif (decide (i3 > 0)) then (
                getK (List.map Weight.enc o1.Weights) (IntKind.wrap .i64 (i3 - 1)) fun c206 => asE Weight.enc c206 fun x205 =>
                bif (Op.bytesLess x201.Feature x205.Feature || x201.Feature == x205.Feature) then (
                  some ((.int .i64 3), []))
                else (
                  headT P cods H prim 5 2 [] [(1, (.ptr 1 0)), (3, (.pv (.int .i64 (IntKind.wrap .i64 (i3 + 1)))))] [(1, (.box 24 (List.map .pv (Model.enc o1))))]))
              else (
                headT P cods H prim 5 2 [] [(1, (.ptr 1 0)), (3, (.pv (.int .i64 (IntKind.wrap .i64 (i3 + 1)))))] [(1, (.box 24 (List.map .pv (Model.enc o1))))]))))))
    else (
      some ((.int .i64 0), []))) = some r) :
  headT P cods H prim 5 2 [] [(1, (.ptr 1 0)), (3, (.pv (.int .i64 i3)))] [(1, (.box 24 (List.map .pv (Model.enc o1))))] = some r :=
  head_round (Eq.trans (by kernel_rfl) h)

/-- grammarlab/grammarlablaw38.exampleHolds -/
theorem b6  {r : Out}
  (h : (
    callE (Rn 12 [(.pv (.str [97]))] []) fun r202 => asE R12.enc r202 fun y201 =>
    callE (Rn 12 [(.pv (.str [98]))] []) fun r204 => asE R12.enc r204 fun y203 =>
    callE (Rn 8 [(.pv (.agg (Model.enc (Model.mk [(Weight.mk [98] 2)])))), (.pv (.lst 5 (List.map Deriv.enc [y201, y203])))] []) fun r206 => asE R8.enc r206 fun y205 =>
    bif ((List.length (List.map Scored.enc y205) : Int) == 2) then (
      getK (List.map Scored.enc y205) 0 fun c208 => asE Scored.enc c208 fun x207 =>
      bif (x207.Deriv.Name == ([98] : List UInt8)) then (
        getK (List.map Scored.enc y205) 0 fun c210 => asE Scored.enc c210 fun x209 =>
        bif (x209.Score == 2) then (
          getK (List.map Scored.enc y205) 1 fun c212 => asE Scored.enc c212 fun x211 =>
          bif (x211.Deriv.Name == ([97] : List UInt8)) then (
            getK (List.map Scored.enc y205) 1 fun c214 => asE Scored.enc c214 fun x213 =>
            some ((.bool (x213.Score == 0)), []))
          else (
            some ((.bool false), [])))
        else (
          some ((.bool false), [])))
      else (
        some ((.bool false), [])))
    else (
      some ((.bool false), []))) = some r) :
  Rn 6 [] [] = some r :=
  run_body (C := cods) rfl (Eq.trans (by kernel_rfl) h)

/-- grammarlab/grammarlabref38.Same -/
theorem b7 (a0 : List Scored) (b1 : List Scored) {r : Out}
  (h : (
    bif ((List.length (List.map Scored.enc a0) : Int) != (List.length (List.map Scored.enc b1) : Int)) then (
      some ((.bool false), []))
    else (
      headT P cods H prim 7 4 [] [(0, (.pv (.lst 6 (List.map Scored.enc a0)))), (1, (.pv (.lst 6 (List.map Scored.enc b1)))), (5, (.pv (.int .i64 0)))] [])) = some r) :
  Rn 7 [(.pv (.lst 6 (List.map Scored.enc a0))), (.pv (.lst 6 (List.map Scored.enc b1)))] [] = some r :=
  run_body (C := cods) rfl (Eq.trans (by kernel_rfl) h)

/-- grammarlab/grammarlabref38.Same, loop 4 -/
theorem L7_4 (a0 : List Scored) (b1 : List Scored) (i5 : Int) {r : Out}
  (h : (
    bif (decide (i5 < (List.length (List.map Scored.enc a0) : Int))) then (
      getK (List.map Scored.enc a0) i5 fun c202 => asE Scored.enc c202 fun x201 =>
      getK (List.map Scored.enc b1) i5 fun c204 => asE Scored.enc c204 fun x203 =>
      bif (x201.Score != x203.Score) then (
        some ((.bool false), []))
      else (
        getK (List.map Scored.enc a0) i5 fun c206 => asE Scored.enc c206 fun x205 =>
        getK (List.map Scored.enc b1) i5 fun c208 => asE Scored.enc c208 fun x207 =>
        callE (Rn 13 [(.pv (.agg (Deriv.enc x205.Deriv))), (.pv (.agg (Deriv.enc x207.Deriv)))] []) fun r210 => asE R13.enc r210 fun y209 =>
        bif (y209 != 0) then (
          some ((.bool false), []))
        else (
          headT P cods H prim 7 4 [] [(0, (.pv (.lst 6 (List.map Scored.enc a0)))), (1, (.pv (.lst 6 (List.map Scored.enc b1)))), (5, (.pv (.int .i64 (IntKind.wrap .i64 (i5 + 1)))))] [])))
    else (
      some ((.bool true), []))) = some r) :
  headT P cods H prim 7 4 [] [(0, (.pv (.lst 6 (List.map Scored.enc a0)))), (1, (.pv (.lst 6 (List.map Scored.enc b1)))), (5, (.pv (.int .i64 i5)))] [] = some r :=
  head_round (Eq.trans (by kernel_rfl) h)

/-- grammarlab/rank.Order -/
theorem b8 (m0 : Model) (l1 : List Deriv) {r : Out}
  (h : (
    check (0 ≤ (List.length (List.map Deriv.encX l1) : Int) ∧ (List.length (List.map Deriv.encX l1) : Int) ≤ (List.length (List.map Deriv.encX l1) : Int) ∧ 72 * Int.toNat (List.length (List.map Deriv.encX l1) : Int) ≤ 281474976710656 ∧ (List.length (List.map Deriv.encX l1) : Int) ≤ 9223372036854775807) (
    headT P cods H prim 8 3 [] [(2, (.ptr 2 0)), (5, (.row 10)), (11, (.pv (.lst 5 (List.map Deriv.encX l1)))), (12, (.pv (.int .i64 (List.length (List.map Deriv.encX l1) : Int)))), (13, (.pv (.int .i64 0)))] [(2, (.box 24 (List.map .pv (Model.enc m0)))), (10, (.row 42 6 (List.replicate (Int.toNat (List.length (List.map Deriv.encX l1) : Int)) (Scored.enc (Scored.mk (Deriv.mk 0 [] 0 0 []) 0)))))])) = some r) :
  Rn 8 [(.pv (.agg (Model.enc m0))), (.pv (.lst 5 (List.map Deriv.encX l1)))] [] = some r :=
  run_body (C := cods) rfl (Eq.trans (by kernel_rfl) h)

/-- grammarlab/rank.Order, loop 3 -/
theorem L8_3 (v11 : List Deriv) (v12 : Int) (v13 : Int) (o2 : Model) (o10 : List Scored) {r : Out}
  (h : (
    bif (decide (v13 < v12)) then (
      getK (List.map Deriv.encX v11) v13 fun c202 => asE Deriv.enc c202 fun x201 =>
      callE (Rn 14 [(.pv (.agg (Model.enc o2))), (.pv (.agg (Deriv.enc x201)))] []) fun r204 => asE R14.enc r204 fun y203 =>
      check (0 ≤ v13 ∧ Int.toNat v13 < List.length (List.map Scored.enc o10)) (
      getN (List.map Scored.enc o10) (Int.toNat v13) fun c206 => asE Scored.enc c206 fun x205 =>
      headT P cods H prim 8 3 [] [(2, (.ptr 2 0)), (5, (.row 10)), (11, (.pv (.lst 5 (List.map Deriv.encX v11)))), (12, (.pv (.int .i64 v12))), (13, (.pv (.int .i64 (IntKind.wrap .i64 (v13 + 1)))))] [(2, (.box 24 (List.map .pv (Model.enc o2)))), (10, (.row 42 6 ((List.map Scored.enc o10).set (Int.toNat v13) (Scored.enc (Scored.mk x201 y203)))))]))
    else (
      callR (Rn 15 [(.row 10000), (.pv (.fn 16 []))] [(10000, (.row 42 6 (List.map Scored.enc o10)))]) 10000 42 6 fun r208 c210 => asE R15.enc r208 fun y207 => asE (List.map Scored.enc) c210 fun l209 =>
      some ((.lst 6 (List.map Scored.enc l209)), []))) = some r) :
  headT P cods H prim 8 3 [] [(2, (.ptr 2 0)), (5, (.row 10)), (11, (.pv (.lst 5 (List.map Deriv.encX v11)))), (12, (.pv (.int .i64 v12))), (13, (.pv (.int .i64 v13)))] [(2, (.box 24 (List.map .pv (Model.enc o2)))), (10, (.row 42 6 (List.map Scored.enc o10)))] = some r :=
  head_round (Eq.trans (by kernel_rfl) h)

/-- grammarlab/grammarlabref38.Order -/
theorem b9 (m0 : Model) (l1 : List Deriv) {r : Out}
  (h : (
    headT P cods H prim 9 3 [] [(1, (.pv (.lst 5 (List.map Deriv.encX l1)))), (2, (.ptr 2 0)), (5, (.pv (.lst 6 (List.map Scored.enc [])))), (6, (.pv (.int .i64 0)))] [(2, (.box 24 (List.map .pv (Model.enc m0))))]) = some r) :
  Rn 9 [(.pv (.agg (Model.enc m0))), (.pv (.lst 5 (List.map Deriv.encX l1)))] [] = some r :=
  run_body (C := cods) rfl (Eq.trans (by kernel_rfl) h)

/-- grammarlab/grammarlabref38.Order, loop 3 -/
theorem L9_3 (l1 : List Deriv) (out5 : List Scored) (i6 : Int) (o2 : Model) {r : Out}
  (h : (
    bif (decide (i6 < (List.length (List.map Deriv.encX l1) : Int))) then (
      getK (List.map Deriv.encX l1) i6 fun c202 => asE Deriv.enc c202 fun x201 =>
      getK (List.map Deriv.encX l1) i6 fun c204 => asE Deriv.enc c204 fun x203 =>
      callE (Rn 17 [(.pv (.agg (Model.enc o2))), (.pv (.agg (Deriv.enc x203)))] []) fun r206 => asE R17.enc r206 fun y205 =>
      headT P cods H prim 9 9 [] [(1, (.pv (.lst 5 (List.map Deriv.encX l1)))), (2, (.ptr 2 0)), (5, (.pv (.lst 6 (List.map Scored.enc out5)))), (6, (.pv (.int .i64 i6))), (7, (.ptr 7 0)), (8, (.row 29)), (9, (.pv (.bool false))), (10, (.pv (.int .i64 0)))] [(2, (.box 24 (List.map .pv (Model.enc o2)))), (7, (.box 42 (List.map .pv (Scored.enc (Scored.mk x201 y205))))), (29, (.row 42 6 (List.map Scored.enc [])))])
    else (
      some ((.lst 6 (List.map Scored.enc out5)), []))) = some r) :
  headT P cods H prim 9 3 [] [(1, (.pv (.lst 5 (List.map Deriv.encX l1)))), (2, (.ptr 2 0)), (5, (.pv (.lst 6 (List.map Scored.enc out5)))), (6, (.pv (.int .i64 i6)))] [(2, (.box 24 (List.map .pv (Model.enc o2))))] = some r :=
  head_round (Eq.trans (by kernel_rfl) h)

/-- grammarlab/grammarlabref38.Order, loop 9 -/
theorem L9_9 (l1 : List Deriv) (out5 : List Scored) (i6 : Int) (done9 : Bool) (k10 : Int) (o2 : Model) (o7 : Scored) (o29 : List Scored) {r : Out}
  (h : (
    bif (decide (k10 < (List.length (List.map Scored.enc out5) : Int))) then (
      bif (!done9) then (
        getK (List.map Scored.enc out5) k10 fun c202 => asE Scored.enc c202 fun x201 =>
        callE (Rn 18 [(.pv (.agg (Scored.enc o7))), (.pv (.agg (Scored.enc x201)))] []) fun r204 => asE R18.enc r204 fun y203 =>
        bif y203 then (
          check ((List.length (List.map Scored.enc o29) + List.length (List.map Scored.enc [o7])) * 72 ≤ 140737488355328 ∧ List.length (List.map Scored.enc o29) + List.length (List.map Scored.enc [o7]) ≤ 4611686018427387904) (
          getK (List.map Scored.enc out5) k10 fun c206 => asE Scored.enc c206 fun x205 =>
          check ((List.length ((List.map Scored.enc o29) ++ (List.map Scored.enc [o7])) + List.length (List.map Scored.enc [x205])) * 72 ≤ 140737488355328 ∧ List.length ((List.map Scored.enc o29) ++ (List.map Scored.enc [o7])) + List.length (List.map Scored.enc [x205]) ≤ 4611686018427387904) (
          headT P cods H prim 9 9 [] [(1, (.pv (.lst 5 (List.map Deriv.encX l1)))), (2, (.ptr 2 0)), (5, (.pv (.lst 6 (List.map Scored.enc out5)))), (6, (.pv (.int .i64 i6))), (7, (.ptr 7 0)), (8, (.row 29)), (9, (.pv (.bool true))), (10, (.pv (.int .i64 (IntKind.wrap .i64 (k10 + 1)))))] [(2, (.box 24 (List.map .pv (Model.enc o2)))), (7, (.box 42 (List.map .pv (Scored.enc o7)))), (29, (.row 42 6 (((List.map Scored.enc o29) ++ (List.map Scored.enc [o7])) ++ (List.map Scored.enc [x205]))))])))
        else (
          getK (List.map Scored.enc out5) k10 fun c208 => asE Scored.enc c208 fun x207 =>
          check ((List.length (List.map Scored.enc o29) + List.length (List.map Scored.enc [x207])) * 72 ≤ 140737488355328 ∧ List.length (List.map Scored.enc o29) + List.length (List.map Scored.enc [x207]) ≤ 4611686018427387904) (
          headT P cods H prim 9 9 [] [(1, (.pv (.lst 5 (List.map Deriv.encX l1)))), (2, (.ptr 2 0)), (5, (.pv (.lst 6 (List.map Scored.enc out5)))), (6, (.pv (.int .i64 i6))), (7, (.ptr 7 0)), (8, (.row 29)), (9, (.pv (.bool done9))), (10, (.pv (.int .i64 (IntKind.wrap .i64 (k10 + 1)))))] [(2, (.box 24 (List.map .pv (Model.enc o2)))), (7, (.box 42 (List.map .pv (Scored.enc o7)))), (29, (.row 42 6 ((List.map Scored.enc o29) ++ (List.map Scored.enc [x207]))))])))
      else (
        getK (List.map Scored.enc out5) k10 fun c210 => asE Scored.enc c210 fun x209 =>
        check ((List.length (List.map Scored.enc o29) + List.length (List.map Scored.enc [x209])) * 72 ≤ 140737488355328 ∧ List.length (List.map Scored.enc o29) + List.length (List.map Scored.enc [x209]) ≤ 4611686018427387904) (
        headT P cods H prim 9 9 [] [(1, (.pv (.lst 5 (List.map Deriv.encX l1)))), (2, (.ptr 2 0)), (5, (.pv (.lst 6 (List.map Scored.enc out5)))), (6, (.pv (.int .i64 i6))), (7, (.ptr 7 0)), (8, (.row 29)), (9, (.pv (.bool done9))), (10, (.pv (.int .i64 (IntKind.wrap .i64 (k10 + 1)))))] [(2, (.box 24 (List.map .pv (Model.enc o2)))), (7, (.box 42 (List.map .pv (Scored.enc o7)))), (29, (.row 42 6 ((List.map Scored.enc o29) ++ (List.map Scored.enc [x209]))))])))
    else (
      bif (!done9) then (
        check ((List.length (List.map Scored.enc o29) + List.length (List.map Scored.enc [o7])) * 72 ≤ 140737488355328 ∧ List.length (List.map Scored.enc o29) + List.length (List.map Scored.enc [o7]) ≤ 4611686018427387904) (
        headT P cods H prim 9 3 [] [(1, (.pv (.lst 5 (List.map Deriv.encX l1)))), (2, (.ptr 2 0)), (5, (.pv (.lst 6 ((List.map Scored.enc o29) ++ (List.map Scored.enc [o7]))))), (6, (.pv (.int .i64 (IntKind.wrap .i64 (i6 + 1)))))] [(2, (.box 24 (List.map .pv (Model.enc o2))))]))
      else (
        headT P cods H prim 9 3 [] [(1, (.pv (.lst 5 (List.map Deriv.encX l1)))), (2, (.ptr 2 0)), (5, (.pv (.lst 6 (List.map Scored.enc o29)))), (6, (.pv (.int .i64 (IntKind.wrap .i64 (i6 + 1)))))] [(2, (.box 24 (List.map .pv (Model.enc o2))))]))) = some r) :
  headT P cods H prim 9 9 [] [(1, (.pv (.lst 5 (List.map Deriv.encX l1)))), (2, (.ptr 2 0)), (5, (.pv (.lst 6 (List.map Scored.enc out5)))), (6, (.pv (.int .i64 i6))), (7, (.ptr 7 0)), (8, (.row 29)), (9, (.pv (.bool done9))), (10, (.pv (.int .i64 k10)))] [(2, (.box 24 (List.map .pv (Model.enc o2)))), (7, (.box 42 (List.map .pv (Scored.enc o7)))), (29, (.row 42 6 (List.map Scored.enc o29)))] = some r :=
  head_round (Eq.trans (by kernel_rfl) h)

/-- grammarlab/grammarlabref37.Nodes -/
theorem b10 (d0 : Deriv) (most1 : Int) {r : Out}
  (h : (
    headT P cods H prim 10 3 [] [(1, (.pv (.int .i64 most1))), (2, (.ptr 2 0)), (5, (.pv (.int .i64 1))), (6, (.pv (.int .i64 0)))] [(2, (.box 36 (List.map .pv (Deriv.enc d0))))]) = some r) :
  Rn 10 [(.pv (.agg (Deriv.enc d0))), (.pv (.int .i64 most1))] [] = some r :=
  run_body (C := cods) rfl (Eq.trans (by kernel_rfl) h)

/-- grammarlab/grammarlabref37.Nodes, loop 3 -/
theorem L10_3 (most1 : Int) (n5 : Int) (i6 : Int) (o2 : Deriv) {r : Out}
  (h : (
    bif (decide (i6 < (List.length (List.map Deriv.encX o2.Kids) : Int))) then (
      bif (decide (n5 < most1)) then (
        getK (List.map Deriv.encX o2.Kids) i6 fun c202 => asE Deriv.enc c202 fun x201 =>
        callE (Rn 10 [(.pv (.agg (Deriv.enc x201))), (.pv (.int .i64 (IntKind.wrap .i64 (most1 - n5))))] []) fun r204 => asE R10.enc r204 fun y203 =>
        headT P cods H prim 10 3 [] [(1, (.pv (.int .i64 most1))), (2, (.ptr 2 0)), (5, (.pv (.int .i64 (IntKind.wrap .i64 (n5 + y203))))), (6, (.pv (.int .i64 (IntKind.wrap .i64 (i6 + 1)))))] [(2, (.box 36 (List.map .pv (Deriv.enc o2))))])
      else (
        some ((.int .i64 n5), [])))
    else (
      some ((.int .i64 n5), []))) = some r) :
  headT P cods H prim 10 3 [] [(1, (.pv (.int .i64 most1))), (2, (.ptr 2 0)), (5, (.pv (.int .i64 n5))), (6, (.pv (.int .i64 i6)))] [(2, (.box 36 (List.map .pv (Deriv.enc o2))))] = some r :=
  head_round (Eq.trans (by kernel_rfl) h)

/-- grammarlab/grammarlabref37.feature -/
theorem b11 (s0 : List UInt8) {r : Out}
  (h : (
    callE (Rn 19 [(.pv (.str s0))] []) fun r202 => asE R19.enc r202 fun y201 =>
    bif y201 then (
      some ((.bool true), []))
    else (
      headT P cods H prim 11 4 [] [(0, (.pv (.str s0))), (3, (.pv (.int .i64 0)))] [])) = some r) :
  Rn 11 [(.pv (.str s0))] [] = some r :=
  run_body (C := cods) rfl (Eq.trans (by kernel_rfl) h)

/-- grammarlab/grammarlabref37.feature, loop 4 -/
theorem L11_4 (s0 : List UInt8) (i3 : Int) {r : Out}
  (h : (
    bif (decide (i3 < (List.length s0 : Int))) then (
      getK s0 i3 fun b201 =>
      bif ((UInt8.toNat b201 : Int) != 62) then (
        headT P cods H prim 11 4 [] [(0, (.pv (.str s0))), (3, (.pv (.int .i64 (IntKind.wrap .i64 (i3 + 1)))))] [])
      else (
        check (0 ≤ (IntKind.wrap .i64 (i3 + 1)) ∧ (IntKind.wrap .i64 (i3 + 1)) ≤ (List.length s0 : Nat)) (
        callE (Rn 20 [(.pv (.str ((List.take (List.length s0) s0).drop (Int.toNat (IntKind.wrap .i64 (i3 + 1))))))] []) fun r203 => asE R20.enc r203 fun y202 =>
        check (0 ≤ i3 ∧ i3 ≤ (List.length s0 : Nat)) (
        callE (Rn 19 [(.pv (.str ((List.take (Int.toNat i3) s0).drop 0)))] []) fun r205 => asE R19.enc r205 fun y204 =>
        bif (!y204) then (
          some ((.bool false), []))
        else (
          bif (decide ((List.length (List.map eStr y202) : Int) > 2)) then (
            some ((.bool false), []))
          else (
            headT P cods H prim 11 11 [] [(4, (.pv (.lst 1 (List.map eStr y202)))), (5, (.pv (.int .i64 0)))] []))))))
    else (
      some ((.bool false), []))) = some r) :
  headT P cods H prim 11 4 [] [(0, (.pv (.str s0))), (3, (.pv (.int .i64 i3)))] [] = some r :=
  head_round (Eq.trans (by kernel_rfl) h)

/-- grammarlab/grammarlabref37.feature, loop 11 -/
theorem L11_11 (l4 : List (List UInt8)) (k5 : Int) {r : Out}
  (h : (
    bif (decide (k5 < (List.length (List.map eStr l4) : Int))) then (
      getK (List.map eStr l4) k5 fun c202 => asE eStr c202 fun x201 =>
      callE (Rn 19 [(.pv (.str x201))] []) fun r204 => asE R19.enc r204 fun y203 =>
      bif (!y203) then (
        some ((.bool false), []))
      else (
        headT P cods H prim 11 11 [] [(4, (.pv (.lst 1 (List.map eStr l4)))), (5, (.pv (.int .i64 (IntKind.wrap .i64 (k5 + 1)))))] []))
    else (
      some ((.bool true), []))) = some r) :
  headT P cods H prim 11 11 [] [(4, (.pv (.lst 1 (List.map eStr l4)))), (5, (.pv (.int .i64 k5)))] [] = some r :=
  head_round (Eq.trans (by kernel_rfl) h)

/-- grammarlab/grammarlablaw38.leaf -/
theorem b12 (name0 : List UInt8) {r : Out}
  (h : (
    some ((.agg (Deriv.enc (Deriv.mk 0 name0 0 1 []))), [])) = some r) :
  Rn 12 [(.pv (.str name0))] [] = some r :=
  run_body (C := cods) rfl (Eq.trans (by kernel_rfl) h)

/-- grammarlab/grammarlabref28.Compare -/
theorem b13 (a0 : Deriv) (b1 : Deriv) {r : Out}
  (h : (
    bif (a0.From != b1.From) then (
      callE (Rn 21 [(.pv (.int .i64 a0.From)), (.pv (.int .i64 b1.From))] []) fun r202 => asE R21.enc r202 fun y201 =>
      some ((.int .i64 y201), []))
    else (
      bif (a0.To != b1.To) then (
        callE (Rn 21 [(.pv (.int .i64 a0.To)), (.pv (.int .i64 b1.To))] []) fun r204 => asE R21.enc r204 fun y203 =>
        some ((.int .i64 y203), []))
      else (
        bif (a0.Kind != b1.Kind) then (
          callE (Rn 21 [(.pv (.int .i64 a0.Kind)), (.pv (.int .i64 b1.Kind))] []) fun r206 => asE R21.enc r206 fun y205 =>
          some ((.int .i64 y205), []))
        else (
          bif (!(a0.Name == b1.Name)) then (
            bif (Op.bytesLess a0.Name b1.Name) then (
              some ((.int .i64 (-1)), []))
            else (
              some ((.int .i64 1), [])))
          else (
            headT P cods H prim 13 12 [] [(2, (.ptr 2 0)), (3, (.ptr 3 0)), (5, (.pv (.int .i64 0)))] [(2, (.box 36 (List.map .pv (Deriv.enc a0)))), (3, (.box 36 (List.map .pv (Deriv.enc b1))))]))))) = some r) :
  Rn 13 [(.pv (.agg (Deriv.enc a0))), (.pv (.agg (Deriv.enc b1)))] [] = some r :=
  run_body (C := cods) rfl (Eq.trans (by kernel_rfl) h)

/-- grammarlab/grammarlabref28.Compare, loop 12 -/
theorem L13_12 (i5 : Int) (o2 : Deriv) (o3 : Deriv) {r : Out}
  (h : (
    bif (decide (i5 < (List.length (List.map Deriv.encX o2.Kids) : Int))) then (
      bif (decide (i5 < (List.length (List.map Deriv.encX o3.Kids) : Int))) then (
        getK (List.map Deriv.encX o2.Kids) i5 fun c202 => asE Deriv.enc c202 fun x201 =>
        getK (List.map Deriv.encX o3.Kids) i5 fun c204 => asE Deriv.enc c204 fun x203 =>
        callE (Rn 13 [(.pv (.agg (Deriv.enc x201))), (.pv (.agg (Deriv.enc x203)))] []) fun r206 => asE R13.enc r206 fun y205 =>
        bif (y205 != 0) then (
          some ((.int .i64 y205), []))
        else (
          headT P cods H prim 13 12 [] [(2, (.ptr 2 0)), (3, (.ptr 3 0)), (5, (.pv (.int .i64 (IntKind.wrap .i64 (i5 + 1)))))] [(2, (.box 36 (List.map .pv (Deriv.enc o2)))), (3, (.box 36 (List.map .pv (Deriv.enc o3))))]))
      else (
        callE (Rn 21 [(.pv (.int .i64 (List.length (List.map Deriv.encX o2.Kids) : Int))), (.pv (.int .i64 (List.length (List.map Deriv.encX o3.Kids) : Int)))] []) fun r208 => asE R21.enc r208 fun y207 =>
        some ((.int .i64 y207), [])))
    else (
      callE (Rn 21 [(.pv (.int .i64 (List.length (List.map Deriv.encX o2.Kids) : Int))), (.pv (.int .i64 (List.length (List.map Deriv.encX o3.Kids) : Int)))] []) fun r210 => asE R21.enc r210 fun y209 =>
      some ((.int .i64 y209), []))) = some r) :
  headT P cods H prim 13 12 [] [(2, (.ptr 2 0)), (3, (.ptr 3 0)), (5, (.pv (.int .i64 i5)))] [(2, (.box 36 (List.map .pv (Deriv.enc o2)))), (3, (.box 36 (List.map .pv (Deriv.enc o3))))] = some r :=
  head_round (Eq.trans (by kernel_rfl) h)

/-- grammarlab/model.Score -/
theorem b14 (m0 : Model) (d1 : Deriv) {r : Out}
  (h : (
    callE (Rn 22 [(.pv (.agg (Deriv.enc d1)))] []) fun r202 => asE R22.enc r202 fun y201 =>
    headT P cods H prim 14 3 [] [(2, (.ptr 2 0)), (5, (.pv (.int .i64 0))), (9, (.pv (.lst 1 (List.map eStr y201)))), (10, (.pv (.int .i64 (List.length (List.map eStr y201) : Int)))), (11, (.pv (.int .i64 0)))] [(2, (.box 24 (List.map .pv (Model.enc m0))))]) = some r) :
  Rn 14 [(.pv (.agg (Model.enc m0))), (.pv (.agg (Deriv.enc d1)))] [] = some r :=
  run_body (C := cods) rfl (Eq.trans (by kernel_rfl) h)

/-- grammarlab/model.Score, loop 3 -/
theorem L14_3 (n5 : Int) (v9 : List (List UInt8)) (v10 : Int) (v11 : Int) (o2 : Model) {r : Out}
  (h : (
    bif (decide (v11 < v10)) then (
      getK (List.map eStr v9) v11 fun c202 => asE eStr c202 fun x201 =>
      callE (Rn 23 [(.pv (.agg (Model.enc o2))), (.pv (.str x201))] []) fun r204 => asE R23.enc r204 fun y203 =>
      headT P cods H prim 14 3 [] [(2, (.ptr 2 0)), (5, (.pv (.int .i64 (IntKind.wrap .i64 (n5 + y203))))), (9, (.pv (.lst 1 (List.map eStr v9)))), (10, (.pv (.int .i64 v10))), (11, (.pv (.int .i64 (IntKind.wrap .i64 (v11 + 1)))))] [(2, (.box 24 (List.map .pv (Model.enc o2))))])
    else (
      some ((.int .i64 n5), []))) = some r) :
  headT P cods H prim 14 3 [] [(2, (.ptr 2 0)), (5, (.pv (.int .i64 n5))), (9, (.pv (.lst 1 (List.map eStr v9)))), (10, (.pv (.int .i64 v10))), (11, (.pv (.int .i64 v11)))] [(2, (.box 24 (List.map .pv (Model.enc o2))))] = some r :=
  head_round (Eq.trans (by kernel_rfl) h)

/-- slices.SortStableFunc[[]grammarlab/api.Scored,grammarlab/api.Scored] -/
theorem b15 (w10000 : List Scored) {r : Out}
  (h : (
    callR (Rn 24 [(.row 10000), (.pv (.int .i64 (List.length (List.map Scored.enc w10000) : Int))), (.pv (.fn 16 []))] [(10000, (.row 42 6 (List.map Scored.enc w10000)))]) 10000 42 6 fun r202 c204 => asE R24.enc r202 fun y201 => asE (List.map Scored.enc) c204 fun l203 =>
    some ((.tup []), [(10000, (.row 42 6 (List.map Scored.enc l203)))])) = some r) :
  Rn 15 [(.row 10000), (.pv (.fn 16 []))] [(10000, (.row 42 6 (List.map Scored.enc w10000)))] = some r :=
  run_body (C := cods) rfl (Eq.trans (by kernel_rfl) h)

/-- grammarlab/rank.ranked -/
theorem b16 (a0 : Scored) (b1 : Scored) {r : Out}
  (h : (
    callE (Rn 26 [(.pv (.int .i64 b1.Score)), (.pv (.int .i64 a0.Score))] []) fun r202 => asE R26.enc r202 fun y201 =>
    callE (Rn 27 [(.pv (.agg (Deriv.enc a0.Deriv))), (.pv (.agg (Deriv.enc b1.Deriv)))] []) fun r204 => asE R27.enc r204 fun y203 =>
    callE (Rn 25 [(.pv (.lst 1 (List.map (eInt .i64) [y201, y203])))] []) fun r206 => asE R25.enc r206 fun y205 =>
    some ((.int .i64 y205), [])) = some r) :
  Rn 16 [(.pv (.agg (Scored.enc a0))), (.pv (.agg (Scored.enc b1)))] [] = some r :=
  run_body (C := cods) rfl (Eq.trans (by kernel_rfl) h)

/-- grammarlab/grammarlabref37.Score -/
theorem b17 (m0 : Model) (d1 : Deriv) {r : Out}
  (h : (
    callE (Rn 28 [(.pv (.agg (Deriv.enc d1)))] []) fun r202 => asE R28.enc r202 fun y201 =>
    headT P cods H prim 17 4 [] [(2, (.ptr 2 0)), (5, (.pv (.lst 1 (List.map eStr y201)))), (6, (.pv (.int .i64 0))), (7, (.pv (.int .i64 0)))] [(2, (.box 24 (List.map .pv (Model.enc m0))))]) = some r) :
  Rn 17 [(.pv (.agg (Model.enc m0))), (.pv (.agg (Deriv.enc d1)))] [] = some r :=
  run_body (C := cods) rfl (Eq.trans (by kernel_rfl) h)

/-- grammarlab/grammarlabref37.Score, loop 4 -/
theorem L17_4 (l5 : List (List UInt8)) (n6 : Int) (i7 : Int) (o2 : Model) {r : Out}
  (h : (
    bif (decide (i7 < (List.length (List.map eStr l5) : Int))) then (
      getK (List.map eStr l5) i7 fun c202 => asE eStr c202 fun x201 =>
      callE (Rn 29 [(.pv (.agg (Model.enc o2))), (.pv (.str x201))] []) fun r204 => asE R29.enc r204 fun y203 =>
      headT P cods H prim 17 4 [] [(2, (.ptr 2 0)), (5, (.pv (.lst 1 (List.map eStr l5)))), (6, (.pv (.int .i64 (IntKind.wrap .i64 (n6 + y203))))), (7, (.pv (.int .i64 (IntKind.wrap .i64 (i7 + 1)))))] [(2, (.box 24 (List.map .pv (Model.enc o2))))])
    else (
      some ((.int .i64 n6), []))) = some r) :
  headT P cods H prim 17 4 [] [(2, (.ptr 2 0)), (5, (.pv (.lst 1 (List.map eStr l5)))), (6, (.pv (.int .i64 n6))), (7, (.pv (.int .i64 i7)))] [(2, (.box 24 (List.map .pv (Model.enc o2))))] = some r :=
  head_round (Eq.trans (by kernel_rfl) h)

/-- grammarlab/grammarlabref38.before -/
theorem b18 (a0 : Scored) (b1 : Scored) {r : Out}
  (h : (
    bif (decide (a0.Score > b1.Score)) then (
      some ((.bool true), []))
    else (
      bif (a0.Score == b1.Score) then (
        callE (Rn 13 [(.pv (.agg (Deriv.enc a0.Deriv))), (.pv (.agg (Deriv.enc b1.Deriv)))] []) fun r202 => asE R13.enc r202 fun y201 =>
        some ((.bool (decide (y201 < 0))), []))
      else (
        some ((.bool false), [])))) = some r) :
  Rn 18 [(.pv (.agg (Scored.enc a0))), (.pv (.agg (Scored.enc b1)))] [] = some r :=
  run_body (C := cods) rfl (Eq.trans (by kernel_rfl) h)

/-- grammarlab/grammarlabref01.Name -/
theorem b19 (s0 : List UInt8) {r : Out}
  (h : (
    callE (Rn 30 [(.pv (.str s0)), (.pv (.bool false))] []) fun r202 => asE R30.enc r202 fun y201 =>
    some ((.bool y201), [])) = some r) :
  Rn 19 [(.pv (.str s0))] [] = some r :=
  run_body (C := cods) rfl (Eq.trans (by kernel_rfl) h)

/-- grammarlab/grammarlabref37.Split -/
theorem b20 (s0 : List UInt8) {r : Out}
  (h : (
    headT P cods H prim 20 4 [] [(0, (.pv (.str s0))), (3, (.row 6)), (4, (.pv (.int .i64 0))), (5, (.pv (.int .i64 0)))] [(6, (.row 9 1 (List.map eStr [])))]) = some r) :
  Rn 20 [(.pv (.str s0))] [] = some r :=
  run_body (C := cods) rfl (Eq.trans (by kernel_rfl) h)

/-- grammarlab/grammarlabref37.Split, loop 4 -/
theorem L20_4 (s0 : List UInt8) (v4 : Int) (i5 : Int) (o6 : List (List UInt8)) {r : Out}
  (h : (
    bif (decide (i5 < (List.length s0 : Int))) then (
      getK s0 i5 fun b201 =>
      bif ((UInt8.toNat b201 : Int) == 32) then (
        check (0 ≤ i5 ∧ i5 ≤ (List.length s0 : Nat)) (
        check (0 ≤ v4 ∧ v4 ≤ ((Int.toNat i5) : Nat)) (
        check ((List.length (List.map eStr o6) + List.length (List.map eStr [((List.take (Int.toNat i5) s0).drop (Int.toNat v4))])) * 16 ≤ 140737488355328 ∧ List.length (List.map eStr o6) + List.length (List.map eStr [((List.take (Int.toNat i5) s0).drop (Int.toNat v4))]) ≤ 4611686018427387904) (
        headT P cods H prim 20 4 [] [(0, (.pv (.str s0))), (3, (.row 6)), (4, (.pv (.int .i64 (IntKind.wrap .i64 (i5 + 1))))), (5, (.pv (.int .i64 (IntKind.wrap .i64 (i5 + 1)))))] [(6, (.row 9 1 ((List.map eStr o6) ++ (List.map eStr [((List.take (Int.toNat i5) s0).drop (Int.toNat v4))]))))]))))
      else (
        headT P cods H prim 20 4 [] [(0, (.pv (.str s0))), (3, (.row 6)), (4, (.pv (.int .i64 v4))), (5, (.pv (.int .i64 (IntKind.wrap .i64 (i5 + 1)))))] [(6, (.row 9 1 (List.map eStr o6)))]))
    else (
      check (0 ≤ v4 ∧ v4 ≤ (List.length s0 : Nat)) (
      check ((List.length (List.map eStr o6) + List.length (List.map eStr [((List.take (List.length s0) s0).drop (Int.toNat v4))])) * 16 ≤ 140737488355328 ∧ List.length (List.map eStr o6) + List.length (List.map eStr [((List.take (List.length s0) s0).drop (Int.toNat v4))]) ≤ 4611686018427387904) (
      some ((.lst 1 ((List.map eStr o6) ++ (List.map eStr [((List.take (List.length s0) s0).drop (Int.toNat v4))]))), []))))) = some r) :
  headT P cods H prim 20 4 [] [(0, (.pv (.str s0))), (3, (.row 6)), (4, (.pv (.int .i64 v4))), (5, (.pv (.int .i64 i5)))] [(6, (.row 9 1 (List.map eStr o6)))] = some r :=
  head_round (Eq.trans (by kernel_rfl) h)

/-- grammarlab/grammarlabref28.ints -/
theorem b21 (a0 : Int) (b1 : Int) {r : Out}
  (h : (
    bif (decide (a0 < b1)) then (
      some ((.int .i64 (-1)), []))
    else (
      bif (decide (a0 > b1)) then (
        some ((.int .i64 1), []))
      else (
        some ((.int .i64 0), [])))) = some r) :
  Rn 21 [(.pv (.int .i64 a0)), (.pv (.int .i64 b1))] [] = some r :=
  run_body (C := cods) rfl (Eq.trans (by kernel_rfl) h)

/-- grammarlab/model.Features -/
theorem b22 (d0 : Deriv) {r : Out}
  (h : (
    bif (decide ((List.length (List.map Deriv.encX d0.Kids) : Int) > 0)) then (
      headT P cods H prim 22 5 [] [(1, (.ptr 1 0)), (3, (.row 11)), (4, (.row 4)), (17, (.pv (.lst 5 (List.map Deriv.encX d0.Kids)))), (18, (.pv (.int .i64 (List.length (List.map Deriv.encX d0.Kids) : Int)))), (19, (.pv (.int .i64 0)))] [(1, (.box 36 (List.map .pv (Deriv.enc d0)))), (4, (.row 9 1 (List.map eStr []))), (11, (.row 9 1 (List.map eStr [d0.Name])))])
    else (
      headT P cods H prim 22 11 [] [(3, (.row 11)), (39, (.pv (.lst 5 (List.map Deriv.encX d0.Kids)))), (40, (.pv (.int .i64 (List.length (List.map Deriv.encX d0.Kids) : Int)))), (41, (.pv (.int .i64 0)))] [(11, (.row 9 1 (List.map eStr [d0.Name])))])) = some r) :
  Rn 22 [(.pv (.agg (Deriv.enc d0)))] [] = some r :=
  run_body (C := cods) rfl (Eq.trans (by kernel_rfl) h)

/-- grammarlab/model.Features, loop 5 -/
theorem L22_5 (v17 : List Deriv) (v18 : Int) (v19 : Int) (o1 : Deriv) (o4 : List (List UInt8)) (o11 : List (List UInt8)) {r : Out}
  (h : (
    bif (decide (v19 < v18)) then (
      getK (List.map Deriv.encX v17) v19 fun c202 => asE Deriv.enc c202 fun x201 =>
      check ((List.length (List.map eStr o4) + List.length (List.map eStr [x201.Name])) * 16 ≤ 140737488355328 ∧ List.length (List.map eStr o4) + List.length (List.map eStr [x201.Name]) ≤ 4611686018427387904) (
      headT P cods H prim 22 5 [] [(1, (.ptr 1 0)), (3, (.row 11)), (4, (.row 4)), (17, (.pv (.lst 5 (List.map Deriv.encX v17)))), (18, (.pv (.int .i64 v18))), (19, (.pv (.int .i64 (IntKind.wrap .i64 (v19 + 1)))))] [(1, (.box 36 (List.map .pv (Deriv.enc o1)))), (4, (.row 9 1 ((List.map eStr o4) ++ (List.map eStr [x201.Name])))), (11, (.row 9 1 (List.map eStr o11)))]))
    else (
      check (List.length o1.Name + List.length ([62] : List UInt8) ≤ 9223372036854775807) (
      callE (Rn 31 [(.pv (.lst 1 (List.map eStr o4))), (.pv (.str [32]))] []) fun r204 => asE R31.enc r204 fun y203 =>
      check (List.length (o1.Name ++ [62]) + List.length y203 ≤ 9223372036854775807) (
      check ((List.length (List.map eStr o11) + List.length (List.map eStr [((o1.Name ++ [62]) ++ y203)])) * 16 ≤ 140737488355328 ∧ List.length (List.map eStr o11) + List.length (List.map eStr [((o1.Name ++ [62]) ++ y203)]) ≤ 4611686018427387904) (
      headT P cods H prim 22 11 [] [(3, (.row 11)), (39, (.pv (.lst 5 (List.map Deriv.encX o1.Kids)))), (40, (.pv (.int .i64 (List.length (List.map Deriv.encX o1.Kids) : Int)))), (41, (.pv (.int .i64 0)))] [(11, (.row 9 1 ((List.map eStr o11) ++ (List.map eStr [((o1.Name ++ [62]) ++ y203)]))))]))))) = some r) :
  headT P cods H prim 22 5 [] [(1, (.ptr 1 0)), (3, (.row 11)), (4, (.row 4)), (17, (.pv (.lst 5 (List.map Deriv.encX v17)))), (18, (.pv (.int .i64 v18))), (19, (.pv (.int .i64 v19)))] [(1, (.box 36 (List.map .pv (Deriv.enc o1)))), (4, (.row 9 1 (List.map eStr o4))), (11, (.row 9 1 (List.map eStr o11)))] = some r :=
  head_round (Eq.trans (by kernel_rfl) h)

/-- grammarlab/model.Features, loop 11 -/
theorem L22_11 (v39 : List Deriv) (v40 : Int) (v41 : Int) (o11 : List (List UInt8)) {r : Out}
  (h : (
    bif (decide (v41 < v40)) then (
      getK (List.map Deriv.encX v39) v41 fun c202 => asE Deriv.enc c202 fun x201 =>
      callE (Rn 22 [(.pv (.agg (Deriv.enc x201)))] []) fun r204 => asE R22.enc r204 fun y203 =>
      check ((List.length (List.map eStr o11) + List.length (List.map eStr y203)) * 16 ≤ 140737488355328 ∧ List.length (List.map eStr o11) + List.length (List.map eStr y203) ≤ 4611686018427387904) (
      headT P cods H prim 22 11 [] [(3, (.row 11)), (39, (.pv (.lst 5 (List.map Deriv.encX v39)))), (40, (.pv (.int .i64 v40))), (41, (.pv (.int .i64 (IntKind.wrap .i64 (v41 + 1)))))] [(11, (.row 9 1 ((List.map eStr o11) ++ (List.map eStr y203))))]))
    else (
      some ((.lst 1 (List.map eStr o11)), []))) = some r) :
  headT P cods H prim 22 11 [] [(3, (.row 11)), (39, (.pv (.lst 5 (List.map Deriv.encX v39)))), (40, (.pv (.int .i64 v40))), (41, (.pv (.int .i64 v41)))] [(11, (.row 9 1 (List.map eStr o11)))] = some r :=
  head_round (Eq.trans (by kernel_rfl) h)

/-- grammarlab/model.weight -/
theorem b23 (m0 : Model) (s1 : List UInt8) {r : Out}
  (h : (
    callE (Rn 32 [(.pv (.lst 2 (List.map Weight.enc m0.Weights))), (.pv (.str s1)), (.pv (.fn 33 []))] []) fun r202 => asE R32.enc r202 fun y201 =>
    bif (!y201.2) then (
      some ((.int .i64 0), []))
    else (
      getK (List.map Weight.enc m0.Weights) y201.1 fun c204 => asE Weight.enc c204 fun x203 =>
      some ((.int .i64 x203.Value), []))) = some r) :
  Rn 23 [(.pv (.agg (Model.enc m0))), (.pv (.str s1))] [] = some r :=
  run_body (C := cods) rfl (Eq.trans (by kernel_rfl) h)

/-- slices.stableCmpFunc[grammarlab/api.Scored] -/
theorem b24 (n1 : Int) (w10000 : List Scored) {r : Out}
  (h : (
    headT P cods H prim 24 2 [10000] [(0, (.row 10000)), (1, (.pv (.int .i64 n1))), (2, (.pv (.fn 16 []))), (6, (.pv (.int .i64 20))), (7, (.pv (.int .i64 0))), (8, (.pv (.int .i64 20)))] [(10000, (.row 42 6 (List.map Scored.enc w10000)))]) = some r) :
  Rn 24 [(.row 10000), (.pv (.int .i64 n1)), (.pv (.fn 16 []))] [(10000, (.row 42 6 (List.map Scored.enc w10000)))] = some r :=
  run_body (C := cods) rfl (Eq.trans (by kernel_rfl) h)

/-- slices.stableCmpFunc[grammarlab/api.Scored], loop 2 -/
theorem L24_2 (n1 : Int) (blockSize6 : Int) (a7 : Int) (b8 : Int) (o10000 : List Scored) {r : Out}
  (h : (
    bif (decide (b8 ≤ n1)) then (
      callR (Rn 35 [(.row 10000), (.pv (.int .i64 a7)), (.pv (.int .i64 b8)), (.pv (.fn 16 []))] [(10000, (.row 42 6 (List.map Scored.enc o10000)))]) 10000 42 6 fun r202 c204 => asE R35.enc r202 fun y201 => asE (List.map Scored.enc) c204 fun l203 =>
      headT P cods H prim 24 2 [10000] [(0, (.row 10000)), (1, (.pv (.int .i64 n1))), (2, (.pv (.fn 16 []))), (6, (.pv (.int .i64 blockSize6))), (7, (.pv (.int .i64 b8))), (8, (.pv (.int .i64 (IntKind.wrap .i64 (b8 + blockSize6)))))] [(10000, (.row 42 6 (List.map Scored.enc l203)))])
    else (
      callR (Rn 35 [(.row 10000), (.pv (.int .i64 a7)), (.pv (.int .i64 n1)), (.pv (.fn 16 []))] [(10000, (.row 42 6 (List.map Scored.enc o10000)))]) 10000 42 6 fun r206 c208 => asE R35.enc r206 fun y205 => asE (List.map Scored.enc) c208 fun l207 =>
      headT P cods H prim 24 7 [10000] [(0, (.row 10000)), (1, (.pv (.int .i64 n1))), (2, (.pv (.fn 16 []))), (6, (.pv (.int .i64 blockSize6)))] [(10000, (.row 42 6 (List.map Scored.enc l207)))])) = some r) :
  headT P cods H prim 24 2 [10000] [(0, (.row 10000)), (1, (.pv (.int .i64 n1))), (2, (.pv (.fn 16 []))), (6, (.pv (.int .i64 blockSize6))), (7, (.pv (.int .i64 a7))), (8, (.pv (.int .i64 b8)))] [(10000, (.row 42 6 (List.map Scored.enc o10000)))] = some r :=
  head_round (Eq.trans (by kernel_rfl) h)

/-- slices.stableCmpFunc[grammarlab/api.Scored], loop 7 -/
theorem L24_7 (n1 : Int) (blockSize6 : Int) (o10000 : List Scored) {r : Out}
  (h : (
    bif (decide (blockSize6 < n1)) then (
      headT P cods H prim 24 9 [10000] [(0, (.row 10000)), (1, (.pv (.int .i64 n1))), (2, (.pv (.fn 16 []))), (6, (.pv (.int .i64 blockSize6))), (7, (.pv (.int .i64 0))), (8, (.pv (.int .i64 (IntKind.wrap .i64 (2 * blockSize6)))))] [(10000, (.row 42 6 (List.map Scored.enc o10000)))])
    else (
      some ((.tup []), [(10000, (.row 42 6 (List.map Scored.enc o10000)))]))) = some r) :
  headT P cods H prim 24 7 [10000] [(0, (.row 10000)), (1, (.pv (.int .i64 n1))), (2, (.pv (.fn 16 []))), (6, (.pv (.int .i64 blockSize6)))] [(10000, (.row 42 6 (List.map Scored.enc o10000)))] = some r :=
  head_round (Eq.trans (by kernel_rfl) h)

/-- slices.stableCmpFunc[grammarlab/api.Scored], loop 9 -/
theorem L24_9 (n1 : Int) (blockSize6 : Int) (a7 : Int) (b8 : Int) (o10000 : List Scored) {r : Out}
  (h : (
    bif (decide (b8 ≤ n1)) then (
      callR (Rn 36 [(.row 10000), (.pv (.int .i64 a7)), (.pv (.int .i64 (IntKind.wrap .i64 (a7 + blockSize6)))), (.pv (.int .i64 b8)), (.pv (.fn 16 []))] [(10000, (.row 42 6 (List.map Scored.enc o10000)))]) 10000 42 6 fun r202 c204 => asE R36.enc r202 fun y201 => asE (List.map Scored.enc) c204 fun l203 =>
      headT P cods H prim 24 9 [10000] [(0, (.row 10000)), (1, (.pv (.int .i64 n1))), (2, (.pv (.fn 16 []))), (6, (.pv (.int .i64 blockSize6))), (7, (.pv (.int .i64 b8))), (8, (.pv (.int .i64 (IntKind.wrap .i64 (b8 + (IntKind.wrap .i64 (2 * blockSize6)))))))] [(10000, (.row 42 6 (List.map Scored.enc l203)))])
    else (
      bif (decide ((IntKind.wrap .i64 (a7 + blockSize6)) < n1)) then (
        callR (Rn 36 [(.row 10000), (.pv (.int .i64 a7)), (.pv (.int .i64 (IntKind.wrap .i64 (a7 + blockSize6)))), (.pv (.int .i64 n1)), (.pv (.fn 16 []))] [(10000, (.row 42 6 (List.map Scored.enc o10000)))]) 10000 42 6 fun r206 c208 => asE R36.enc r206 fun y205 => asE (List.map Scored.enc) c208 fun l207 =>
        headT P cods H prim 24 7 [10000] [(0, (.row 10000)), (1, (.pv (.int .i64 n1))), (2, (.pv (.fn 16 []))), (6, (.pv (.int .i64 (IntKind.wrap .i64 (blockSize6 * 2)))))] [(10000, (.row 42 6 (List.map Scored.enc l207)))])
      else (
        headT P cods H prim 24 7 [10000] [(0, (.row 10000)), (1, (.pv (.int .i64 n1))), (2, (.pv (.fn 16 []))), (6, (.pv (.int .i64 (IntKind.wrap .i64 (blockSize6 * 2)))))] [(10000, (.row 42 6 (List.map Scored.enc o10000)))]))) = some r) :
  headT P cods H prim 24 9 [10000] [(0, (.row 10000)), (1, (.pv (.int .i64 n1))), (2, (.pv (.fn 16 []))), (6, (.pv (.int .i64 blockSize6))), (7, (.pv (.int .i64 a7))), (8, (.pv (.int .i64 b8)))] [(10000, (.row 42 6 (List.map Scored.enc o10000)))] = some r :=
  head_round (Eq.trans (by kernel_rfl) h)

/-- cmp.Or[int] -/
theorem b25 (vals0 : List Int) {r : Out}
  (h : (
    headT P cods H prim 25 3 [] [(3, (.pv (.int .i64 0))), (6, (.pv (.lst 1 (List.map (eInt .i64) vals0)))), (7, (.pv (.int .i64 (List.length (List.map (eInt .i64) vals0) : Int)))), (8, (.pv (.int .i64 0)))] []) = some r) :
  Rn 25 [(.pv (.lst 1 (List.map (eInt .i64) vals0)))] [] = some r :=
  run_body (C := cods) rfl (Eq.trans (by kernel_rfl) h)

/-- cmp.Or[int], loop 3 -/
theorem L25_3 (zero3 : Int) (v6 : List Int) (v7 : Int) (v8 : Int) {r : Out}
  (h : (
    bif (decide (v8 < v7)) then (
      getK (List.map (eInt .i64) v6) v8 fun c202 => asE (eInt .i64) c202 fun x201 =>
      bif (x201 != zero3) then (
        some ((.int .i64 x201), []))
      else (
        headT P cods H prim 25 3 [] [(3, (.pv (.int .i64 zero3))), (6, (.pv (.lst 1 (List.map (eInt .i64) v6)))), (7, (.pv (.int .i64 v7))), (8, (.pv (.int .i64 (IntKind.wrap .i64 (v8 + 1)))))] []))
    else (
      some ((.int .i64 zero3), []))) = some r) :
  headT P cods H prim 25 3 [] [(3, (.pv (.int .i64 zero3))), (6, (.pv (.lst 1 (List.map (eInt .i64) v6)))), (7, (.pv (.int .i64 v7))), (8, (.pv (.int .i64 v8)))] [] = some r :=
  head_round (Eq.trans (by kernel_rfl) h)

/-- cmp.Compare[int] -/
theorem b26 (x0 : Int) (y1 : Int) {r : Out}
  (h : (
    callE (Rn 37 [(.pv (.int .i64 x0))] []) fun r202 => asE R37.enc r202 fun y201 =>
    callE (Rn 37 [(.pv (.int .i64 y1))] []) fun r204 => asE R37.enc r204 fun y203 =>
    bif y201 then (
      bif y203 then (
        some ((.int .i64 0), []))
      else (
        some ((.int .i64 (-1)), [])))
    else (
      bif y203 then (
        some ((.int .i64 1), []))
      else (
        bif (decide (x0 < y1)) then (
          some ((.int .i64 (-1)), []))
        else (
          bif (decide (x0 > y1)) then (
            some ((.int .i64 1), []))
          else (
            some ((.int .i64 0), [])))))) = some r) :
  Rn 26 [(.pv (.int .i64 x0)), (.pv (.int .i64 y1))] [] = some r :=
  run_body (C := cods) rfl (Eq.trans (by kernel_rfl) h)

/-- grammarlab/deriv.Compare -/
theorem b27 (a0 : Deriv) (b1 : Deriv) {r : Out}
  (h : (
    callE (Rn 26 [(.pv (.int .i64 a0.From)), (.pv (.int .i64 b1.From))] []) fun r202 => asE R26.enc r202 fun y201 =>
    callE (Rn 26 [(.pv (.int .i64 a0.To)), (.pv (.int .i64 b1.To))] []) fun r204 => asE R26.enc r204 fun y203 =>
    callE (Rn 26 [(.pv (.int .i64 a0.Kind)), (.pv (.int .i64 b1.Kind))] []) fun r206 => asE R26.enc r206 fun y205 =>
    callE (Rn 34 [(.pv (.str a0.Name)), (.pv (.str b1.Name))] []) fun r208 => asE R34.enc r208 fun y207 =>
    callE (Rn 25 [(.pv (.lst 1 (List.map (eInt .i64) [y201, y203, y205, y207])))] []) fun r210 => asE R25.enc r210 fun y209 =>
    bif (y209 != 0) then (
      some ((.int .i64 y209), []))
    else (
      callE (Rn 38 [(.pv (.lst 5 (List.map Deriv.encX a0.Kids))), (.pv (.lst 5 (List.map Deriv.encX b1.Kids))), (.pv (.fn 27 []))] []) fun r212 => asE R38.enc r212 fun y211 =>
      some ((.int .i64 y211), []))) = some r) :
  Rn 27 [(.pv (.agg (Deriv.enc a0))), (.pv (.agg (Deriv.enc b1)))] [] = some r :=
  run_body (C := cods) rfl (Eq.trans (by kernel_rfl) h)

/-- grammarlab/grammarlabref37.Features -/
theorem b28 (d0 : Deriv) {r : Out}
  (h : (
    bif (decide ((List.length (List.map Deriv.encX d0.Kids) : Int) > 0)) then (
      check (List.length d0.Name + List.length ([62] : List UInt8) ≤ 9223372036854775807) (
      headT P cods H prim 28 5 [] [(1, (.ptr 1 0)), (3, (.row 11)), (4, (.pv (.str (d0.Name ++ [62])))), (5, (.pv (.int .i64 0)))] [(1, (.box 36 (List.map .pv (Deriv.enc d0)))), (11, (.row 9 1 (List.map eStr [d0.Name])))]))
    else (
      headT P cods H prim 28 12 [] [(1, (.ptr 1 0)), (3, (.row 11)), (6, (.pv (.int .i64 0)))] [(1, (.box 36 (List.map .pv (Deriv.enc d0)))), (11, (.row 9 1 (List.map eStr [d0.Name])))])) = some r) :
  Rn 28 [(.pv (.agg (Deriv.enc d0)))] [] = some r :=
  run_body (C := cods) rfl (Eq.trans (by kernel_rfl) h)

/-- grammarlab/grammarlabref37.Features, loop 5 -/
theorem L28_5 (s4 : List UInt8) (i5 : Int) (o1 : Deriv) (o11 : List (List UInt8)) {r : Out}
  (h : (
    bif (decide (i5 < (List.length (List.map Deriv.encX o1.Kids) : Int))) then (
      bif (decide (i5 > 0)) then (
        check (List.length s4 + List.length ([32] : List UInt8) ≤ 9223372036854775807) (
        getK (List.map Deriv.encX o1.Kids) i5 fun c202 => asE Deriv.enc c202 fun x201 =>
        check (List.length (s4 ++ [32]) + List.length x201.Name ≤ 9223372036854775807) (
        headT P cods H prim 28 5 [] [(1, (.ptr 1 0)), (3, (.row 11)), (4, (.pv (.str ((s4 ++ [32]) ++ x201.Name)))), (5, (.pv (.int .i64 (IntKind.wrap .i64 (i5 + 1)))))] [(1, (.box 36 (List.map .pv (Deriv.enc o1)))), (11, (.row 9 1 (List.map eStr o11)))])))
      else (
        getK (List.map Deriv.encX o1.Kids) i5 fun c204 => asE Deriv.enc c204 fun x203 =>
        check (List.length s4 + List.length x203.Name ≤ 9223372036854775807) (
        headT P cods H prim 28 5 [] [(1, (.ptr 1 0)), (3, (.row 11)), (4, (.pv (.str (s4 ++ x203.Name)))), (5, (.pv (.int .i64 (IntKind.wrap .i64 (i5 + 1)))))] [(1, (.box 36 (List.map .pv (Deriv.enc o1)))), (11, (.row 9 1 (List.map eStr o11)))])))
    else (
      check ((List.length (List.map eStr o11) + List.length (List.map eStr [s4])) * 16 ≤ 140737488355328 ∧ List.length (List.map eStr o11) + List.length (List.map eStr [s4]) ≤ 4611686018427387904) (
      headT P cods H prim 28 12 [] [(1, (.ptr 1 0)), (3, (.row 11)), (6, (.pv (.int .i64 0)))] [(1, (.box 36 (List.map .pv (Deriv.enc o1)))), (11, (.row 9 1 ((List.map eStr o11) ++ (List.map eStr [s4]))))]))) = some r) :
  headT P cods H prim 28 5 [] [(1, (.ptr 1 0)), (3, (.row 11)), (4, (.pv (.str s4))), (5, (.pv (.int .i64 i5)))] [(1, (.box 36 (List.map .pv (Deriv.enc o1)))), (11, (.row 9 1 (List.map eStr o11)))] = some r :=
  head_round (Eq.trans (by kernel_rfl) h)

/-- grammarlab/grammarlabref37.Features, loop 12 -/
theorem L28_12 (i6 : Int) (o1 : Deriv) (o11 : List (List UInt8)) {r : Out}
  (h : (
    bif (decide (i6 < (List.length (List.map Deriv.encX o1.Kids) : Int))) then (
      getK (List.map Deriv.encX o1.Kids) i6 fun c202 => asE Deriv.enc c202 fun x201 =>
      callE (Rn 28 [(.pv (.agg (Deriv.enc x201)))] []) fun r204 => asE R28.enc r204 fun y203 =>
      headT P cods H prim 28 16 [] [(1, (.ptr 1 0)), (3, (.row 11)), (6, (.pv (.int .i64 i6))), (7, (.pv (.lst 1 (List.map eStr y203)))), (8, (.pv (.int .i64 0)))] [(1, (.box 36 (List.map .pv (Deriv.enc o1)))), (11, (.row 9 1 (List.map eStr o11)))])
    else (
      some ((.lst 1 (List.map eStr o11)), []))) = some r) :
  headT P cods H prim 28 12 [] [(1, (.ptr 1 0)), (3, (.row 11)), (6, (.pv (.int .i64 i6)))] [(1, (.box 36 (List.map .pv (Deriv.enc o1)))), (11, (.row 9 1 (List.map eStr o11)))] = some r :=
  head_round (Eq.trans (by kernel_rfl) h)

/-- grammarlab/grammarlabref37.Features, loop 16 -/
theorem L28_16 (i6 : Int) (l7 : List (List UInt8)) (k8 : Int) (o1 : Deriv) (o11 : List (List UInt8)) {r : Out}
  (h : (
    bif (decide (k8 < (List.length (List.map eStr l7) : Int))) then (
      getK (List.map eStr l7) k8 fun c202 => asE eStr c202 fun x201 =>
      check ((List.length (List.map eStr o11) + List.length (List.map eStr [x201])) * 16 ≤ 140737488355328 ∧ List.length (List.map eStr o11) + List.length (List.map eStr [x201]) ≤ 4611686018427387904) (
      headT P cods H prim 28 16 [] [(1, (.ptr 1 0)), (3, (.row 11)), (6, (.pv (.int .i64 i6))), (7, (.pv (.lst 1 (List.map eStr l7)))), (8, (.pv (.int .i64 (IntKind.wrap .i64 (k8 + 1)))))] [(1, (.box 36 (List.map .pv (Deriv.enc o1)))), (11, (.row 9 1 ((List.map eStr o11) ++ (List.map eStr [x201]))))]))
    else (
      headT P cods H prim 28 12 [] [(1, (.ptr 1 0)), (3, (.row 11)), (6, (.pv (.int .i64 (IntKind.wrap .i64 (i6 + 1)))))] [(1, (.box 36 (List.map .pv (Deriv.enc o1)))), (11, (.row 9 1 (List.map eStr o11)))])) = some r) :
  headT P cods H prim 28 16 [] [(1, (.ptr 1 0)), (3, (.row 11)), (6, (.pv (.int .i64 i6))), (7, (.pv (.lst 1 (List.map eStr l7)))), (8, (.pv (.int .i64 k8)))] [(1, (.box 36 (List.map .pv (Deriv.enc o1)))), (11, (.row 9 1 (List.map eStr o11)))] = some r :=
  head_round (Eq.trans (by kernel_rfl) h)

/-- grammarlab/grammarlabref37.weight -/
theorem b29 (m0 : Model) (s1 : List UInt8) {r : Out}
  (h : (
    headT P cods H prim 29 2 [] [(1, (.pv (.str s1))), (2, (.ptr 2 0)), (5, (.pv (.int .i64 0)))] [(2, (.box 24 (List.map .pv (Model.enc m0))))]) = some r) :
  Rn 29 [(.pv (.agg (Model.enc m0))), (.pv (.str s1))] [] = some r :=
  run_body (C := cods) rfl (Eq.trans (by kernel_rfl) h)

/-- grammarlab/grammarlabref37.weight, loop 2 -/
theorem L29_2 (s1 : List UInt8) (i5 : Int) (o2 : Model) {r : Out}
  (h : (
    bif (decide (i5 < (List.length (List.map Weight.enc o2.Weights) : Int))) then (
      getK (List.map Weight.enc o2.Weights) i5 fun c202 => asE Weight.enc c202 fun x201 =>
      bif (x201.Feature == s1) then (
        getK (List.map Weight.enc o2.Weights) i5 fun c204 => asE Weight.enc c204 fun x203 =>
        some ((.int .i64 x203.Value), []))
      else (
        headT P cods H prim 29 2 [] [(1, (.pv (.str s1))), (2, (.ptr 2 0)), (5, (.pv (.int .i64 (IntKind.wrap .i64 (i5 + 1)))))] [(2, (.box 24 (List.map .pv (Model.enc o2))))]))
    else (
      some ((.int .i64 0), []))) = some r) :
  headT P cods H prim 29 2 [] [(1, (.pv (.str s1))), (2, (.ptr 2 0)), (5, (.pv (.int .i64 i5)))] [(2, (.box 24 (List.map .pv (Model.enc o2))))] = some r :=
  head_round (Eq.trans (by kernel_rfl) h)

/-- grammarlab/grammarlabref01.named -/
theorem b30 (s0 : List UInt8) (big1 : Bool) {r : Out}
  (h : (
    bif (decide ((List.length s0 : Int) < 1)) then (
      some ((.bool false), []))
    else (
      bif (decide ((List.length s0 : Int) > 32)) then (
        some ((.bool false), []))
      else (
        getK s0 0 fun b201 =>
        callE (Rn 39 [(.pv (.int .u8 (UInt8.toNat b201 : Int)))] []) fun r203 => asE R39.enc r203 fun y202 =>
        bif y202 then (
          some ((.bool false), []))
        else (
          getK s0 0 fun b204 =>
          bif ((UInt8.toNat b204 : Int) == 45) then (
            some ((.bool false), []))
          else (
            headT P cods H prim 30 4 [] [(0, (.pv (.str s0))), (1, (.pv (.bool big1))), (5, (.pv (.int .i64 0)))] []))))) = some r) :
  Rn 30 [(.pv (.str s0)), (.pv (.bool big1))] [] = some r :=
  run_body (C := cods) rfl (Eq.trans (by kernel_rfl) h)

/-- grammarlab/grammarlabref01.named, loop 4 -/
theorem L30_4 (s0 : List UInt8) (big1 : Bool) (i5 : Int) {r : Out}
  (h : (
    bif (decide (i5 < (List.length s0 : Int))) then (
      getK s0 i5 fun b201 =>
      callE (Rn 40 [(.pv (.int .u8 (UInt8.toNat b201 : Int))), (.pv (.bool big1))] []) fun r203 => asE R40.enc r203 fun y202 =>
      bif (!y202) then (
        some ((.bool false), []))
      else (
        headT P cods H prim 30 4 [] [(0, (.pv (.str s0))), (1, (.pv (.bool big1))), (5, (.pv (.int .i64 (IntKind.wrap .i64 (i5 + 1)))))] []))
    else (
      some ((.bool true), []))) = some r) :
  headT P cods H prim 30 4 [] [(0, (.pv (.str s0))), (1, (.pv (.bool big1))), (5, (.pv (.int .i64 i5)))] [] = some r :=
  head_round (Eq.trans (by kernel_rfl) h)

/-- slices.BinarySearchFunc[[]grammarlab/api.Weight,grammarlab/api.Weight,string] -/
theorem b32 (x0 : List Weight) (target1 : List UInt8) {r : Out}
  (h : (
    headT P cods H prim 32 3 [] [(0, (.pv (.lst 2 (List.map Weight.enc x0)))), (1, (.pv (.str target1))), (2, (.pv (.fn 33 []))), (8, (.pv (.int .i64 (List.length (List.map Weight.enc x0) : Int)))), (9, (.pv (.int .i64 0))), (10, (.pv (.int .i64 (List.length (List.map Weight.enc x0) : Int))))] []) = some r) :
  Rn 32 [(.pv (.lst 2 (List.map Weight.enc x0))), (.pv (.str target1)), (.pv (.fn 33 []))] [] = some r :=
  run_body (C := cods) rfl (Eq.trans (by kernel_rfl) h)

/-- slices.BinarySearchFunc[[]grammarlab/api.Weight,grammarlab/api.Weight,string], loop 3 -/
theorem L32_3 (x0 : List Weight) (target1 : List UInt8) (n8 : Int) (i9 : Int) (j10 : Int) {r : Out}
  (h : (
    bif (decide (i9 < j10)) then (
      check (0 ≤ 1) (
      getK (List.map Weight.enc x0) (IntKind.wrap .i64 ((Int.fdiv (IntKind.wrap .u64 ((IntKind.wrap .i64 (i9 + j10)))) (2 ^ min (Int.toNat 1) (IntKind.bits .u64))))) fun c202 => asE Weight.enc c202 fun x201 =>
      callE (Rn 33 [(.pv (.agg (Weight.enc x201))), (.pv (.str target1))] []) fun r204 => asE R33.enc r204 fun y203 =>
      bif (decide (y203 < 0)) then (
        headT P cods H prim 32 3 [] [(0, (.pv (.lst 2 (List.map Weight.enc x0)))), (1, (.pv (.str target1))), (2, (.pv (.fn 33 []))), (8, (.pv (.int .i64 n8))), (9, (.pv (.int .i64 (IntKind.wrap .i64 ((IntKind.wrap .i64 ((Int.fdiv (IntKind.wrap .u64 ((IntKind.wrap .i64 (i9 + j10)))) (2 ^ min (Int.toNat 1) (IntKind.bits .u64))))) + 1))))), (10, (.pv (.int .i64 j10)))] [])
      else (
        headT P cods H prim 32 3 [] [(0, (.pv (.lst 2 (List.map Weight.enc x0)))), (1, (.pv (.str target1))), (2, (.pv (.fn 33 []))), (8, (.pv (.int .i64 n8))), (9, (.pv (.int .i64 i9))), (10, (.pv (.int .i64 (IntKind.wrap .i64 ((Int.fdiv (IntKind.wrap .u64 ((IntKind.wrap .i64 (i9 + j10)))) (2 ^ min (Int.toNat 1) (IntKind.bits .u64))))))))] [])))
    else (
      bif (decide (i9 < n8)) then (
        getK (List.map Weight.enc x0) i9 fun c206 => asE Weight.enc c206 fun x205 =>
        callE (Rn 33 [(.pv (.agg (Weight.enc x205))), (.pv (.str target1))] []) fun r208 => asE R33.enc r208 fun y207 =>
        some ((.tup [(.int .i64 i9), (.bool (y207 == 0))]), []))
      else (
        some ((.tup [(.int .i64 i9), (.bool false)]), [])))) = some r) :
  headT P cods H prim 32 3 [] [(0, (.pv (.lst 2 (List.map Weight.enc x0)))), (1, (.pv (.str target1))), (2, (.pv (.fn 33 []))), (8, (.pv (.int .i64 n8))), (9, (.pv (.int .i64 i9))), (10, (.pv (.int .i64 j10)))] [] = some r :=
  head_round (Eq.trans (by kernel_rfl) h)

/-- grammarlab/model.weight$1 -/
theorem b33 (w0 : Weight) (s1 : List UInt8) {r : Out}
  (h : (
    callE (Rn 34 [(.pv (.str w0.Feature)), (.pv (.str s1))] []) fun r202 => asE R34.enc r202 fun y201 =>
    some ((.int .i64 y201), [])) = some r) :
  Rn 33 [(.pv (.agg (Weight.enc w0))), (.pv (.str s1))] [] = some r :=
  run_body (C := cods) rfl (Eq.trans (by kernel_rfl) h)

/-- cmp.Compare[string] -/
theorem b34 (x0 : List UInt8) (y1 : List UInt8) {r : Out}
  (h : (
    callE (Rn 44 [(.pv (.str x0))] []) fun r202 => asE R44.enc r202 fun y201 =>
    callE (Rn 44 [(.pv (.str y1))] []) fun r204 => asE R44.enc r204 fun y203 =>
    bif y201 then (
      bif y203 then (
        some ((.int .i64 0), []))
      else (
        some ((.int .i64 (-1)), [])))
    else (
      bif y203 then (
        some ((.int .i64 1), []))
      else (
        bif (Op.bytesLess x0 y1) then (
          some ((.int .i64 (-1)), []))
        else (
          bif (!(Op.bytesLess x0 y1 || x0 == y1)) then (
            some ((.int .i64 1), []))
          else (
            some ((.int .i64 0), [])))))) = some r) :
  Rn 34 [(.pv (.str x0)), (.pv (.str y1))] [] = some r :=
  run_body (C := cods) rfl (Eq.trans (by kernel_rfl) h)

/-- slices.insertionSortCmpFunc[grammarlab/api.Scored] -/
theorem b35 (a1 : Int) (b2 : Int) (w10000 : List Scored) {r : Out}
  (h : (
    headT P cods H prim 35 1 [10000] [(0, (.row 10000)), (1, (.pv (.int .i64 a1))), (2, (.pv (.int .i64 b2))), (3, (.pv (.fn 16 []))), (8, (.pv (.int .i64 (IntKind.wrap .i64 (a1 + 1)))))] [(10000, (.row 42 6 (List.map Scored.enc w10000)))]) = some r) :
  Rn 35 [(.row 10000), (.pv (.int .i64 a1)), (.pv (.int .i64 b2)), (.pv (.fn 16 []))] [(10000, (.row 42 6 (List.map Scored.enc w10000)))] = some r :=
  run_body (C := cods) rfl (Eq.trans (by kernel_rfl) h)

/-- slices.insertionSortCmpFunc[grammarlab/api.Scored], loop 1 -/
theorem L35_1 (a1 : Int) (b2 : Int) (i8 : Int) (o10000 : List Scored) {r : Out}
  (h : (
    bif (decide (i8 < b2)) then (
      headT P cods H prim 35 4 [10000] [(0, (.row 10000)), (1, (.pv (.int .i64 a1))), (2, (.pv (.int .i64 b2))), (3, (.pv (.fn 16 []))), (8, (.pv (.int .i64 i8))), (9, (.pv (.int .i64 i8)))] [(10000, (.row 42 6 (List.map Scored.enc o10000)))])
    else (
      some ((.tup []), [(10000, (.row 42 6 (List.map Scored.enc o10000)))]))) = some r) :
  headT P cods H prim 35 1 [10000] [(0, (.row 10000)), (1, (.pv (.int .i64 a1))), (2, (.pv (.int .i64 b2))), (3, (.pv (.fn 16 []))), (8, (.pv (.int .i64 i8)))] [(10000, (.row 42 6 (List.map Scored.enc o10000)))] = some r :=
  head_round (Eq.trans (by kernel_rfl) h)

/-- slices.insertionSortCmpFunc[grammarlab/api.Scored], loop 4 -/
theorem L35_4 (a1 : Int) (b2 : Int) (i8 : Int) (j9 : Int) (o10000 : List Scored) {r : Out}
  (h : (
    bif (decide (j9 > a1)) then (
      check (0 ≤ j9 ∧ Int.toNat j9 < List.length (List.map Scored.enc o10000)) (
      getN (List.map Scored.enc o10000) (Int.toNat j9) fun c202 => asE Scored.enc c202 fun x201 =>
      check (0 ≤ (IntKind.wrap .i64 (j9 - 1)) ∧ Int.toNat (IntKind.wrap .i64 (j9 - 1)) < List.length (List.map Scored.enc o10000)) (
      getN (List.map Scored.enc o10000) (Int.toNat (IntKind.wrap .i64 (j9 - 1))) fun c204 => asE Scored.enc c204 fun x203 =>
      callE (Rn 16 [(.pv (.agg (Scored.enc x201))), (.pv (.agg (Scored.enc x203)))] []) fun r206 => asE R16.enc r206 fun y205 =>
      bif (decide (y205 < 0)) then (
        check (0 ≤ (IntKind.wrap .i64 (j9 - 1)) ∧ Int.toNat (IntKind.wrap .i64 (j9 - 1)) < List.length (List.map Scored.enc o10000)) (
        getN (List.map Scored.enc o10000) (Int.toNat (IntKind.wrap .i64 (j9 - 1))) fun c208 => asE Scored.enc c208 fun x207 =>
        check (0 ≤ j9 ∧ Int.toNat j9 < List.length (List.map Scored.enc o10000)) (
        getN (List.map Scored.enc o10000) (Int.toNat j9) fun c210 => asE Scored.enc c210 fun x209 =>
        check (0 ≤ j9 ∧ Int.toNat j9 < List.length (List.map Scored.enc o10000)) (
        getN (List.map Scored.enc o10000) (Int.toNat j9) fun c212 => asE Scored.enc c212 fun x211 =>
        check (0 ≤ (IntKind.wrap .i64 (j9 - 1)) ∧ Int.toNat (IntKind.wrap .i64 (j9 - 1)) < List.length ((List.map Scored.enc o10000).set (Int.toNat j9) (Scored.enc x207))) (
        getN ((List.map Scored.enc o10000).set (Int.toNat j9) (Scored.enc x207)) (Int.toNat (IntKind.wrap .i64 (j9 - 1))) fun c214 => asE Scored.enc c214 fun x213 =>
        headT P cods H prim 35 4 [10000] [(0, (.row 10000)), (1, (.pv (.int .i64 a1))), (2, (.pv (.int .i64 b2))), (3, (.pv (.fn 16 []))), (8, (.pv (.int .i64 i8))), (9, (.pv (.int .i64 (IntKind.wrap .i64 (j9 - 1)))))] [(10000, (.row 42 6 (((List.map Scored.enc o10000).set (Int.toNat j9) (Scored.enc x207)).set (Int.toNat (IntKind.wrap .i64 (j9 - 1))) (Scored.enc x209))))])))))
      else (
        headT P cods H prim 35 1 [10000] [(0, (.row 10000)), (1, (.pv (.int .i64 a1))), (2, (.pv (.int .i64 b2))), (3, (.pv (.fn 16 []))), (8, (.pv (.int .i64 (IntKind.wrap .i64 (i8 + 1)))))] [(10000, (.row 42 6 (List.map Scored.enc o10000)))]))))
    else (
      headT P cods H prim 35 1 [10000] [(0, (.row 10000)), (1, (.pv (.int .i64 a1))), (2, (.pv (.int .i64 b2))), (3, (.pv (.fn 16 []))), (8, (.pv (.int .i64 (IntKind.wrap .i64 (i8 + 1)))))] [(10000, (.row 42 6 (List.map Scored.enc o10000)))])) = some r) :
  headT P cods H prim 35 4 [10000] [(0, (.row 10000)), (1, (.pv (.int .i64 a1))), (2, (.pv (.int .i64 b2))), (3, (.pv (.fn 16 []))), (8, (.pv (.int .i64 i8))), (9, (.pv (.int .i64 j9)))] [(10000, (.row 42 6 (List.map Scored.enc o10000)))] = some r :=
  head_round (Eq.trans (by kernel_rfl) h)

/-- slices.symMergeCmpFunc[grammarlab/api.Scored] -/
theorem b36 (a1 : Int) (m2 : Int) (b3 : Int) (w10000 : List Scored) {r : Out}
  (h : (
    bif ((IntKind.wrap .i64 (m2 - a1)) == 1) then (
      headT P cods H prim 36 3 [10000] [(0, (.row 10000)), (1, (.pv (.int .i64 a1))), (4, (.pv (.fn 16 []))), (10, (.pv (.int .i64 m2))), (11, (.pv (.int .i64 b3)))] [(10000, (.row 42 6 (List.map Scored.enc w10000)))])
    else (
      bif ((IntKind.wrap .i64 (b3 - m2)) == 1) then (
        headT P cods H prim 36 15 [10000] [(0, (.row 10000)), (2, (.pv (.int .i64 m2))), (4, (.pv (.fn 16 []))), (14, (.pv (.int .i64 a1))), (15, (.pv (.int .i64 m2)))] [(10000, (.row 42 6 (List.map Scored.enc w10000)))])
      else (
        check (0 ≤ 1) (
        bif (decide (m2 > (IntKind.wrap .i64 ((Int.fdiv (IntKind.wrap .u64 ((IntKind.wrap .i64 (a1 + b3)))) (2 ^ min (Int.toNat 1) (IntKind.bits .u64))))))) then (
          headT P cods H prim 36 33 [10000] [(0, (.row 10000)), (1, (.pv (.int .i64 a1))), (2, (.pv (.int .i64 m2))), (3, (.pv (.int .i64 b3))), (4, (.pv (.fn 16 []))), (18, (.pv (.int .i64 (IntKind.wrap .i64 ((Int.fdiv (IntKind.wrap .u64 ((IntKind.wrap .i64 (a1 + b3)))) (2 ^ min (Int.toNat 1) (IntKind.bits .u64)))))))), (19, (.pv (.int .i64 (IntKind.wrap .i64 ((IntKind.wrap .i64 ((Int.fdiv (IntKind.wrap .u64 ((IntKind.wrap .i64 (a1 + b3)))) (2 ^ min (Int.toNat 1) (IntKind.bits .u64))))) + m2))))), (20, (.pv (.int .i64 (IntKind.wrap .i64 ((IntKind.wrap .i64 ((IntKind.wrap .i64 ((Int.fdiv (IntKind.wrap .u64 ((IntKind.wrap .i64 (a1 + b3)))) (2 ^ min (Int.toNat 1) (IntKind.bits .u64))))) + m2)) - b3))))), (21, (.pv (.int .i64 (IntKind.wrap .i64 ((Int.fdiv (IntKind.wrap .u64 ((IntKind.wrap .i64 (a1 + b3)))) (2 ^ min (Int.toNat 1) (IntKind.bits .u64)))))))), (22, (.pv (.int .i64 (IntKind.wrap .i64 ((IntKind.wrap .i64 ((IntKind.wrap .i64 ((Int.fdiv (IntKind.wrap .u64 ((IntKind.wrap .i64 (a1 + b3)))) (2 ^ min (Int.toNat 1) (IntKind.bits .u64))))) + m2)) - 1)))))] [(10000, (.row 42 6 (List.map Scored.enc w10000)))])
        else (
          headT P cods H prim 36 33 [10000] [(0, (.row 10000)), (1, (.pv (.int .i64 a1))), (2, (.pv (.int .i64 m2))), (3, (.pv (.int .i64 b3))), (4, (.pv (.fn 16 []))), (18, (.pv (.int .i64 (IntKind.wrap .i64 ((Int.fdiv (IntKind.wrap .u64 ((IntKind.wrap .i64 (a1 + b3)))) (2 ^ min (Int.toNat 1) (IntKind.bits .u64)))))))), (19, (.pv (.int .i64 (IntKind.wrap .i64 ((IntKind.wrap .i64 ((Int.fdiv (IntKind.wrap .u64 ((IntKind.wrap .i64 (a1 + b3)))) (2 ^ min (Int.toNat 1) (IntKind.bits .u64))))) + m2))))), (20, (.pv (.int .i64 a1))), (21, (.pv (.int .i64 m2))), (22, (.pv (.int .i64 (IntKind.wrap .i64 ((IntKind.wrap .i64 ((IntKind.wrap .i64 ((Int.fdiv (IntKind.wrap .u64 ((IntKind.wrap .i64 (a1 + b3)))) (2 ^ min (Int.toNat 1) (IntKind.bits .u64))))) + m2)) - 1)))))] [(10000, (.row 42 6 (List.map Scored.enc w10000)))]))))) = some r) :
  Rn 36 [(.row 10000), (.pv (.int .i64 a1)), (.pv (.int .i64 m2)), (.pv (.int .i64 b3)), (.pv (.fn 16 []))] [(10000, (.row 42 6 (List.map Scored.enc w10000)))] = some r :=
  run_body (C := cods) rfl (Eq.trans (by kernel_rfl) h)

/-- slices.symMergeCmpFunc[grammarlab/api.Scored], loop 3 -/
theorem L36_3 (a1 : Int) (i10 : Int) (j11 : Int) (o10000 : List Scored) {r : Out}
  (h : (
    bif (decide (i10 < j11)) then (
      check (0 ≤ 1) (
      check (0 ≤ (IntKind.wrap .i64 ((Int.fdiv (IntKind.wrap .u64 ((IntKind.wrap .i64 (i10 + j11)))) (2 ^ min (Int.toNat 1) (IntKind.bits .u64))))) ∧ Int.toNat (IntKind.wrap .i64 ((Int.fdiv (IntKind.wrap .u64 ((IntKind.wrap .i64 (i10 + j11)))) (2 ^ min (Int.toNat 1) (IntKind.bits .u64))))) < List.length (List.map Scored.enc o10000)) (
      getN (List.map Scored.enc o10000) (Int.toNat (IntKind.wrap .i64 ((Int.fdiv (IntKind.wrap .u64 ((IntKind.wrap .i64 (i10 + j11)))) (2 ^ min (Int.toNat 1) (IntKind.bits .u64)))))) fun c202 => asE Scored.enc c202 fun x201 =>
      check (0 ≤ a1 ∧ Int.toNat a1 < List.length (List.map Scored.enc o10000)) (
      getN (List.map Scored.enc o10000) (Int.toNat a1) fun c204 => asE Scored.enc c204 fun x203 =>
      callE (Rn 16 [(.pv (.agg (Scored.enc x201))), (.pv (.agg (Scored.enc x203)))] []) fun r206 => asE R16.enc r206 fun y205 =>
      bif (decide (y205 < 0)) then (
        headT P cods H prim 36 3 [10000] [(0, (.row 10000)), (1, (.pv (.int .i64 a1))), (4, (.pv (.fn 16 []))), (10, (.pv (.int .i64 (IntKind.wrap .i64 ((IntKind.wrap .i64 ((Int.fdiv (IntKind.wrap .u64 ((IntKind.wrap .i64 (i10 + j11)))) (2 ^ min (Int.toNat 1) (IntKind.bits .u64))))) + 1))))), (11, (.pv (.int .i64 j11)))] [(10000, (.row 42 6 (List.map Scored.enc o10000)))])
      else (
        headT P cods H prim 36 3 [10000] [(0, (.row 10000)), (1, (.pv (.int .i64 a1))), (4, (.pv (.fn 16 []))), (10, (.pv (.int .i64 i10))), (11, (.pv (.int .i64 (IntKind.wrap .i64 ((Int.fdiv (IntKind.wrap .u64 ((IntKind.wrap .i64 (i10 + j11)))) (2 ^ min (Int.toNat 1) (IntKind.bits .u64))))))))] [(10000, (.row 42 6 (List.map Scored.enc o10000)))])))))
    else (
      headT P cods H prim 36 9 [10000] [(0, (.row 10000)), (10, (.pv (.int .i64 i10))), (13, (.pv (.int .i64 a1)))] [(10000, (.row 42 6 (List.map Scored.enc o10000)))])) = some r) :
  headT P cods H prim 36 3 [10000] [(0, (.row 10000)), (1, (.pv (.int .i64 a1))), (4, (.pv (.fn 16 []))), (10, (.pv (.int .i64 i10))), (11, (.pv (.int .i64 j11)))] [(10000, (.row 42 6 (List.map Scored.enc o10000)))] = some r :=
  head_round (Eq.trans (by kernel_rfl) h)

/-- slices.symMergeCmpFunc[grammarlab/api.Scored], loop 9 -/
theorem L36_9 (i10 : Int) (k13 : Int) (o10000 : List Scored) {r : Out}
  (h : (
    bif (decide (k13 < (IntKind.wrap .i64 (i10 - 1)))) then (
      check (0 ≤ (IntKind.wrap .i64 (k13 + 1)) ∧ Int.toNat (IntKind.wrap .i64 (k13 + 1)) < List.length (List.map Scored.enc o10000)) (
      getN (List.map Scored.enc o10000) (Int.toNat (IntKind.wrap .i64 (k13 + 1))) fun c202 => asE Scored.enc c202 fun x201 =>
      check (0 ≤ k13 ∧ Int.toNat k13 < List.length (List.map Scored.enc o10000)) (
      getN (List.map Scored.enc o10000) (Int.toNat k13) fun c204 => asE Scored.enc c204 fun x203 =>
      check (0 ≤ k13 ∧ Int.toNat k13 < List.length (List.map Scored.enc o10000)) (
      getN (List.map Scored.enc o10000) (Int.toNat k13) fun c206 => asE Scored.enc c206 fun x205 =>
      check (0 ≤ (IntKind.wrap .i64 (k13 + 1)) ∧ Int.toNat (IntKind.wrap .i64 (k13 + 1)) < List.length ((List.map Scored.enc o10000).set (Int.toNat k13) (Scored.enc x201))) (
      getN ((List.map Scored.enc o10000).set (Int.toNat k13) (Scored.enc x201)) (Int.toNat (IntKind.wrap .i64 (k13 + 1))) fun c208 => asE Scored.enc c208 fun x207 =>
      headT P cods H prim 36 9 [10000] [(0, (.row 10000)), (10, (.pv (.int .i64 i10))), (13, (.pv (.int .i64 (IntKind.wrap .i64 (k13 + 1)))))] [(10000, (.row 42 6 (((List.map Scored.enc o10000).set (Int.toNat k13) (Scored.enc x201)).set (Int.toNat (IntKind.wrap .i64 (k13 + 1))) (Scored.enc x203))))])))))
    else (
      some ((.tup []), [(10000, (.row 42 6 (List.map Scored.enc o10000)))]))) = some r) :
  headT P cods H prim 36 9 [10000] [(0, (.row 10000)), (10, (.pv (.int .i64 i10))), (13, (.pv (.int .i64 k13)))] [(10000, (.row 42 6 (List.map Scored.enc o10000)))] = some r :=
  head_round (Eq.trans (by kernel_rfl) h)

/-- slices.symMergeCmpFunc[grammarlab/api.Scored], loop 15 -/
theorem L36_15 (m2 : Int) (i14 : Int) (j15 : Int) (o10000 : List Scored) {r : Out}
  (h : (
    bif (decide (i14 < j15)) then (
      check (0 ≤ 1) (
      check (0 ≤ m2 ∧ Int.toNat m2 < List.length (List.map Scored.enc o10000)) (
      getN (List.map Scored.enc o10000) (Int.toNat m2) fun c202 => asE Scored.enc c202 fun x201 =>
      check (0 ≤ (IntKind.wrap .i64 ((Int.fdiv (IntKind.wrap .u64 ((IntKind.wrap .i64 (i14 + j15)))) (2 ^ min (Int.toNat 1) (IntKind.bits .u64))))) ∧ Int.toNat (IntKind.wrap .i64 ((Int.fdiv (IntKind.wrap .u64 ((IntKind.wrap .i64 (i14 + j15)))) (2 ^ min (Int.toNat 1) (IntKind.bits .u64))))) < List.length (List.map Scored.enc o10000)) (
      getN (List.map Scored.enc o10000) (Int.toNat (IntKind.wrap .i64 ((Int.fdiv (IntKind.wrap .u64 ((IntKind.wrap .i64 (i14 + j15)))) (2 ^ min (Int.toNat 1) (IntKind.bits .u64)))))) fun c204 => asE Scored.enc c204 fun x203 =>
      callE (Rn 16 [(.pv (.agg (Scored.enc x201))), (.pv (.agg (Scored.enc x203)))] []) fun r206 => asE R16.enc r206 fun y205 =>
      bif (!(decide (y205 < 0))) then (
        headT P cods H prim 36 15 [10000] [(0, (.row 10000)), (2, (.pv (.int .i64 m2))), (4, (.pv (.fn 16 []))), (14, (.pv (.int .i64 (IntKind.wrap .i64 ((IntKind.wrap .i64 ((Int.fdiv (IntKind.wrap .u64 ((IntKind.wrap .i64 (i14 + j15)))) (2 ^ min (Int.toNat 1) (IntKind.bits .u64))))) + 1))))), (15, (.pv (.int .i64 j15)))] [(10000, (.row 42 6 (List.map Scored.enc o10000)))])
      else (
        headT P cods H prim 36 15 [10000] [(0, (.row 10000)), (2, (.pv (.int .i64 m2))), (4, (.pv (.fn 16 []))), (14, (.pv (.int .i64 i14))), (15, (.pv (.int .i64 (IntKind.wrap .i64 ((Int.fdiv (IntKind.wrap .u64 ((IntKind.wrap .i64 (i14 + j15)))) (2 ^ min (Int.toNat 1) (IntKind.bits .u64))))))))] [(10000, (.row 42 6 (List.map Scored.enc o10000)))])))))
    else (
      headT P cods H prim 36 21 [10000] [(0, (.row 10000)), (14, (.pv (.int .i64 i14))), (17, (.pv (.int .i64 m2)))] [(10000, (.row 42 6 (List.map Scored.enc o10000)))])) = some r) :
  headT P cods H prim 36 15 [10000] [(0, (.row 10000)), (2, (.pv (.int .i64 m2))), (4, (.pv (.fn 16 []))), (14, (.pv (.int .i64 i14))), (15, (.pv (.int .i64 j15)))] [(10000, (.row 42 6 (List.map Scored.enc o10000)))] = some r :=
  head_round (Eq.trans (by kernel_rfl) h)

/-- slices.symMergeCmpFunc[grammarlab/api.Scored], loop 21 -/
theorem L36_21 (i14 : Int) (k17 : Int) (o10000 : List Scored) {r : Out}
  (h : (
    bif (decide (k17 > i14)) then (
      check (0 ≤ (IntKind.wrap .i64 (k17 - 1)) ∧ Int.toNat (IntKind.wrap .i64 (k17 - 1)) < List.length (List.map Scored.enc o10000)) (
      getN (List.map Scored.enc o10000) (Int.toNat (IntKind.wrap .i64 (k17 - 1))) fun c202 => asE Scored.enc c202 fun x201 =>
      check (0 ≤ k17 ∧ Int.toNat k17 < List.length (List.map Scored.enc o10000)) (
      getN (List.map Scored.enc o10000) (Int.toNat k17) fun c204 => asE Scored.enc c204 fun x203 =>
      check (0 ≤ k17 ∧ Int.toNat k17 < List.length (List.map Scored.enc o10000)) (
      getN (List.map Scored.enc o10000) (Int.toNat k17) fun c206 => asE Scored.enc c206 fun x205 =>
      check (0 ≤ (IntKind.wrap .i64 (k17 - 1)) ∧ Int.toNat (IntKind.wrap .i64 (k17 - 1)) < List.length ((List.map Scored.enc o10000).set (Int.toNat k17) (Scored.enc x201))) (
      getN ((List.map Scored.enc o10000).set (Int.toNat k17) (Scored.enc x201)) (Int.toNat (IntKind.wrap .i64 (k17 - 1))) fun c208 => asE Scored.enc c208 fun x207 =>
      headT P cods H prim 36 21 [10000] [(0, (.row 10000)), (14, (.pv (.int .i64 i14))), (17, (.pv (.int .i64 (IntKind.wrap .i64 (k17 - 1)))))] [(10000, (.row 42 6 (((List.map Scored.enc o10000).set (Int.toNat k17) (Scored.enc x201)).set (Int.toNat (IntKind.wrap .i64 (k17 - 1))) (Scored.enc x203))))])))))
    else (
      some ((.tup []), [(10000, (.row 42 6 (List.map Scored.enc o10000)))]))) = some r) :
  headT P cods H prim 36 21 [10000] [(0, (.row 10000)), (14, (.pv (.int .i64 i14))), (17, (.pv (.int .i64 k17)))] [(10000, (.row 42 6 (List.map Scored.enc o10000)))] = some r :=
  head_round (Eq.trans (by kernel_rfl) h)

/-- slices.symMergeCmpFunc[grammarlab/api.Scored], loop 33 -/
theorem L36_33 (a1 : Int) (m2 : Int) (b3 : Int) (mid18 : Int) (n19 : Int) (start20 : Int) (r21 : Int) (p22 : Int) (o10000 : List Scored) {r : Out}
  (h : (
    bif (decide (start20 < r21)) then (
      check (0 ≤ 1) (
      check (0 ≤ (IntKind.wrap .i64 (p22 - (IntKind.wrap .i64 ((Int.fdiv (IntKind.wrap .u64 ((IntKind.wrap .i64 (start20 + r21)))) (2 ^ min (Int.toNat 1) (IntKind.bits .u64))))))) ∧ Int.toNat (IntKind.wrap .i64 (p22 - (IntKind.wrap .i64 ((Int.fdiv (IntKind.wrap .u64 ((IntKind.wrap .i64 (start20 + r21)))) (2 ^ min (Int.toNat 1) (IntKind.bits .u64))))))) < List.length (List.map Scored.enc o10000)) (
      getN (List.map Scored.enc o10000) (Int.toNat (IntKind.wrap .i64 (p22 - (IntKind.wrap .i64 ((Int.fdiv (IntKind.wrap .u64 ((IntKind.wrap .i64 (start20 + r21)))) (2 ^ min (Int.toNat 1) (IntKind.bits .u64)))))))) fun c202 => asE Scored.enc c202 fun x201 =>
      check (0 ≤ (IntKind.wrap .i64 ((Int.fdiv (IntKind.wrap .u64 ((IntKind.wrap .i64 (start20 + r21)))) (2 ^ min (Int.toNat 1) (IntKind.bits .u64))))) ∧ Int.toNat (IntKind.wrap .i64 ((Int.fdiv (IntKind.wrap .u64 ((IntKind.wrap .i64 (start20 + r21)))) (2 ^ min (Int.toNat 1) (IntKind.bits .u64))))) < List.length (List.map Scored.enc o10000)) (
      getN (List.map Scored.enc o10000) (Int.toNat (IntKind.wrap .i64 ((Int.fdiv (IntKind.wrap .u64 ((IntKind.wrap .i64 (start20 + r21)))) (2 ^ min (Int.toNat 1) (IntKind.bits .u64)))))) fun c204 => asE Scored.enc c204 fun x203 =>
      callE (Rn 16 [(.pv (.agg (Scored.enc x201))), (.pv (.agg (Scored.enc x203)))] []) fun r206 => asE R16.enc r206 fun y205 =>
      bif (!(decide (y205 < 0))) then (
        headT P cods H prim 36 33 [10000] [(0, (.row 10000)), (1, (.pv (.int .i64 a1))), (2, (.pv (.int .i64 m2))), (3, (.pv (.int .i64 b3))), (4, (.pv (.fn 16 []))), (18, (.pv (.int .i64 mid18))), (19, (.pv (.int .i64 n19))), (20, (.pv (.int .i64 (IntKind.wrap .i64 ((IntKind.wrap .i64 ((Int.fdiv (IntKind.wrap .u64 ((IntKind.wrap .i64 (start20 + r21)))) (2 ^ min (Int.toNat 1) (IntKind.bits .u64))))) + 1))))), (21, (.pv (.int .i64 r21))), (22, (.pv (.int .i64 p22)))] [(10000, (.row 42 6 (List.map Scored.enc o10000)))])
      else (
        headT P cods H prim 36 33 [10000] [(0, (.row 10000)), (1, (.pv (.int .i64 a1))), (2, (.pv (.int .i64 m2))), (3, (.pv (.int .i64 b3))), (4, (.pv (.fn 16 []))), (18, (.pv (.int .i64 mid18))), (19, (.pv (.int .i64 n19))), (20, (.pv (.int .i64 start20))), (21, (.pv (.int .i64 (IntKind.wrap .i64 ((Int.fdiv (IntKind.wrap .u64 ((IntKind.wrap .i64 (start20 + r21)))) (2 ^ min (Int.toNat 1) (IntKind.bits .u64)))))))), (22, (.pv (.int .i64 p22)))] [(10000, (.row 42 6 (List.map Scored.enc o10000)))])))))
    else (
      bif (decide (start20 < m2)) then (
        bif (decide (m2 < (IntKind.wrap .i64 (n19 - start20)))) then (
          callR (Rn 45 [(.row 10000), (.pv (.int .i64 start20)), (.pv (.int .i64 m2)), (.pv (.int .i64 (IntKind.wrap .i64 (n19 - start20)))), (.pv (.fn 16 []))] [(10000, (.row 42 6 (List.map Scored.enc o10000)))]) 10000 42 6 fun r208 c210 => asE R45.enc r208 fun y207 => asE (List.map Scored.enc) c210 fun l209 =>
          bif (decide (a1 < start20)) then (
            bif (decide (start20 < mid18)) then (
              callR (Rn 36 [(.row 10000), (.pv (.int .i64 a1)), (.pv (.int .i64 start20)), (.pv (.int .i64 mid18)), (.pv (.fn 16 []))] [(10000, (.row 42 6 (List.map Scored.enc l209)))]) 10000 42 6 fun r212 c214 => asE R36.enc r212 fun y211 => asE (List.map Scored.enc) c214 fun l213 =>
              bif (decide (mid18 < (IntKind.wrap .i64 (n19 - start20)))) then (
                bif (decide ((IntKind.wrap .i64 (n19 - start20)) < b3)) then (
                  callR (Rn 36 [(.row 10000), (.pv (.int .i64 mid18)), (.pv (.int .i64 (IntKind.wrap .i64 (n19 - start20)))), (.pv (.int .i64 b3)), (.pv (.fn 16 []))] [(10000, (.row 42 6 (List.map Scored.enc l213)))]) 10000 42 6 fun r216 c218 => asE R36.enc r216 fun y215 => asE (List.map Scored.enc) c218 fun l217 =>
                  some ((.tup []), [(10000, (.row 42 6 (List.map Scored.enc l217)))]))
                else (
                  some ((.tup []), [(10000, (.row 42 6 (List.map Scored.enc l213)))])))
              else (
                some ((.tup []), [(10000, (.row 42 6 (List.map Scored.enc l213)))])))
            else (
              bif (decide (mid18 < (IntKind.wrap .i64 (n19 - start20)))) then (
                bif (decide ((IntKind.wrap .i64 (n19 - start20)) < b3)) then (
                  callR (Rn 36 [(.row 10000), (.pv (.int .i64 mid18)), (.pv (.int .i64 (IntKind.wrap .i64 (n19 - start20)))), (.pv (.int .i64 b3)), (.pv (.fn 16 []))] [(10000, (.row 42 6 (List.map Scored.enc l209)))]) 10000 42 6 fun r220 c222 => asE R36.enc r220 fun y219 => asE (List.map Scored.enc) c222 fun l221 =>
                  some ((.tup []), [(10000, (.row 42 6 (List.map Scored.enc l221)))]))
                else (
                  some ((.tup []), [(10000, (.row 42 6 (List.map Scored.enc l209)))])))
              else (
                some ((.tup []), [(10000, (.row 42 6 (List.map Scored.enc l209)))]))))
          else (
            bif (decide (mid18 < (IntKind.wrap .i64 (n19 - start20)))) then (
              bif (decide ((IntKind.wrap .i64 (n19 - start20)) < b3)) then (
                callR (Rn 36 [(.row 10000), (.pv (.int .i64 mid18)), (.pv (.int .i64 (IntKind.wrap .i64 (n19 - start20)))), (.pv (.int .i64 b3)), (.pv (.fn 16 []))] [(10000, (.row 42 6 (List.map Scored.enc l209)))]) 10000 42 6 fun r224 c226 => asE R36.enc r224 fun y223 => asE (List.map Scored.enc) c226 fun l225 =>
                some ((.tup []), [(10000, (.row 42 6 (List.map Scored.enc l225)))]))
              else (
                some ((.tup []), [(10000, (.row 42 6 (List.map Scored.enc l209)))])))
            else (
              some ((.tup []), [(10000, (.row 42 6 (List.map Scored.enc l209)))]))))
        else (
          bif (decide (a1 < start20)) then (
            bif (decide (start20 < mid18)) then (
              callR (Rn 36 [(.row 10000), (.pv (.int .i64 a1)), (.pv (.int .i64 start20)), (.pv (.int .i64 mid18)), (.pv (.fn 16 []))] [(10000, (.row 42 6 (List.map Scored.enc o10000)))]) 10000 42 6 fun r228 c230 => asE R36.enc r228 fun y227 => asE (List.map Scored.enc) c230 fun l229 =>
              bif (decide (mid18 < (IntKind.wrap .i64 (n19 - start20)))) then (
                bif (decide ((IntKind.wrap .i64 (n19 - start20)) < b3)) then (
                  callR (Rn 36 [(.row 10000), (.pv (.int .i64 mid18)), (.pv (.int .i64 (IntKind.wrap .i64 (n19 - start20)))), (.pv (.int .i64 b3)), (.pv (.fn 16 []))] [(10000, (.row 42 6 (List.map Scored.enc l229)))]) 10000 42 6 fun r232 c234 => asE R36.enc r232 fun y231 => asE (List.map Scored.enc) c234 fun l233 =>
                  some ((.tup []), [(10000, (.row 42 6 (List.map Scored.enc l233)))]))
                else (
                  some ((.tup []), [(10000, (.row 42 6 (List.map Scored.enc l229)))])))
              else (
                some ((.tup []), [(10000, (.row 42 6 (List.map Scored.enc l229)))])))
            else (
              bif (decide (mid18 < (IntKind.wrap .i64 (n19 - start20)))) then (
                bif (decide ((IntKind.wrap .i64 (n19 - start20)) < b3)) then (
                  callR (Rn 36 [(.row 10000), (.pv (.int .i64 mid18)), (.pv (.int .i64 (IntKind.wrap .i64 (n19 - start20)))), (.pv (.int .i64 b3)), (.pv (.fn 16 []))] [(10000, (.row 42 6 (List.map Scored.enc o10000)))]) 10000 42 6 fun r236 c238 => asE R36.enc r236 fun y235 => asE (List.map Scored.enc) c238 fun l237 =>
                  some ((.tup []), [(10000, (.row 42 6 (List.map Scored.enc l237)))]))
                else (
                  some ((.tup []), [(10000, (.row 42 6 (List.map Scored.enc o10000)))])))
              else (
                some ((.tup []), [(10000, (.row 42 6 (List.map Scored.enc o10000)))]))))
          else (
            bif (decide (mid18 < (IntKind.wrap .i64 (n19 - start20)))) then (
              bif (decide ((IntKind.wrap .i64 (n19 - start20)) < b3)) then (
                callR (Rn 36 [(.row 10000), (.pv (.int .i64 mid18)), (.pv (.int .i64 (IntKind.wrap .i64 (n19 - start20)))), (.pv (.int .i64 b3)), (.pv (.fn 16 []))] [(10000, (.row 42 6 (List.map Scored.enc o10000)))]) 10000 42 6 fun r240 c242 => asE R36.enc r240 fun y239 => asE (List.map Scored.enc) c242 fun l241 =>
                some ((.tup []), [(10000, (.row 42 6 (List.map Scored.enc l241)))]))
              else (
                some ((.tup []), [(10000, (.row 42 6 (List.map Scored.enc o10000)))])))
            else (
              some ((.tup []), [(10000, (.row 42 6 (List.map Scored.enc o10000)))])))))
      else (
        bif (decide (a1 < start20)) then (
          bif (decide (start20 < mid18)) then (
            callR (Rn 36 [(.row 10000), (.pv (.int .i64 a1)), (.pv (.int .i64 start20)), (.pv (.int .i64 mid18)), (.pv (.fn 16 []))] [(10000, (.row 42 6 (List.map Scored.enc o10000)))]) 10000 42 6 fun r244 c246 => asE R36.enc r244 fun y243 => asE (List.map Scored.enc) c246 fun l245 =>
            bif (decide (mid18 < (IntKind.wrap .i64 (n19 - start20)))) then (
              bif (decide ((IntKind.wrap .i64 (n19 - start20)) < b3)) then (
                callR (Rn 36 [(.row 10000), (.pv (.int .i64 mid18)), (.pv (.int .i64 (IntKind.wrap .i64 (n19 - start20)))), (.pv (.int .i64 b3)), (.pv (.fn 16 []))] [(10000, (.row 42 6 (List.map Scored.enc l245)))]) 10000 42 6 fun r248 c250 => asE R36.enc r248 fun y247 => asE (List.map Scored.enc) c250 fun l249 =>
                some ((.tup []), [(10000, (.row 42 6 (List.map Scored.enc l249)))]))
              else (
                some ((.tup []), [(10000, (.row 42 6 (List.map Scored.enc l245)))])))
            else (
              some ((.tup []), [(10000, (.row 42 6 (List.map Scored.enc l245)))])))
          else (
            bif (decide (mid18 < (IntKind.wrap .i64 (n19 - start20)))) then (
              bif (decide ((IntKind.wrap .i64 (n19 - start20)) < b3)) then (
                callR (Rn 36 [(.row 10000), (.pv (.int .i64 mid18)), (.pv (.int .i64 (IntKind.wrap .i64 (n19 - start20)))), (.pv (.int .i64 b3)), (.pv (.fn 16 []))] [(10000, (.row 42 6 (List.map Scored.enc o10000)))]) 10000 42 6 fun r252 c254 => asE R36.enc r252 fun y251 => asE (List.map Scored.enc) c254 fun l253 =>
                some ((.tup []), [(10000, (.row 42 6 (List.map Scored.enc l253)))]))
              else (
                some ((.tup []), [(10000, (.row 42 6 (List.map Scored.enc o10000)))])))
            else (
              some ((.tup []), [(10000, (.row 42 6 (List.map Scored.enc o10000)))]))))
        else (
          bif (decide (mid18 < (IntKind.wrap .i64 (n19 - start20)))) then (
            bif (decide ((IntKind.wrap .i64 (n19 - start20)) < b3)) then (
              callR (Rn 36 [(.row 10000), (.pv (.int .i64 mid18)), (.pv (.int .i64 (IntKind.wrap .i64 (n19 - start20)))), (.pv (.int .i64 b3)), (.pv (.fn 16 []))] [(10000, (.row 42 6 (List.map Scored.enc o10000)))]) 10000 42 6 fun r256 c258 => asE R36.enc r256 fun y255 => asE (List.map Scored.enc) c258 fun l257 =>
              some ((.tup []), [(10000, (.row 42 6 (List.map Scored.enc l257)))]))
            else (
              some ((.tup []), [(10000, (.row 42 6 (List.map Scored.enc o10000)))])))
          else (
            some ((.tup []), [(10000, (.row 42 6 (List.map Scored.enc o10000)))])))))) = some r) :
  headT P cods H prim 36 33 [10000] [(0, (.row 10000)), (1, (.pv (.int .i64 a1))), (2, (.pv (.int .i64 m2))), (3, (.pv (.int .i64 b3))), (4, (.pv (.fn 16 []))), (18, (.pv (.int .i64 mid18))), (19, (.pv (.int .i64 n19))), (20, (.pv (.int .i64 start20))), (21, (.pv (.int .i64 r21))), (22, (.pv (.int .i64 p22)))] [(10000, (.row 42 6 (List.map Scored.enc o10000)))] = some r :=
  head_round (Eq.trans (by kernel_rfl) h)

/-- cmp.isNaN[int] -/
theorem b37 (x0 : Int) {r : Out}
  (h : (
    some ((.bool (x0 != x0)), [])) = some r) :
  Rn 37 [(.pv (.int .i64 x0))] [] = some r :=
  run_body (C := cods) rfl (Eq.trans (by kernel_rfl) h)

/-- slices.CompareFunc[[]grammarlab/api.Deriv,[]grammarlab/api.Deriv,grammarlab/api.Deriv,grammarlab/api.Deriv] -/
theorem b38 (s10 : List Deriv) (s21 : List Deriv) {r : Out}
  (h : (
    headT P cods H prim 38 2 [] [(0, (.pv (.lst 5 (List.map Deriv.encX s10)))), (1, (.pv (.lst 5 (List.map Deriv.encX s21)))), (2, (.pv (.fn 27 []))), (11, (.pv (.lst 5 (List.map Deriv.encX s10)))), (12, (.pv (.int .i64 (List.length (List.map Deriv.encX s10) : Int)))), (13, (.pv (.int .i64 0)))] []) = some r) :
  Rn 38 [(.pv (.lst 5 (List.map Deriv.encX s10))), (.pv (.lst 5 (List.map Deriv.encX s21))), (.pv (.fn 27 []))] [] = some r :=
  run_body (C := cods) rfl (Eq.trans (by kernel_rfl) h)

/-- slices.CompareFunc[[]grammarlab/api.Deriv,[]grammarlab/api.Deriv,grammarlab/api.Deriv,grammarlab/api.Deriv], loop 2 -/
theorem L38_2 (s10 : List Deriv) (s21 : List Deriv) (v11 : List Deriv) (v12 : Int) (v13 : Int) {r : Out}
  (h : (
    bif (decide (v13 < v12)) then (
      getK (List.map Deriv.encX v11) v13 fun c202 => asE Deriv.enc c202 fun x201 =>
      bif (decide (v13 ≥ (List.length (List.map Deriv.encX s21) : Int))) then (
        some ((.int .i64 1), []))
      else (
        getK (List.map Deriv.encX s21) v13 fun c204 => asE Deriv.enc c204 fun x203 =>
        callE (Rn 27 [(.pv (.agg (Deriv.enc x201))), (.pv (.agg (Deriv.enc x203)))] []) fun r206 => asE R27.enc r206 fun y205 =>
        bif (y205 != 0) then (
          some ((.int .i64 y205), []))
        else (
          headT P cods H prim 38 2 [] [(0, (.pv (.lst 5 (List.map Deriv.encX s10)))), (1, (.pv (.lst 5 (List.map Deriv.encX s21)))), (2, (.pv (.fn 27 []))), (11, (.pv (.lst 5 (List.map Deriv.encX v11)))), (12, (.pv (.int .i64 v12))), (13, (.pv (.int .i64 (IntKind.wrap .i64 (v13 + 1)))))] [])))
    else (
      bif (decide ((List.length (List.map Deriv.encX s10) : Int) < (List.length (List.map Deriv.encX s21) : Int))) then (
        some ((.int .i64 (-1)), []))
      else (
        some ((.int .i64 0), [])))) = some r) :
  headT P cods H prim 38 2 [] [(0, (.pv (.lst 5 (List.map Deriv.encX s10)))), (1, (.pv (.lst 5 (List.map Deriv.encX s21)))), (2, (.pv (.fn 27 []))), (11, (.pv (.lst 5 (List.map Deriv.encX v11)))), (12, (.pv (.int .i64 v12))), (13, (.pv (.int .i64 v13)))] [] = some r :=
  head_round (Eq.trans (by kernel_rfl) h)

/-- grammarlab/grammarlabref01.digit -/
theorem b39 (c0 : Int) {r : Out}
  (h : (
    bif (decide (c0 ≥ 48)) then (
      some ((.bool (decide (c0 ≤ 57))), []))
    else (
      some ((.bool false), []))) = some r) :
  Rn 39 [(.pv (.int .u8 c0))] [] = some r :=
  run_body (C := cods) rfl (Eq.trans (by kernel_rfl) h)

/-- grammarlab/grammarlabref01.part -/
theorem b40 (c0 : Int) (big1 : Bool) {r : Out}
  (h : (
    callE (Rn 39 [(.pv (.int .u8 c0))] []) fun r202 => asE R39.enc r202 fun y201 =>
    bif y201 then (
      some ((.bool true), []))
    else (
      bif (c0 == 45) then (
        some ((.bool true), []))
      else (
        bif big1 then (
          callE (Rn 46 [(.pv (.int .u8 c0))] []) fun r204 => asE R46.enc r204 fun y203 =>
          bif y203 then (
            some ((.bool true), []))
          else (
            bif (!big1) then (
              callE (Rn 47 [(.pv (.int .u8 c0))] []) fun r206 => asE R47.enc r206 fun y205 =>
              some ((.bool y205), []))
            else (
              some ((.bool false), []))))
        else (
          bif (!big1) then (
            callE (Rn 47 [(.pv (.int .u8 c0))] []) fun r208 => asE R47.enc r208 fun y207 =>
            some ((.bool y207), []))
          else (
            some ((.bool false), [])))))) = some r) :
  Rn 40 [(.pv (.int .u8 c0)), (.pv (.bool big1))] [] = some r :=
  run_body (C := cods) rfl (Eq.trans (by kernel_rfl) h)

/-- cmp.isNaN[string] -/
theorem b44 (x0 : List UInt8) {r : Out}
  (h : (
    some ((.bool (!(x0 == x0))), [])) = some r) :
  Rn 44 [(.pv (.str x0))] [] = some r :=
  run_body (C := cods) rfl (Eq.trans (by kernel_rfl) h)

/-- slices.rotateCmpFunc[grammarlab/api.Scored] -/
theorem b45 (a1 : Int) (m2 : Int) (b3 : Int) (w10000 : List Scored) {r : Out}
  (h : (
    headT P cods H prim 45 2 [10000] [(0, (.row 10000)), (2, (.pv (.int .i64 m2))), (4, (.pv (.fn 16 []))), (10, (.pv (.int .i64 (IntKind.wrap .i64 (m2 - a1))))), (11, (.pv (.int .i64 (IntKind.wrap .i64 (b3 - m2)))))] [(10000, (.row 42 6 (List.map Scored.enc w10000)))]) = some r) :
  Rn 45 [(.row 10000), (.pv (.int .i64 a1)), (.pv (.int .i64 m2)), (.pv (.int .i64 b3)), (.pv (.fn 16 []))] [(10000, (.row 42 6 (List.map Scored.enc w10000)))] = some r :=
  run_body (C := cods) rfl (Eq.trans (by kernel_rfl) h)

/-- slices.rotateCmpFunc[grammarlab/api.Scored], loop 2 -/
theorem L45_2 (m2 : Int) (i10 : Int) (j11 : Int) (o10000 : List Scored) {r : Out}
  (h : (
    bif (i10 != j11) then (
      bif (decide (i10 > j11)) then (
        callR (Rn 50 [(.row 10000), (.pv (.int .i64 (IntKind.wrap .i64 (m2 - i10)))), (.pv (.int .i64 m2)), (.pv (.int .i64 j11)), (.pv (.fn 16 []))] [(10000, (.row 42 6 (List.map Scored.enc o10000)))]) 10000 42 6 fun r202 c204 => asE R50.enc r202 fun y201 => asE (List.map Scored.enc) c204 fun l203 =>
        headT P cods H prim 45 2 [10000] [(0, (.row 10000)), (2, (.pv (.int .i64 m2))), (4, (.pv (.fn 16 []))), (10, (.pv (.int .i64 (IntKind.wrap .i64 (i10 - j11))))), (11, (.pv (.int .i64 j11)))] [(10000, (.row 42 6 (List.map Scored.enc l203)))])
      else (
        callR (Rn 50 [(.row 10000), (.pv (.int .i64 (IntKind.wrap .i64 (m2 - i10)))), (.pv (.int .i64 (IntKind.wrap .i64 ((IntKind.wrap .i64 (m2 + j11)) - i10)))), (.pv (.int .i64 i10)), (.pv (.fn 16 []))] [(10000, (.row 42 6 (List.map Scored.enc o10000)))]) 10000 42 6 fun r206 c208 => asE R50.enc r206 fun y205 => asE (List.map Scored.enc) c208 fun l207 =>
        headT P cods H prim 45 2 [10000] [(0, (.row 10000)), (2, (.pv (.int .i64 m2))), (4, (.pv (.fn 16 []))), (10, (.pv (.int .i64 i10))), (11, (.pv (.int .i64 (IntKind.wrap .i64 (j11 - i10)))))] [(10000, (.row 42 6 (List.map Scored.enc l207)))]))
    else (
      callR (Rn 50 [(.row 10000), (.pv (.int .i64 (IntKind.wrap .i64 (m2 - i10)))), (.pv (.int .i64 m2)), (.pv (.int .i64 i10)), (.pv (.fn 16 []))] [(10000, (.row 42 6 (List.map Scored.enc o10000)))]) 10000 42 6 fun r210 c212 => asE R50.enc r210 fun y209 => asE (List.map Scored.enc) c212 fun l211 =>
      some ((.tup []), [(10000, (.row 42 6 (List.map Scored.enc l211)))]))) = some r) :
  headT P cods H prim 45 2 [10000] [(0, (.row 10000)), (2, (.pv (.int .i64 m2))), (4, (.pv (.fn 16 []))), (10, (.pv (.int .i64 i10))), (11, (.pv (.int .i64 j11)))] [(10000, (.row 42 6 (List.map Scored.enc o10000)))] = some r :=
  head_round (Eq.trans (by kernel_rfl) h)

/-- grammarlab/grammarlabref01.upper -/
theorem b46 (c0 : Int) {r : Out}
  (h : (
    bif (decide (c0 ≥ 65)) then (
      some ((.bool (decide (c0 ≤ 90))), []))
    else (
      some ((.bool false), []))) = some r) :
  Rn 46 [(.pv (.int .u8 c0))] [] = some r :=
  run_body (C := cods) rfl (Eq.trans (by kernel_rfl) h)

/-- grammarlab/grammarlabref01.lower -/
theorem b47 (c0 : Int) {r : Out}
  (h : (
    bif (decide (c0 ≥ 97)) then (
      some ((.bool (decide (c0 ≤ 122))), []))
    else (
      some ((.bool false), []))) = some r) :
  Rn 47 [(.pv (.int .u8 c0))] [] = some r :=
  run_body (C := cods) rfl (Eq.trans (by kernel_rfl) h)

/-- slices.swapRangeCmpFunc[grammarlab/api.Scored] -/
theorem b50 (a1 : Int) (b2 : Int) (n3 : Int) (w10000 : List Scored) {r : Out}
  (h : (
    headT P cods H prim 50 1 [10000] [(0, (.row 10000)), (1, (.pv (.int .i64 a1))), (2, (.pv (.int .i64 b2))), (3, (.pv (.int .i64 n3))), (10, (.pv (.int .i64 0)))] [(10000, (.row 42 6 (List.map Scored.enc w10000)))]) = some r) :
  Rn 50 [(.row 10000), (.pv (.int .i64 a1)), (.pv (.int .i64 b2)), (.pv (.int .i64 n3)), (.pv (.fn 16 []))] [(10000, (.row 42 6 (List.map Scored.enc w10000)))] = some r :=
  run_body (C := cods) rfl (Eq.trans (by kernel_rfl) h)

/-- slices.swapRangeCmpFunc[grammarlab/api.Scored], loop 1 -/
theorem L50_1 (a1 : Int) (b2 : Int) (n3 : Int) (i10 : Int) (o10000 : List Scored) {r : Out}
  (h : (
    bif (decide (i10 < n3)) then (
      check (0 ≤ (IntKind.wrap .i64 (b2 + i10)) ∧ Int.toNat (IntKind.wrap .i64 (b2 + i10)) < List.length (List.map Scored.enc o10000)) (
      getN (List.map Scored.enc o10000) (Int.toNat (IntKind.wrap .i64 (b2 + i10))) fun c202 => asE Scored.enc c202 fun x201 =>
      check (0 ≤ (IntKind.wrap .i64 (a1 + i10)) ∧ Int.toNat (IntKind.wrap .i64 (a1 + i10)) < List.length (List.map Scored.enc o10000)) (
      getN (List.map Scored.enc o10000) (Int.toNat (IntKind.wrap .i64 (a1 + i10))) fun c204 => asE Scored.enc c204 fun x203 =>
      check (0 ≤ (IntKind.wrap .i64 (a1 + i10)) ∧ Int.toNat (IntKind.wrap .i64 (a1 + i10)) < List.length (List.map Scored.enc o10000)) (
      getN (List.map Scored.enc o10000) (Int.toNat (IntKind.wrap .i64 (a1 + i10))) fun c206 => asE Scored.enc c206 fun x205 =>
      check (0 ≤ (IntKind.wrap .i64 (b2 + i10)) ∧ Int.toNat (IntKind.wrap .i64 (b2 + i10)) < List.length ((List.map Scored.enc o10000).set (Int.toNat (IntKind.wrap .i64 (a1 + i10))) (Scored.enc x201))) (
      getN ((List.map Scored.enc o10000).set (Int.toNat (IntKind.wrap .i64 (a1 + i10))) (Scored.enc x201)) (Int.toNat (IntKind.wrap .i64 (b2 + i10))) fun c208 => asE Scored.enc c208 fun x207 =>
      headT P cods H prim 50 1 [10000] [(0, (.row 10000)), (1, (.pv (.int .i64 a1))), (2, (.pv (.int .i64 b2))), (3, (.pv (.int .i64 n3))), (10, (.pv (.int .i64 (IntKind.wrap .i64 (i10 + 1)))))] [(10000, (.row 42 6 (((List.map Scored.enc o10000).set (Int.toNat (IntKind.wrap .i64 (a1 + i10))) (Scored.enc x201)).set (Int.toNat (IntKind.wrap .i64 (b2 + i10))) (Scored.enc x203))))])))))
    else (
      some ((.tup []), [(10000, (.row 42 6 (List.map Scored.enc o10000)))]))) = some r) :
  headT P cods H prim 50 1 [10000] [(0, (.row 10000)), (1, (.pv (.int .i64 a1))), (2, (.pv (.int .i64 b2))), (3, (.pv (.int .i64 n3))), (10, (.pv (.int .i64 i10)))] [(10000, (.row 42 6 (List.map Scored.enc o10000)))] = some r :=
  head_round (Eq.trans (by kernel_rfl) h)

end Go.Proofs.Ytogpflcfahjafaa.rk
