/-
  The Closure laws: the bodies of the functions and loops, as equations, by program (decomp.py).
-/
import Derived.Test.YtneahmpmicoplaaGreatDoorClT
set_option linter.unusedVariables false
set_option linter.unusedSimpArgs false
set_option maxRecDepth 100000
namespace Go.Proofs.YtneahmpmicoplaaGreatDoor.cl
open Go Go.AM
/-- grammarlab/grammarlablaw04.ClosureFinds -/
theorem b4 (d0 : List TypeDecl) (code1 : List Int) (i2 : Int) {r : Out}
  (h : (
    callE (Rn 17 [(.pv (.lst 3 (List.map TypeDecl.enc d0))), (.pv (.int .u8 i2)), (.pv (.int .u8 0))] []) fun r202 => asE R17.enc r202 fun y201 =>
    bif (!y201.2.2.2) then (
      callE (Rn 13 [] []) fun r204 => asE R13.enc r204 fun y203 =>
      some ((.bool y203), []))
    else (
      bif (decide ((List.length (List.map (eInt .u64) code1) : Int) > 70)) then (
        callE (Rn 13 [] []) fun r206 => asE R13.enc r206 fun y205 =>
        some ((.bool y205), []))
      else (
        callE (Rn 18 [(.pv (.lst 2 (List.map Coded.enc y201.1))), (.pv (.lst 1 (List.map (eInt .u64) code1)))] []) fun r208 => asE R18.enc r208 fun y207 =>
        callE (Rn 19 [(.pv (.lst 2 (List.map Coded.enc y201.1))), (.pv (.lst 1 (List.map (eInt .u64) code1)))] []) fun r210 => asE R19.enc r210 fun y209 =>
        bif (y207 == y209) then (
          getK (List.map Coded.enc y201.1) y201.2.1 fun c212 => asE Coded.enc c212 fun x211 =>
          check ((List.length (List.map (eInt .u64) []) + List.length (List.map (eInt .u64) x211.Code)) * 8 ≤ 140737488355328 ∧ List.length (List.map (eInt .u64) []) + List.length (List.map (eInt .u64) x211.Code) ≤ 4611686018427387904) (
          check ((List.length ((List.map (eInt .u64) []) ++ (List.map (eInt .u64) x211.Code)) + List.length (List.map (eInt .u64) [0])) * 8 ≤ 140737488355328 ∧ List.length ((List.map (eInt .u64) []) ++ (List.map (eInt .u64) x211.Code)) + List.length (List.map (eInt .u64) [0]) ≤ 4611686018427387904) (
          callE (Rn 18 [(.pv (.lst 2 (List.map Coded.enc y201.1))), (.pv (.lst 1 (((List.map (eInt .u64) []) ++ (List.map (eInt .u64) x211.Code)) ++ (List.map (eInt .u64) [0]))))] []) fun r214 => asE R18.enc r214 fun y213 =>
          bif (y213 == y201.2.1) then (
            callE (Rn 13 [] []) fun r216 => asE R13.enc r216 fun y215 =>
            some ((.bool y215), []))
          else (
            some ((.bool false), [])))))
        else (
          some ((.bool false), []))))) = some r) :
  Rn 4 [(.pv (.lst 3 (List.map TypeDecl.enc d0))), (.pv (.lst 1 (List.map (eInt .u64) code1))), (.pv (.int .u8 i2))] [] = some r :=
  run_body (C := cods) rfl (Eq.trans (by kernel_rfl) h)

/-- grammarlab/grammarlablaw04.ClosureRelations -/
theorem b5 (d0 : List TypeDecl) (i1 : Int) (j2 : Int) {r : Out}
  (h : (
    callE (Rn 17 [(.pv (.lst 3 (List.map TypeDecl.enc d0))), (.pv (.int .u8 i1)), (.pv (.int .u8 j2))] []) fun r202 => asE R17.enc r202 fun y201 =>
    bif (!y201.2.2.2) then (
      callE (Rn 13 [] []) fun r204 => asE R13.enc r204 fun y203 =>
      some ((.bool y203), []))
    else (
      callE (Rn 20 [(.pv (.lst 2 (List.map Coded.enc y201.1))), (.pv (.int .i64 y201.2.1)), (.pv (.int .i64 y201.2.2.1))] []) fun r206 => asE R20.enc r206 fun y205 =>
      callE (Rn 21 [(.pv (.lst 2 (List.map Coded.enc y201.1))), (.pv (.int .i64 y201.2.1)), (.pv (.int .i64 y201.2.2.1))] []) fun r208 => asE R21.enc r208 fun y207 =>
      bif (y205 == y207) then (
        callE (Rn 22 [(.pv (.lst 2 (List.map Coded.enc y201.1))), (.pv (.int .i64 y201.2.1)), (.pv (.int .i64 y201.2.2.1))] []) fun r210 => asE R22.enc r210 fun y209 =>
        callE (Rn 23 [(.pv (.lst 2 (List.map Coded.enc y201.1))), (.pv (.int .i64 y201.2.1)), (.pv (.int .i64 y201.2.2.1))] []) fun r212 => asE R23.enc r212 fun y211 =>
        bif (y209 == y211) then (
          callE (Rn 24 [(.pv (.lst 2 (List.map Coded.enc y201.1))), (.pv (.int .i64 y201.2.1)), (.pv (.int .i64 y201.2.2.1))] []) fun r214 => asE R24.enc r214 fun y213 =>
          callE (Rn 25 [(.pv (.lst 2 (List.map Coded.enc y201.1))), (.pv (.int .i64 y201.2.1)), (.pv (.int .i64 y201.2.2.1))] []) fun r216 => asE R25.enc r216 fun y215 =>
          bif (y213 == y215) then (
            callE (Rn 27 [(.pv (.lst 2 (List.map Coded.enc y201.1))), (.pv (.int .i64 y201.2.1))] []) fun r218 => asE R27.enc r218 fun y217 =>
            callE (Rn 28 [(.pv (.lst 2 (List.map Coded.enc y201.1))), (.pv (.int .i64 y201.2.1))] []) fun r220 => asE R28.enc r220 fun y219 =>
            callE (Rn 26 [(.pv (.lst 1 (List.map (eInt .i64) y217))), (.pv (.lst 1 (List.map (eInt .i64) y219)))] []) fun r222 => asE R26.enc r222 fun y221 =>
            bif y221 then (
              callE (Rn 13 [] []) fun r224 => asE R13.enc r224 fun y223 =>
              some ((.bool y223), []))
            else (
              some ((.bool false), [])))
          else (
            some ((.bool false), [])))
        else (
          some ((.bool false), [])))
      else (
        some ((.bool false), [])))) = some r) :
  Rn 5 [(.pv (.lst 3 (List.map TypeDecl.enc d0))), (.pv (.int .u8 i1)), (.pv (.int .u8 j2))] [] = some r :=
  run_body (C := cods) rfl (Eq.trans (by kernel_rfl) h)

/-- grammarlab/grammarlablaw04.ClosureLaws -/
theorem b8 (d0 : List TypeDecl) (a1_0 : Int) (a1_1 : Int) (a1_2 : Int) {r : Out}
  (h : (
    callE (Rn 17 [(.pv (.lst 3 (List.map TypeDecl.enc d0))), (.pv (.int .u8 a1_0)), (.pv (.int .u8 a1_1))] []) fun r202 => asE R17.enc r202 fun y201 =>
    bif (!y201.2.2.2) then (
      callE (Rn 13 [] []) fun r204 => asE R13.enc r204 fun y203 =>
      some ((.bool y203), []))
    else (
      check ((List.length (List.map Coded.enc y201.1) : Int) ≠ 0) (
      callE (Rn 20 [(.pv (.lst 2 (List.map Coded.enc y201.1))), (.pv (.int .i64 y201.2.1)), (.pv (.int .i64 y201.2.2.1))] []) fun r206 => asE R20.enc r206 fun y205 =>
      callE (Rn 22 [(.pv (.lst 2 (List.map Coded.enc y201.1))), (.pv (.int .i64 y201.2.1)), (.pv (.int .i64 y201.2.2.1))] []) fun r208 => asE R22.enc r208 fun y207 =>
      callE (Rn 22 [(.pv (.lst 2 (List.map Coded.enc y201.1))), (.pv (.int .i64 y201.2.2.1)), (.pv (.int .i64 (Int.tmod (IntKind.wrap .i64 (a1_2)) (List.length (List.map Coded.enc y201.1) : Int))))] []) fun r210 => asE R22.enc r210 fun y209 =>
      bif (decide (y207 < 0)) then (
        some ((.bool false), []))
      else (
        bif (decide (y207 ≥ (List.length (List.map Coded.enc y201.1) : Int))) then (
          some ((.bool false), []))
        else (
          bif (decide (y209 < 0)) then (
            some ((.bool false), []))
          else (
            bif (decide (y209 ≥ (List.length (List.map Coded.enc y201.1) : Int))) then (
              some ((.bool false), []))
            else (
              callE (Rn 20 [(.pv (.lst 2 (List.map Coded.enc y201.1))), (.pv (.int .i64 y201.2.2.1)), (.pv (.int .i64 y201.2.1))] []) fun r212 => asE R20.enc r212 fun y211 =>
              bif (y205 != y211) then (
                some ((.bool false), []))
              else (
                callE (Rn 22 [(.pv (.lst 2 (List.map Coded.enc y201.1))), (.pv (.int .i64 y201.2.2.1)), (.pv (.int .i64 y201.2.1))] []) fun r214 => asE R22.enc r214 fun y213 =>
                bif (y207 != y213) then (
                  some ((.bool false), []))
                else (
                  callE (Rn 20 [(.pv (.lst 2 (List.map Coded.enc y201.1))), (.pv (.int .i64 y201.2.1)), (.pv (.int .i64 y201.2.1))] []) fun r216 => asE R20.enc r216 fun y215 =>
                  bif (y215 != y201.2.1) then (
                    some ((.bool false), []))
                  else (
                    callE (Rn 22 [(.pv (.lst 2 (List.map Coded.enc y201.1))), (.pv (.int .i64 y201.2.1)), (.pv (.int .i64 y201.2.1))] []) fun r218 => asE R22.enc r218 fun y217 =>
                    bif (y217 != y201.2.1) then (
                      some ((.bool false), []))
                    else (
                      callE (Rn 22 [(.pv (.lst 2 (List.map Coded.enc y201.1))), (.pv (.int .i64 y207)), (.pv (.int .i64 (Int.tmod (IntKind.wrap .i64 (a1_2)) (List.length (List.map Coded.enc y201.1) : Int))))] []) fun r220 => asE R22.enc r220 fun y219 =>
                      callE (Rn 22 [(.pv (.lst 2 (List.map Coded.enc y201.1))), (.pv (.int .i64 y201.2.1)), (.pv (.int .i64 y209))] []) fun r222 => asE R22.enc r222 fun y221 =>
                      bif (y219 != y221) then (
                        some ((.bool false), []))
                      else (
                        callE (Rn 33 [(.pv (.lst 2 (List.map Coded.enc y201.1))), (.pv (.int .i64 y201.2.1)), (.pv (.int .i64 y201.2.2.1)), (.pv (.int .i64 (Int.tmod (IntKind.wrap .i64 (a1_2)) (List.length (List.map Coded.enc y201.1) : Int))))] []) fun r224 => asE R33.enc r224 fun y223 =>
                        callE (Rn 33 [(.pv (.lst 2 (List.map Coded.enc y201.1))), (.pv (.int .i64 y201.2.2.1)), (.pv (.int .i64 (Int.tmod (IntKind.wrap .i64 (a1_2)) (List.length (List.map Coded.enc y201.1) : Int)))), (.pv (.int .i64 y201.2.1))] []) fun r226 => asE R33.enc r226 fun y225 =>
                        bif (y223 != y225) then (
                          some ((.bool false), []))
                        else (
                          callE (Rn 24 [(.pv (.lst 2 (List.map Coded.enc y201.1))), (.pv (.int .i64 y201.2.1)), (.pv (.int .i64 y201.2.2.1))] []) fun r228 => asE R24.enc r228 fun y227 =>
                          bif (y227 == (y205 == y201.2.2.1)) then (
                            bif (y227 == (y207 == y201.2.1)) then (
                              callE (Rn 13 [] []) fun r230 => asE R13.enc r230 fun y229 =>
                              some ((.bool y229), []))
                            else (
                              some ((.bool false), [])))
                          else (
                            some ((.bool false), []))))))))))))))) = some r) :
  Rn 8 [(.pv (.lst 3 (List.map TypeDecl.enc d0))), (.pv (.agg [(.int .u8 a1_0), (.int .u8 a1_1), (.int .u8 a1_2)]))] [] = some r :=
  run_body (C := cods) rfl (Eq.trans (by kernel_rfl) h)

/-- grammarlab/grammarlablaw04.ClosureChains -/
theorem b9 (d0 : List TypeDecl) (i1 : Int) {r : Out}
  (h : (
    callE (Rn 17 [(.pv (.lst 3 (List.map TypeDecl.enc d0))), (.pv (.int .u8 i1)), (.pv (.int .u8 0))] []) fun r202 => asE R17.enc r202 fun y201 =>
    bif (!y201.2.2.2) then (
      callE (Rn 13 [] []) fun r204 => asE R13.enc r204 fun y203 =>
      some ((.bool y203), []))
    else (
      check (0 ≤ (List.length (List.map Coded.enc y201.1) : Int) ∧ (List.length (List.map Coded.enc y201.1) : Int) ≤ (List.length (List.map Coded.enc y201.1) : Int) ∧ 1 * Int.toNat (List.length (List.map Coded.enc y201.1) : Int) ≤ 281474976710656 ∧ (List.length (List.map Coded.enc y201.1) : Int) ≤ 9223372036854775807) (
      check (0 ≤ y201.2.1 ∧ Int.toNat y201.2.1 < List.length (List.replicate (Int.toNat (List.length (List.map Coded.enc y201.1) : Int)) (eBool false))) (
      getN (List.replicate (Int.toNat (List.length (List.map Coded.enc y201.1) : Int)) (eBool false)) (Int.toNat y201.2.1) fun c206 => asE eBool c206 fun x205 =>
      headT P cods H prim 9 8 [] [(5, (.pv (.lst 2 (List.map Coded.enc y201.1)))), (6, (.pv (.int .i64 y201.2.1))), (9, (.row 29)), (10, (.row 34)), (11, (.pv (.int .i64 0)))] [(29, (.row 4 1 ((List.replicate (Int.toNat (List.length (List.map Coded.enc y201.1) : Int)) (eBool false)).set (Int.toNat y201.2.1) (eBool true)))), (34, (.row 3 1 (List.map (eInt .i64) [y201.2.1])))])))) = some r) :
  Rn 9 [(.pv (.lst 3 (List.map TypeDecl.enc d0))), (.pv (.int .u8 i1))] [] = some r :=
  run_body (C := cods) rfl (Eq.trans (by kernel_rfl) h)

/-- grammarlab/grammarlablaw04.ClosureChains, loop 8 -/
theorem L9_8 (l5 : List Coded) (a6 : Int) (n11 : Int) (o29 : List Bool) (o34 : List Int) {r : Out}
  (h : (
    bif (decide (n11 < (List.length (List.map (eInt .i64) o34) : Int))) then (
      check (0 ≤ n11 ∧ Int.toNat n11 < List.length (List.map (eInt .i64) o34)) (
      getN (List.map (eInt .i64) o34) (Int.toNat n11) fun c202 => asE (eInt .i64) c202 fun x201 =>
      callE (Rn 27 [(.pv (.lst 2 (List.map Coded.enc l5))), (.pv (.int .i64 x201))] []) fun r204 => asE R27.enc r204 fun y203 =>
      bif ((List.length (List.map (eInt .i64) y203) : Int) == 0) then (
        check (0 ≤ n11 ∧ Int.toNat n11 < List.length (List.map (eInt .i64) o34)) (
        getN (List.map (eInt .i64) o34) (Int.toNat n11) fun c206 => asE (eInt .i64) c206 fun x205 =>
        bif (x205 != 0) then (
          some ((.bool false), []))
        else (
          bif (decide ((List.length (List.map (eInt .i64) y203) : Int) > 0)) then (
            check (0 ≤ n11 ∧ Int.toNat n11 < List.length (List.map (eInt .i64) o34)) (
            getN (List.map (eInt .i64) o34) (Int.toNat n11) fun c208 => asE (eInt .i64) c208 fun x207 =>
            bif (x207 == 0) then (
              some ((.bool false), []))
            else (
              headT P cods H prim 9 14 [] [(5, (.pv (.lst 2 (List.map Coded.enc l5)))), (6, (.pv (.int .i64 a6))), (9, (.row 29)), (10, (.row 34)), (11, (.pv (.int .i64 n11))), (69, (.pv (.lst 1 (List.map (eInt .i64) y203)))), (70, (.pv (.int .i64 (List.length (List.map (eInt .i64) y203) : Int)))), (71, (.pv (.int .i64 0)))] [(29, (.row 4 1 (List.map eBool o29))), (34, (.row 3 1 (List.map (eInt .i64) o34)))])))
          else (
            headT P cods H prim 9 14 [] [(5, (.pv (.lst 2 (List.map Coded.enc l5)))), (6, (.pv (.int .i64 a6))), (9, (.row 29)), (10, (.row 34)), (11, (.pv (.int .i64 n11))), (69, (.pv (.lst 1 (List.map (eInt .i64) y203)))), (70, (.pv (.int .i64 (List.length (List.map (eInt .i64) y203) : Int)))), (71, (.pv (.int .i64 0)))] [(29, (.row 4 1 (List.map eBool o29))), (34, (.row 3 1 (List.map (eInt .i64) o34)))]))))
      else (
        bif (decide ((List.length (List.map (eInt .i64) y203) : Int) > 0)) then (
          check (0 ≤ n11 ∧ Int.toNat n11 < List.length (List.map (eInt .i64) o34)) (
          getN (List.map (eInt .i64) o34) (Int.toNat n11) fun c210 => asE (eInt .i64) c210 fun x209 =>
          bif (x209 == 0) then (
            some ((.bool false), []))
          else (
            headT P cods H prim 9 14 [] [(5, (.pv (.lst 2 (List.map Coded.enc l5)))), (6, (.pv (.int .i64 a6))), (9, (.row 29)), (10, (.row 34)), (11, (.pv (.int .i64 n11))), (69, (.pv (.lst 1 (List.map (eInt .i64) y203)))), (70, (.pv (.int .i64 (List.length (List.map (eInt .i64) y203) : Int)))), (71, (.pv (.int .i64 0)))] [(29, (.row 4 1 (List.map eBool o29))), (34, (.row 3 1 (List.map (eInt .i64) o34)))])))
        else (
          headT P cods H prim 9 14 [] [(5, (.pv (.lst 2 (List.map Coded.enc l5)))), (6, (.pv (.int .i64 a6))), (9, (.row 29)), (10, (.row 34)), (11, (.pv (.int .i64 n11))), (69, (.pv (.lst 1 (List.map (eInt .i64) y203)))), (70, (.pv (.int .i64 (List.length (List.map (eInt .i64) y203) : Int)))), (71, (.pv (.int .i64 0)))] [(29, (.row 4 1 (List.map eBool o29))), (34, (.row 3 1 (List.map (eInt .i64) o34)))]))))
    else (
      headT P cods H prim 9 23 [] [(5, (.pv (.lst 2 (List.map Coded.enc l5)))), (6, (.pv (.int .i64 a6))), (9, (.row 29)), (99, (.pv (.int .i64 (List.length (List.map Coded.enc l5) : Int)))), (100, (.pv (.int .i64 0)))] [(29, (.row 4 1 (List.map eBool o29)))])) = some r) :
  headT P cods H prim 9 8 [] [(5, (.pv (.lst 2 (List.map Coded.enc l5)))), (6, (.pv (.int .i64 a6))), (9, (.row 29)), (10, (.row 34)), (11, (.pv (.int .i64 n11)))] [(29, (.row 4 1 (List.map eBool o29))), (34, (.row 3 1 (List.map (eInt .i64) o34)))] = some r :=
  head_round (Eq.trans (by kernel_rfl) h)

/-- grammarlab/grammarlablaw04.ClosureChains, loop 14 -/
theorem L9_14 (l5 : List Coded) (a6 : Int) (n11 : Int) (v69 : List Int) (v70 : Int) (v71 : Int) (o29 : List Bool) (o34 : List Int) {r : Out}
  (h : (
    bif (decide (v71 < v70)) then (
      getK (List.map (eInt .i64) v69) v71 fun c202 => asE (eInt .i64) c202 fun x201 =>
      bif (decide (x201 < 0)) then (
        some ((.bool false), []))
      else (
        check (0 ≤ n11 ∧ Int.toNat n11 < List.length (List.map (eInt .i64) o34)) (
        getN (List.map (eInt .i64) o34) (Int.toNat n11) fun c204 => asE (eInt .i64) c204 fun x203 =>
        bif (decide (x201 ≥ x203)) then (
          some ((.bool false), []))
        else (
          check (0 ≤ x201 ∧ Int.toNat x201 < List.length (List.map eBool o29)) (
          getN (List.map eBool o29) (Int.toNat x201) fun c206 => asE eBool c206 fun x205 =>
          bif (!x205) then (
            check (0 ≤ x201 ∧ Int.toNat x201 < List.length (List.map eBool o29)) (
            getN (List.map eBool o29) (Int.toNat x201) fun c208 => asE eBool c208 fun x207 =>
            check ((List.length (List.map (eInt .i64) o34) + List.length (List.map (eInt .i64) [x201])) * 8 ≤ 140737488355328 ∧ List.length (List.map (eInt .i64) o34) + List.length (List.map (eInt .i64) [x201]) ≤ 4611686018427387904) (
            headT P cods H prim 9 14 [] [(5, (.pv (.lst 2 (List.map Coded.enc l5)))), (6, (.pv (.int .i64 a6))), (9, (.row 29)), (10, (.row 34)), (11, (.pv (.int .i64 n11))), (69, (.pv (.lst 1 (List.map (eInt .i64) v69)))), (70, (.pv (.int .i64 v70))), (71, (.pv (.int .i64 (IntKind.wrap .i64 (v71 + 1)))))] [(29, (.row 4 1 ((List.map eBool o29).set (Int.toNat x201) (eBool true)))), (34, (.row 3 1 ((List.map (eInt .i64) o34) ++ (List.map (eInt .i64) [x201]))))])))
          else (
            headT P cods H prim 9 14 [] [(5, (.pv (.lst 2 (List.map Coded.enc l5)))), (6, (.pv (.int .i64 a6))), (9, (.row 29)), (10, (.row 34)), (11, (.pv (.int .i64 n11))), (69, (.pv (.lst 1 (List.map (eInt .i64) v69)))), (70, (.pv (.int .i64 v70))), (71, (.pv (.int .i64 (IntKind.wrap .i64 (v71 + 1)))))] [(29, (.row 4 1 (List.map eBool o29))), (34, (.row 3 1 (List.map (eInt .i64) o34)))]))))))
    else (
      headT P cods H prim 9 8 [] [(5, (.pv (.lst 2 (List.map Coded.enc l5)))), (6, (.pv (.int .i64 a6))), (9, (.row 29)), (10, (.row 34)), (11, (.pv (.int .i64 (IntKind.wrap .i64 (n11 + 1)))))] [(29, (.row 4 1 (List.map eBool o29))), (34, (.row 3 1 (List.map (eInt .i64) o34)))])) = some r) :
  headT P cods H prim 9 14 [] [(5, (.pv (.lst 2 (List.map Coded.enc l5)))), (6, (.pv (.int .i64 a6))), (9, (.row 29)), (10, (.row 34)), (11, (.pv (.int .i64 n11))), (69, (.pv (.lst 1 (List.map (eInt .i64) v69)))), (70, (.pv (.int .i64 v70))), (71, (.pv (.int .i64 v71)))] [(29, (.row 4 1 (List.map eBool o29))), (34, (.row 3 1 (List.map (eInt .i64) o34)))] = some r :=
  head_round (Eq.trans (by kernel_rfl) h)

/-- grammarlab/grammarlablaw04.ClosureChains, loop 23 -/
theorem L9_23 (l5 : List Coded) (a6 : Int) (v99 : Int) (v100 : Int) (o29 : List Bool) {r : Out}
  (h : (
    bif (decide (v100 < v99)) then (
      check (0 ≤ v100 ∧ Int.toNat v100 < List.length (List.map eBool o29)) (
      getN (List.map eBool o29) (Int.toNat v100) fun c202 => asE eBool c202 fun x201 =>
      callE (Rn 24 [(.pv (.lst 2 (List.map Coded.enc l5))), (.pv (.int .i64 v100)), (.pv (.int .i64 a6))] []) fun r204 => asE R24.enc r204 fun y203 =>
      bif (!(x201 == y203)) then (
        some ((.bool false), []))
      else (
        headT P cods H prim 9 23 [] [(5, (.pv (.lst 2 (List.map Coded.enc l5)))), (6, (.pv (.int .i64 a6))), (9, (.row 29)), (99, (.pv (.int .i64 v99))), (100, (.pv (.int .i64 (IntKind.wrap .i64 (v100 + 1)))))] [(29, (.row 4 1 (List.map eBool o29)))])))
    else (
      callE (Rn 13 [] []) fun r206 => asE R13.enc r206 fun y205 =>
      some ((.bool y205), []))) = some r) :
  headT P cods H prim 9 23 [] [(5, (.pv (.lst 2 (List.map Coded.enc l5)))), (6, (.pv (.int .i64 a6))), (9, (.row 29)), (99, (.pv (.int .i64 v99))), (100, (.pv (.int .i64 v100)))] [(29, (.row 4 1 (List.map eBool o29)))] = some r :=
  head_round (Eq.trans (by kernel_rfl) h)

/-- grammarlab/grammarlablaw04.light -/
theorem b12 (d0 : List TypeDecl) {r : Out}
  (h : (
    callE (Rn 38 [(.pv (.lst 3 (List.map TypeDecl.enc d0)))] []) fun r202 => asE R38.enc r202 fun y201 =>
    bif y201 then (
      some ((.bool (decide ((List.length (List.map TypeDecl.enc d0) : Int) ≤ 12))), []))
    else (
      some ((.bool false), []))) = some r) :
  Rn 12 [(.pv (.lst 3 (List.map TypeDecl.enc d0)))] [] = some r :=
  run_body (C := cods) rfl (Eq.trans (by kernel_rfl) h)

/-- grammarlab/grammarlabref04.Codes -/
theorem b15 (d0 : List TypeDecl) {r : Out}
  (h : (
    callE (Rn 32 [(.pv (.lst 3 (List.map TypeDecl.enc d0)))] []) fun r202 => asE R32.enc r202 fun y201 =>
    bif (y201 != 0) then (
      some ((.tup [(.lst 2 (List.map Coded.enc [])), (.int .i64 y201)]), []))
    else (
      callE (Rn 52 [(.pv (.lst 3 (List.map TypeDecl.enc d0)))] []) fun r204 => asE R52.enc r204 fun y203 =>
      headT P cods H prim 15 7 [] [(0, (.pv (.lst 3 (List.map TypeDecl.enc d0)))), (5, (.pv (.lst 1 (List.map eStr y203)))), (6, (.row 6)), (7, (.pv (.int .i64 0)))] [(6, (.row 31 1 (List.map (eLst 1 (eInt .u64)) [])))])) = some r) :
  Rn 15 [(.pv (.lst 3 (List.map TypeDecl.enc d0)))] [] = some r :=
  run_body (C := cods) rfl (Eq.trans (by kernel_rfl) h)

/-- grammarlab/grammarlabref04.Codes, loop 7 -/
theorem L15_7 (d0 : List TypeDecl) (all5 : List (List UInt8)) (i7 : Int) (o6 : List (List Int)) {r : Out}
  (h : (
    bif (decide (i7 < (List.length (List.map eStr all5) : Int))) then (
      getK (List.map eStr all5) i7 fun c202 => asE eStr c202 fun x201 =>
      callE (Rn 53 [(.pv (.lst 3 (List.map TypeDecl.enc d0))), (.pv (.lst 1 (List.map eStr all5))), (.pv (.str x201))] []) fun r204 => asE R53.enc r204 fun y203 =>
      check ((List.length (List.map (eLst 1 (eInt .u64)) o6) + List.length (List.map (eLst 1 (eInt .u64)) [y203])) * 24 ≤ 140737488355328 ∧ List.length (List.map (eLst 1 (eInt .u64)) o6) + List.length (List.map (eLst 1 (eInt .u64)) [y203]) ≤ 4611686018427387904) (
      headT P cods H prim 15 7 [] [(0, (.pv (.lst 3 (List.map TypeDecl.enc d0)))), (5, (.pv (.lst 1 (List.map eStr all5)))), (6, (.row 6)), (7, (.pv (.int .i64 (IntKind.wrap .i64 (i7 + 1)))))] [(6, (.row 31 1 ((List.map (eLst 1 (eInt .u64)) o6) ++ (List.map (eLst 1 (eInt .u64)) [y203]))))]))
    else (
      callE (Rn 54 [(.pv (.lst 1 (List.map (eLst 1 (eInt .u64)) o6)))] []) fun r206 => asE R54.enc r206 fun y205 =>
      callE (Rn 54 [(.pv (.lst 1 (List.map (eLst 1 (eInt .u64)) o6)))] []) fun r208 => asE R54.enc r208 fun y207 =>
      bif (decide ((List.length (List.map (eLst 1 (eInt .u64)) y207) : Int) > 256)) then (
        some ((.tup [(.lst 2 (List.map Coded.enc [])), (.int .i64 7)]), []))
      else (
        headT P cods H prim 15 15 [] [(0, (.pv (.lst 3 (List.map TypeDecl.enc d0)))), (5, (.pv (.lst 1 (List.map eStr all5)))), (6, (.pv (.lst 1 (List.map (eLst 1 (eInt .u64)) o6)))), (8, (.pv (.lst 1 (List.map (eLst 1 (eInt .u64)) y207)))), (9, (.pv (.lst 2 (List.map Coded.enc [])))), (10, (.pv (.int .i64 0)))] []))) = some r) :
  headT P cods H prim 15 7 [] [(0, (.pv (.lst 3 (List.map TypeDecl.enc d0)))), (5, (.pv (.lst 1 (List.map eStr all5)))), (6, (.row 6)), (7, (.pv (.int .i64 i7)))] [(6, (.row 31 1 (List.map (eLst 1 (eInt .u64)) o6)))] = some r :=
  head_round (Eq.trans (by kernel_rfl) h)

/-- grammarlab/grammarlabref04.Codes, loop 15 -/
theorem L15_15 (d0 : List TypeDecl) (all5 : List (List UInt8)) (codes6 : List (List Int)) (f8 : List (List Int)) (out9 : List Coded) (i10 : Int) {r : Out}
  (h : (
    bif (decide (i10 < (List.length (List.map (eLst 1 (eInt .u64)) f8) : Int))) then (
      getK (List.map (eLst 1 (eInt .u64)) f8) i10 fun c202 => asE (eLst 1 (eInt .u64)) c202 fun x201 =>
      callE (Rn 55 [(.pv (.lst 3 (List.map TypeDecl.enc d0))), (.pv (.lst 1 (List.map eStr all5))), (.pv (.lst 1 (List.map (eLst 1 (eInt .u64)) codes6))), (.pv (.lst 1 (List.map (eInt .u64) x201)))] []) fun r204 => asE R55.enc r204 fun y203 =>
      getK (List.map (eLst 1 (eInt .u64)) f8) i10 fun c206 => asE (eLst 1 (eInt .u64)) c206 fun x205 =>
      headT P cods H prim 15 19 [] [(0, (.pv (.lst 3 (List.map TypeDecl.enc d0)))), (5, (.pv (.lst 1 (List.map eStr all5)))), (6, (.pv (.lst 1 (List.map (eLst 1 (eInt .u64)) codes6)))), (8, (.pv (.lst 1 (List.map (eLst 1 (eInt .u64)) f8)))), (9, (.pv (.lst 2 (List.map Coded.enc out9)))), (10, (.pv (.int .i64 i10))), (11, (.ptr 11 0)), (12, (.pv (.int .i64 (List.length (List.map Coded.enc out9) : Int))))] [(11, (.box 36 (List.map .pv (Coded.enc (Coded.mk y203 x205)))))])
    else (
      some ((.tup [(.lst 2 (List.map Coded.enc out9)), (.int .i64 0)]), []))) = some r) :
  headT P cods H prim 15 15 [] [(0, (.pv (.lst 3 (List.map TypeDecl.enc d0)))), (5, (.pv (.lst 1 (List.map eStr all5)))), (6, (.pv (.lst 1 (List.map (eLst 1 (eInt .u64)) codes6)))), (8, (.pv (.lst 1 (List.map (eLst 1 (eInt .u64)) f8)))), (9, (.pv (.lst 2 (List.map Coded.enc out9)))), (10, (.pv (.int .i64 i10)))] [] = some r :=
  head_round (Eq.trans (by kernel_rfl) h)

/-- grammarlab/grammarlabref04.Codes, loop 19 -/
theorem L15_19 (d0 : List TypeDecl) (all5 : List (List UInt8)) (codes6 : List (List Int)) (f8 : List (List Int)) (out9 : List Coded) (i10 : Int) (v12 : Int) (o11 : Coded) {r : Out}
  (h : (
    bif (decide (v12 > 0)) then (
      getK (List.map Coded.enc out9) (IntKind.wrap .i64 (v12 - 1)) fun c202 => asE Coded.enc c202 fun x201 =>
      callE (Rn 56 [(.pv (.agg (Coded.enc o11))), (.pv (.agg (Coded.enc x201)))] []) fun r204 => asE R56.enc r204 fun y203 =>
      bif y203 then (
        headT P cods H prim 15 19 [] [(0, (.pv (.lst 3 (List.map TypeDecl.enc d0)))), (5, (.pv (.lst 1 (List.map eStr all5)))), (6, (.pv (.lst 1 (List.map (eLst 1 (eInt .u64)) codes6)))), (8, (.pv (.lst 1 (List.map (eLst 1 (eInt .u64)) f8)))), (9, (.pv (.lst 2 (List.map Coded.enc out9)))), (10, (.pv (.int .i64 i10))), (11, (.ptr 11 0)), (12, (.pv (.int .i64 (IntKind.wrap .i64 (v12 - 1)))))] [(11, (.box 36 (List.map .pv (Coded.enc o11))))])
      else (
        check (0 ≤ v12 ∧ v12 ≤ (List.length (List.map Coded.enc out9) : Nat)) (
        check ((List.length (List.map Coded.enc []) + List.length (((List.map Coded.enc out9).take (Int.toNat v12)).drop 0)) * 40 ≤ 140737488355328 ∧ List.length (List.map Coded.enc []) + List.length (((List.map Coded.enc out9).take (Int.toNat v12)).drop 0) ≤ 4611686018427387904) (
        check ((List.length ((List.map Coded.enc []) ++ (((List.map Coded.enc out9).take (Int.toNat v12)).drop 0)) + List.length (List.map Coded.enc [o11])) * 40 ≤ 140737488355328 ∧ List.length ((List.map Coded.enc []) ++ (((List.map Coded.enc out9).take (Int.toNat v12)).drop 0)) + List.length (List.map Coded.enc [o11]) ≤ 4611686018427387904) (
        check (0 ≤ v12 ∧ v12 ≤ (List.length (List.map Coded.enc out9) : Nat)) (
        check ((List.length (((List.map Coded.enc []) ++ (((List.map Coded.enc out9).take (Int.toNat v12)).drop 0)) ++ (List.map Coded.enc [o11])) + List.length (((List.map Coded.enc out9).take (List.length (List.map Coded.enc out9))).drop (Int.toNat v12))) * 40 ≤ 140737488355328 ∧ List.length (((List.map Coded.enc []) ++ (((List.map Coded.enc out9).take (Int.toNat v12)).drop 0)) ++ (List.map Coded.enc [o11])) + List.length (((List.map Coded.enc out9).take (List.length (List.map Coded.enc out9))).drop (Int.toNat v12)) ≤ 4611686018427387904) (
        headT P cods H prim 15 15 [] [(0, (.pv (.lst 3 (List.map TypeDecl.enc d0)))), (5, (.pv (.lst 1 (List.map eStr all5)))), (6, (.pv (.lst 1 (List.map (eLst 1 (eInt .u64)) codes6)))), (8, (.pv (.lst 1 (List.map (eLst 1 (eInt .u64)) f8)))), (9, (.pv (.lst 2 ((((List.map Coded.enc []) ++ (((List.map Coded.enc out9).take (Int.toNat v12)).drop 0)) ++ (List.map Coded.enc [o11])) ++ (((List.map Coded.enc out9).take (List.length (List.map Coded.enc out9))).drop (Int.toNat v12)))))), (10, (.pv (.int .i64 (IntKind.wrap .i64 (i10 + 1)))))] [])))))))
    else (
      check (0 ≤ v12 ∧ v12 ≤ (List.length (List.map Coded.enc out9) : Nat)) (
      check ((List.length (List.map Coded.enc []) + List.length (((List.map Coded.enc out9).take (Int.toNat v12)).drop 0)) * 40 ≤ 140737488355328 ∧ List.length (List.map Coded.enc []) + List.length (((List.map Coded.enc out9).take (Int.toNat v12)).drop 0) ≤ 4611686018427387904) (
      check ((List.length ((List.map Coded.enc []) ++ (((List.map Coded.enc out9).take (Int.toNat v12)).drop 0)) + List.length (List.map Coded.enc [o11])) * 40 ≤ 140737488355328 ∧ List.length ((List.map Coded.enc []) ++ (((List.map Coded.enc out9).take (Int.toNat v12)).drop 0)) + List.length (List.map Coded.enc [o11]) ≤ 4611686018427387904) (
      check (0 ≤ v12 ∧ v12 ≤ (List.length (List.map Coded.enc out9) : Nat)) (
      check ((List.length (((List.map Coded.enc []) ++ (((List.map Coded.enc out9).take (Int.toNat v12)).drop 0)) ++ (List.map Coded.enc [o11])) + List.length (((List.map Coded.enc out9).take (List.length (List.map Coded.enc out9))).drop (Int.toNat v12))) * 40 ≤ 140737488355328 ∧ List.length (((List.map Coded.enc []) ++ (((List.map Coded.enc out9).take (Int.toNat v12)).drop 0)) ++ (List.map Coded.enc [o11])) + List.length (((List.map Coded.enc out9).take (List.length (List.map Coded.enc out9))).drop (Int.toNat v12)) ≤ 4611686018427387904) (
      headT P cods H prim 15 15 [] [(0, (.pv (.lst 3 (List.map TypeDecl.enc d0)))), (5, (.pv (.lst 1 (List.map eStr all5)))), (6, (.pv (.lst 1 (List.map (eLst 1 (eInt .u64)) codes6)))), (8, (.pv (.lst 1 (List.map (eLst 1 (eInt .u64)) f8)))), (9, (.pv (.lst 2 ((((List.map Coded.enc []) ++ (((List.map Coded.enc out9).take (Int.toNat v12)).drop 0)) ++ (List.map Coded.enc [o11])) ++ (((List.map Coded.enc out9).take (List.length (List.map Coded.enc out9))).drop (Int.toNat v12)))))), (10, (.pv (.int .i64 (IntKind.wrap .i64 (i10 + 1)))))] []))))))) = some r) :
  headT P cods H prim 15 19 [] [(0, (.pv (.lst 3 (List.map TypeDecl.enc d0)))), (5, (.pv (.lst 1 (List.map eStr all5)))), (6, (.pv (.lst 1 (List.map (eLst 1 (eInt .u64)) codes6)))), (8, (.pv (.lst 1 (List.map (eLst 1 (eInt .u64)) f8)))), (9, (.pv (.lst 2 (List.map Coded.enc out9)))), (10, (.pv (.int .i64 i10))), (11, (.ptr 11 0)), (12, (.pv (.int .i64 v12)))] [(11, (.box 36 (List.map .pv (Coded.enc o11))))] = some r :=
  head_round (Eq.trans (by kernel_rfl) h)

/-- grammarlab/grammarlablaw04.types -/
theorem b17 (d0 : List TypeDecl) (i1 : Int) (j2 : Int) {r : Out}
  (h : (
    callE (Rn 12 [(.pv (.lst 3 (List.map TypeDecl.enc d0)))] []) fun r202 => asE R12.enc r202 fun y201 =>
    bif (!y201) then (
      some ((.tup [(.lst 2 (List.map Coded.enc [])), (.int .i64 0), (.int .i64 0), (.bool false)]), []))
    else (
      callE (Rn 15 [(.pv (.lst 3 (List.map TypeDecl.enc d0)))] []) fun r204 => asE R15.enc r204 fun y203 =>
      bif (y203.2 != 0) then (
        some ((.tup [(.lst 2 (List.map Coded.enc [])), (.int .i64 0), (.int .i64 0), (.bool false)]), []))
      else (
        check ((List.length (List.map Coded.enc y203.1) : Int) ≠ 0) (
        check ((List.length (List.map Coded.enc y203.1) : Int) ≠ 0) (
        some ((.tup [(.lst 2 (List.map Coded.enc y203.1)), (.int .i64 (Int.tmod (IntKind.wrap .i64 (i1)) (List.length (List.map Coded.enc y203.1) : Int))), (.int .i64 (Int.tmod (IntKind.wrap .i64 (j2)) (List.length (List.map Coded.enc y203.1) : Int))), (.bool true)]), [])))))) = some r) :
  Rn 17 [(.pv (.lst 3 (List.map TypeDecl.enc d0))), (.pv (.int .u8 i1)), (.pv (.int .u8 j2))] [] = some r :=
  run_body (C := cods) rfl (Eq.trans (by kernel_rfl) h)

/-- grammarlab/closure.Find -/
theorem b18 (l0 : List Coded) (code1 : List Int) {r : Out}
  (h : (
    callE (Rn 58 [(.pv (.lst 2 (List.map Coded.enc l0))), (.pv (.fn 59 [(.ref [(.lst 1 (List.map (eInt .u64) code1))])]))] []) fun r202 => asE R58.enc r202 fun y201 =>
    some ((.int .i64 y201), [])) = some r) :
  Rn 18 [(.pv (.lst 2 (List.map Coded.enc l0))), (.pv (.lst 1 (List.map (eInt .u64) code1)))] [] = some r :=
  run_body (C := cods) rfl (Eq.trans (by kernel_rfl) h)

/-- grammarlab/grammarlabref04.Find -/
theorem b19 (l0 : List Coded) (b1 : List Int) {r : Out}
  (h : (
    callE (Rn 60 [(.pv (.lst 1 (List.map (eInt .u64) b1)))] []) fun r202 => asE R60.enc r202 fun y201 =>
    headT P cods H prim 19 3 [] [(0, (.pv (.lst 2 (List.map Coded.enc l0)))), (5, (.pv (.lst 1 (List.map (eInt .u64) y201)))), (6, (.pv (.int .i64 0)))] []) = some r) :
  Rn 19 [(.pv (.lst 2 (List.map Coded.enc l0))), (.pv (.lst 1 (List.map (eInt .u64) b1)))] [] = some r :=
  run_body (C := cods) rfl (Eq.trans (by kernel_rfl) h)

/-- grammarlab/grammarlabref04.Find, loop 3 -/
theorem L19_3 (l0 : List Coded) (n5 : List Int) (i6 : Int) {r : Out}
  (h : (
    bif (decide (i6 < (List.length (List.map Coded.enc l0) : Int))) then (
      getK (List.map Coded.enc l0) i6 fun c202 => asE Coded.enc c202 fun x201 =>
      callE (Rn 57 [(.pv (.lst 1 (List.map (eInt .u64) x201.Code))), (.pv (.lst 1 (List.map (eInt .u64) n5)))] []) fun r204 => asE R57.enc r204 fun y203 =>
      bif y203 then (
        some ((.int .i64 i6), []))
      else (
        headT P cods H prim 19 3 [] [(0, (.pv (.lst 2 (List.map Coded.enc l0)))), (5, (.pv (.lst 1 (List.map (eInt .u64) n5)))), (6, (.pv (.int .i64 (IntKind.wrap .i64 (i6 + 1)))))] []))
    else (
      some ((.int .i64 (-1)), []))) = some r) :
  headT P cods H prim 19 3 [] [(0, (.pv (.lst 2 (List.map Coded.enc l0)))), (5, (.pv (.lst 1 (List.map (eInt .u64) n5)))), (6, (.pv (.int .i64 i6)))] [] = some r :=
  head_round (Eq.trans (by kernel_rfl) h)

/-- grammarlab/closure.Meet -/
theorem b20 (l0 : List Coded) (i1 : Int) (j2 : Int) {r : Out}
  (h : (
    getK (List.map Coded.enc l0) i1 fun c202 => asE Coded.enc c202 fun x201 =>
    getK (List.map Coded.enc l0) j2 fun c204 => asE Coded.enc c204 fun x203 =>
    callE (Rn 29 [(.pv (.lst 1 (List.map (eInt .u64) x201.Code))), (.pv (.lst 1 (List.map (eInt .u64) x203.Code)))] []) fun r206 => asE R29.enc r206 fun y205 =>
    callE (Rn 18 [(.pv (.lst 2 (List.map Coded.enc l0))), (.pv (.lst 1 (List.map (eInt .u64) y205)))] []) fun r208 => asE R18.enc r208 fun y207 =>
    some ((.int .i64 y207), [])) = some r) :
  Rn 20 [(.pv (.lst 2 (List.map Coded.enc l0))), (.pv (.int .i64 i1)), (.pv (.int .i64 j2))] [] = some r :=
  run_body (C := cods) rfl (Eq.trans (by kernel_rfl) h)

/-- grammarlab/grammarlabref04.Meet -/
theorem b21 (l0 : List Coded) (i1 : Int) (j2 : Int) {r : Out}
  (h : (
    getK (List.map Coded.enc l0) i1 fun c202 => asE Coded.enc c202 fun x201 =>
    getK (List.map Coded.enc l0) j2 fun c204 => asE Coded.enc c204 fun x203 =>
    callE (Rn 61 [(.pv (.lst 1 (List.map (eInt .u64) x201.Code))), (.pv (.lst 1 (List.map (eInt .u64) x203.Code)))] []) fun r206 => asE R61.enc r206 fun y205 =>
    callE (Rn 19 [(.pv (.lst 2 (List.map Coded.enc l0))), (.pv (.lst 1 (List.map (eInt .u64) y205)))] []) fun r208 => asE R19.enc r208 fun y207 =>
    some ((.int .i64 y207), [])) = some r) :
  Rn 21 [(.pv (.lst 2 (List.map Coded.enc l0))), (.pv (.int .i64 i1)), (.pv (.int .i64 j2))] [] = some r :=
  run_body (C := cods) rfl (Eq.trans (by kernel_rfl) h)

/-- grammarlab/closure.Join -/
theorem b22 (l0 : List Coded) (i1 : Int) (j2 : Int) {r : Out}
  (h : (
    getK (List.map Coded.enc l0) i1 fun c202 => asE Coded.enc c202 fun x201 =>
    getK (List.map Coded.enc l0) j2 fun c204 => asE Coded.enc c204 fun x203 =>
    callE (Rn 62 [(.pv (.lst 1 (List.map (eInt .u64) x201.Code))), (.pv (.lst 1 (List.map (eInt .u64) x203.Code)))] []) fun r206 => asE R62.enc r206 fun y205 =>
    getK (List.map Coded.enc l0) 0 fun c208 => asE Coded.enc c208 fun x207 =>
    headT P cods H prim 22 4 [] [(0, (.pv (.lst 2 (List.map Coded.enc l0)))), (7, (.pv (.lst 1 (List.map (eInt .u64) y205)))), (8, (.pv (.lst 1 (List.map (eInt .u64) x207.Code)))), (26, (.pv (.lst 2 (List.map Coded.enc l0)))), (27, (.pv (.int .i64 (List.length (List.map Coded.enc l0) : Int)))), (28, (.pv (.int .i64 0)))] []) = some r) :
  Rn 22 [(.pv (.lst 2 (List.map Coded.enc l0))), (.pv (.int .i64 i1)), (.pv (.int .i64 j2))] [] = some r :=
  run_body (C := cods) rfl (Eq.trans (by kernel_rfl) h)

/-- grammarlab/closure.Join, loop 4 -/
theorem L22_4 (l0 : List Coded) (both7 : List Int) (out8 : List Int) (v26 : List Coded) (v27 : Int) (v28 : Int) {r : Out}
  (h : (
    bif (decide (v28 < v27)) then (
      getK (List.map Coded.enc v26) v28 fun c202 => asE Coded.enc c202 fun x201 =>
      callE (Rn 63 [(.pv (.lst 1 (List.map (eInt .u64) both7))), (.pv (.lst 1 (List.map (eInt .u64) x201.Code)))] []) fun r204 => asE R63.enc r204 fun y203 =>
      bif y203 then (
        callE (Rn 29 [(.pv (.lst 1 (List.map (eInt .u64) out8))), (.pv (.lst 1 (List.map (eInt .u64) x201.Code)))] []) fun r206 => asE R29.enc r206 fun y205 =>
        headT P cods H prim 22 4 [] [(0, (.pv (.lst 2 (List.map Coded.enc l0)))), (7, (.pv (.lst 1 (List.map (eInt .u64) both7)))), (8, (.pv (.lst 1 (List.map (eInt .u64) y205)))), (26, (.pv (.lst 2 (List.map Coded.enc v26)))), (27, (.pv (.int .i64 v27))), (28, (.pv (.int .i64 (IntKind.wrap .i64 (v28 + 1)))))] [])
      else (
        headT P cods H prim 22 4 [] [(0, (.pv (.lst 2 (List.map Coded.enc l0)))), (7, (.pv (.lst 1 (List.map (eInt .u64) both7)))), (8, (.pv (.lst 1 (List.map (eInt .u64) out8)))), (26, (.pv (.lst 2 (List.map Coded.enc v26)))), (27, (.pv (.int .i64 v27))), (28, (.pv (.int .i64 (IntKind.wrap .i64 (v28 + 1)))))] []))
    else (
      callE (Rn 18 [(.pv (.lst 2 (List.map Coded.enc l0))), (.pv (.lst 1 (List.map (eInt .u64) out8)))] []) fun r208 => asE R18.enc r208 fun y207 =>
      some ((.int .i64 y207), []))) = some r) :
  headT P cods H prim 22 4 [] [(0, (.pv (.lst 2 (List.map Coded.enc l0)))), (7, (.pv (.lst 1 (List.map (eInt .u64) both7)))), (8, (.pv (.lst 1 (List.map (eInt .u64) out8)))), (26, (.pv (.lst 2 (List.map Coded.enc v26)))), (27, (.pv (.int .i64 v27))), (28, (.pv (.int .i64 v28)))] [] = some r :=
  head_round (Eq.trans (by kernel_rfl) h)

/-- grammarlab/grammarlabref04.Join -/
theorem b23 (l0 : List Coded) (i1 : Int) (j2 : Int) {r : Out}
  (h : (
    getK (List.map Coded.enc l0) i1 fun c202 => asE Coded.enc c202 fun x201 =>
    getK (List.map Coded.enc l0) j2 fun c204 => asE Coded.enc c204 fun x203 =>
    callE (Rn 64 [(.pv (.lst 1 (List.map (eInt .u64) x201.Code))), (.pv (.lst 1 (List.map (eInt .u64) x203.Code)))] []) fun r206 => asE R64.enc r206 fun y205 =>
    getK (List.map Coded.enc l0) 0 fun c208 => asE Coded.enc c208 fun x207 =>
    headT P cods H prim 23 4 [] [(0, (.pv (.lst 2 (List.map Coded.enc l0)))), (7, (.pv (.lst 1 (List.map (eInt .u64) y205)))), (8, (.pv (.lst 1 (List.map (eInt .u64) x207.Code)))), (9, (.pv (.int .i64 0)))] []) = some r) :
  Rn 23 [(.pv (.lst 2 (List.map Coded.enc l0))), (.pv (.int .i64 i1)), (.pv (.int .i64 j2))] [] = some r :=
  run_body (C := cods) rfl (Eq.trans (by kernel_rfl) h)

/-- grammarlab/grammarlabref04.Join, loop 4 -/
theorem L23_4 (l0 : List Coded) (both7 : List Int) (b8 : List Int) (k9 : Int) {r : Out}
  (h : (
    bif (decide (k9 < (List.length (List.map Coded.enc l0) : Int))) then (
      getK (List.map Coded.enc l0) k9 fun c202 => asE Coded.enc c202 fun x201 =>
      callE (Rn 65 [(.pv (.lst 1 (List.map (eInt .u64) both7))), (.pv (.lst 1 (List.map (eInt .u64) x201.Code)))] []) fun r204 => asE R65.enc r204 fun y203 =>
      bif y203 then (
        getK (List.map Coded.enc l0) k9 fun c206 => asE Coded.enc c206 fun x205 =>
        callE (Rn 61 [(.pv (.lst 1 (List.map (eInt .u64) b8))), (.pv (.lst 1 (List.map (eInt .u64) x205.Code)))] []) fun r208 => asE R61.enc r208 fun y207 =>
        headT P cods H prim 23 4 [] [(0, (.pv (.lst 2 (List.map Coded.enc l0)))), (7, (.pv (.lst 1 (List.map (eInt .u64) both7)))), (8, (.pv (.lst 1 (List.map (eInt .u64) y207)))), (9, (.pv (.int .i64 (IntKind.wrap .i64 (k9 + 1)))))] [])
      else (
        headT P cods H prim 23 4 [] [(0, (.pv (.lst 2 (List.map Coded.enc l0)))), (7, (.pv (.lst 1 (List.map (eInt .u64) both7)))), (8, (.pv (.lst 1 (List.map (eInt .u64) b8)))), (9, (.pv (.int .i64 (IntKind.wrap .i64 (k9 + 1)))))] []))
    else (
      callE (Rn 19 [(.pv (.lst 2 (List.map Coded.enc l0))), (.pv (.lst 1 (List.map (eInt .u64) b8)))] []) fun r210 => asE R19.enc r210 fun y209 =>
      some ((.int .i64 y209), []))) = some r) :
  headT P cods H prim 23 4 [] [(0, (.pv (.lst 2 (List.map Coded.enc l0)))), (7, (.pv (.lst 1 (List.map (eInt .u64) both7)))), (8, (.pv (.lst 1 (List.map (eInt .u64) b8)))), (9, (.pv (.int .i64 k9)))] [] = some r :=
  head_round (Eq.trans (by kernel_rfl) h)

/-- grammarlab/closure.Subsumes -/
theorem b24 (l0 : List Coded) (i1 : Int) (j2 : Int) {r : Out}
  (h : (
    getK (List.map Coded.enc l0) j2 fun c202 => asE Coded.enc c202 fun x201 =>
    getK (List.map Coded.enc l0) i1 fun c204 => asE Coded.enc c204 fun x203 =>
    callE (Rn 63 [(.pv (.lst 1 (List.map (eInt .u64) x201.Code))), (.pv (.lst 1 (List.map (eInt .u64) x203.Code)))] []) fun r206 => asE R63.enc r206 fun y205 =>
    some ((.bool y205), [])) = some r) :
  Rn 24 [(.pv (.lst 2 (List.map Coded.enc l0))), (.pv (.int .i64 i1)), (.pv (.int .i64 j2))] [] = some r :=
  run_body (C := cods) rfl (Eq.trans (by kernel_rfl) h)

/-- grammarlab/grammarlabref04.Subsumes -/
theorem b25 (l0 : List Coded) (i1 : Int) (j2 : Int) {r : Out}
  (h : (
    getK (List.map Coded.enc l0) j2 fun c202 => asE Coded.enc c202 fun x201 =>
    getK (List.map Coded.enc l0) i1 fun c204 => asE Coded.enc c204 fun x203 =>
    callE (Rn 65 [(.pv (.lst 1 (List.map (eInt .u64) x201.Code))), (.pv (.lst 1 (List.map (eInt .u64) x203.Code)))] []) fun r206 => asE R65.enc r206 fun y205 =>
    some ((.bool y205), [])) = some r) :
  Rn 25 [(.pv (.lst 2 (List.map Coded.enc l0))), (.pv (.int .i64 i1)), (.pv (.int .i64 j2))] [] = some r :=
  run_body (C := cods) rfl (Eq.trans (by kernel_rfl) h)

/-- grammarlab/grammarlabref02.SameInts -/
theorem b26 (a0 : List Int) (b1 : List Int) {r : Out}
  (h : (
    bif ((List.length (List.map (eInt .i64) a0) : Int) != (List.length (List.map (eInt .i64) b1) : Int)) then (
      some ((.bool false), []))
    else (
      headT P cods H prim 26 4 [] [(0, (.pv (.lst 1 (List.map (eInt .i64) a0)))), (1, (.pv (.lst 1 (List.map (eInt .i64) b1)))), (5, (.pv (.int .i64 0)))] [])) = some r) :
  Rn 26 [(.pv (.lst 1 (List.map (eInt .i64) a0))), (.pv (.lst 1 (List.map (eInt .i64) b1)))] [] = some r :=
  run_body (C := cods) rfl (Eq.trans (by kernel_rfl) h)

/-- grammarlab/grammarlabref02.SameInts, loop 4 -/
theorem L26_4 (a0 : List Int) (b1 : List Int) (i5 : Int) {r : Out}
  (h : (
    bif (decide (i5 < (List.length (List.map (eInt .i64) a0) : Int))) then (
      getK (List.map (eInt .i64) a0) i5 fun c202 => asE (eInt .i64) c202 fun x201 =>
      getK (List.map (eInt .i64) b1) i5 fun c204 => asE (eInt .i64) c204 fun x203 =>
      bif (x201 != x203) then (
        some ((.bool false), []))
      else (
        headT P cods H prim 26 4 [] [(0, (.pv (.lst 1 (List.map (eInt .i64) a0)))), (1, (.pv (.lst 1 (List.map (eInt .i64) b1)))), (5, (.pv (.int .i64 (IntKind.wrap .i64 (i5 + 1)))))] []))
    else (
      some ((.bool true), []))) = some r) :
  headT P cods H prim 26 4 [] [(0, (.pv (.lst 1 (List.map (eInt .i64) a0)))), (1, (.pv (.lst 1 (List.map (eInt .i64) b1)))), (5, (.pv (.int .i64 i5)))] [] = some r :=
  head_round (Eq.trans (by kernel_rfl) h)

/-- grammarlab/closure.Supers -/
theorem b27 (l0 : List Coded) (i1 : Int) {r : Out}
  (h : (
    headT P cods H prim 27 3 [] [(1, (.pv (.int .i64 i1))), (2, (.ptr 2 0)), (5, (.row 5)), (6, (.row 6)), (12, (.pv (.int .i64 (List.length (List.map Coded.enc l0) : Int)))), (13, (.pv (.int .i64 0)))] [(2, (.box 25 [(.pv (.lst 2 (List.map Coded.enc l0)))])), (5, (.row 3 1 (List.map (eInt .i64) []))), (6, (.row 3 1 (List.map (eInt .i64) [])))]) = some r) :
  Rn 27 [(.pv (.lst 2 (List.map Coded.enc l0))), (.pv (.int .i64 i1))] [] = some r :=
  run_body (C := cods) rfl (Eq.trans (by kernel_rfl) h)

/-- grammarlab/closure.Supers, loop 3 -/
theorem L27_3 (i1 : Int) (v12 : Int) (v13 : Int) (o2_0 : List Coded) (o5 : List Int) (o6 : List Int) {r : Out}
  (h : (
    bif (decide (v13 < v12)) then (
      bif (v13 != i1) then (
        callE (Rn 24 [(.pv (.lst 2 (List.map Coded.enc o2_0))), (.pv (.int .i64 v13)), (.pv (.int .i64 i1))] []) fun r202 => asE R24.enc r202 fun y201 =>
        bif y201 then (
          check ((List.length (List.map (eInt .i64) o5) + List.length (List.map (eInt .i64) [v13])) * 8 ≤ 140737488355328 ∧ List.length (List.map (eInt .i64) o5) + List.length (List.map (eInt .i64) [v13]) ≤ 4611686018427387904) (
          headT P cods H prim 27 3 [] [(1, (.pv (.int .i64 i1))), (2, (.ptr 2 0)), (5, (.row 5)), (6, (.row 6)), (12, (.pv (.int .i64 v12))), (13, (.pv (.int .i64 (IntKind.wrap .i64 (v13 + 1)))))] [(2, (.box 25 [(.pv (.lst 2 (List.map Coded.enc o2_0)))])), (5, (.row 3 1 ((List.map (eInt .i64) o5) ++ (List.map (eInt .i64) [v13])))), (6, (.row 3 1 (List.map (eInt .i64) o6)))]))
        else (
          headT P cods H prim 27 3 [] [(1, (.pv (.int .i64 i1))), (2, (.ptr 2 0)), (5, (.row 5)), (6, (.row 6)), (12, (.pv (.int .i64 v12))), (13, (.pv (.int .i64 (IntKind.wrap .i64 (v13 + 1)))))] [(2, (.box 25 [(.pv (.lst 2 (List.map Coded.enc o2_0)))])), (5, (.row 3 1 (List.map (eInt .i64) o5))), (6, (.row 3 1 (List.map (eInt .i64) o6)))]))
      else (
        headT P cods H prim 27 3 [] [(1, (.pv (.int .i64 i1))), (2, (.ptr 2 0)), (5, (.row 5)), (6, (.row 6)), (12, (.pv (.int .i64 v12))), (13, (.pv (.int .i64 (IntKind.wrap .i64 (v13 + 1)))))] [(2, (.box 25 [(.pv (.lst 2 (List.map Coded.enc o2_0)))])), (5, (.row 3 1 (List.map (eInt .i64) o5))), (6, (.row 3 1 (List.map (eInt .i64) o6)))]))
    else (
      headT P cods H prim 27 9 [] [(2, (.cp [(.lst 2 (List.map Coded.enc o2_0))])), (5, (.row 5)), (6, (.row 6)), (30, (.row 5)), (31, (.pv (.int .i64 (List.length (List.map (eInt .i64) o5) : Int)))), (32, (.pv (.int .i64 0)))] [(5, (.row 3 1 (List.map (eInt .i64) o5))), (6, (.row 3 1 (List.map (eInt .i64) o6)))])) = some r) :
  headT P cods H prim 27 3 [] [(1, (.pv (.int .i64 i1))), (2, (.ptr 2 0)), (5, (.row 5)), (6, (.row 6)), (12, (.pv (.int .i64 v12))), (13, (.pv (.int .i64 v13)))] [(2, (.box 25 [(.pv (.lst 2 (List.map Coded.enc o2_0)))])), (5, (.row 3 1 (List.map (eInt .i64) o5))), (6, (.row 3 1 (List.map (eInt .i64) o6)))] = some r :=
  head_round (Eq.trans (by kernel_rfl) h)

/-- grammarlab/closure.Supers, loop 9 -/
theorem L27_9 (l2 : List Coded) (v31 : Int) (v32 : Int) (o5 : List Int) (o6 : List Int) {r : Out}
  (h : (
    bif (decide (v32 < v31)) then (
      check (0 ≤ v32 ∧ Int.toNat v32 < List.length (List.map (eInt .i64) o5)) (
      getN (List.map (eInt .i64) o5) (Int.toNat v32) fun c202 => asE (eInt .i64) c202 fun x201 =>
      callE (Rn 67 [(.pv (.lst 1 (List.map (eInt .i64) o5))), (.pv (.fn 66 [(.ref [(.int .i64 x201)]), (.ref [(.lst 2 (List.map Coded.enc l2))])]))] []) fun r204 => asE R67.enc r204 fun y203 =>
      bif (!y203) then (
        check ((List.length (List.map (eInt .i64) o6) + List.length (List.map (eInt .i64) [x201])) * 8 ≤ 140737488355328 ∧ List.length (List.map (eInt .i64) o6) + List.length (List.map (eInt .i64) [x201]) ≤ 4611686018427387904) (
        headT P cods H prim 27 9 [] [(2, (.cp [(.lst 2 (List.map Coded.enc l2))])), (5, (.row 5)), (6, (.row 6)), (30, (.row 5)), (31, (.pv (.int .i64 v31))), (32, (.pv (.int .i64 (IntKind.wrap .i64 (v32 + 1)))))] [(5, (.row 3 1 (List.map (eInt .i64) o5))), (6, (.row 3 1 ((List.map (eInt .i64) o6) ++ (List.map (eInt .i64) [x201]))))]))
      else (
        headT P cods H prim 27 9 [] [(2, (.cp [(.lst 2 (List.map Coded.enc l2))])), (5, (.row 5)), (6, (.row 6)), (30, (.row 5)), (31, (.pv (.int .i64 v31))), (32, (.pv (.int .i64 (IntKind.wrap .i64 (v32 + 1)))))] [(5, (.row 3 1 (List.map (eInt .i64) o5))), (6, (.row 3 1 (List.map (eInt .i64) o6)))])))
    else (
      some ((.lst 1 (List.map (eInt .i64) o6)), []))) = some r) :
  headT P cods H prim 27 9 [] [(2, (.cp [(.lst 2 (List.map Coded.enc l2))])), (5, (.row 5)), (6, (.row 6)), (30, (.row 5)), (31, (.pv (.int .i64 v31))), (32, (.pv (.int .i64 v32)))] [(5, (.row 3 1 (List.map (eInt .i64) o5))), (6, (.row 3 1 (List.map (eInt .i64) o6)))] = some r :=
  head_round (Eq.trans (by kernel_rfl) h)

/-- grammarlab/grammarlabref04.Supers -/
theorem b28 (l0 : List Coded) (i1 : Int) {r : Out}
  (h : (
    headT P cods H prim 28 3 [] [(0, (.pv (.lst 2 (List.map Coded.enc l0)))), (1, (.pv (.int .i64 i1))), (5, (.row 5)), (6, (.pv (.int .i64 0)))] [(5, (.row 3 1 (List.map (eInt .i64) [])))]) = some r) :
  Rn 28 [(.pv (.lst 2 (List.map Coded.enc l0))), (.pv (.int .i64 i1))] [] = some r :=
  run_body (C := cods) rfl (Eq.trans (by kernel_rfl) h)

/-- grammarlab/grammarlabref04.Supers, loop 3 -/
theorem L28_3 (l0 : List Coded) (i1 : Int) (k6 : Int) (o5 : List Int) {r : Out}
  (h : (
    bif (decide (k6 < (List.length (List.map Coded.enc l0) : Int))) then (
      bif (k6 == i1) then (
        headT P cods H prim 28 3 [] [(0, (.pv (.lst 2 (List.map Coded.enc l0)))), (1, (.pv (.int .i64 i1))), (5, (.row 5)), (6, (.pv (.int .i64 (IntKind.wrap .i64 (k6 + 1)))))] [(5, (.row 3 1 (List.map (eInt .i64) o5)))])
      else (
        callE (Rn 25 [(.pv (.lst 2 (List.map Coded.enc l0))), (.pv (.int .i64 k6)), (.pv (.int .i64 i1))] []) fun r202 => asE R25.enc r202 fun y201 =>
        bif (!y201) then (
          headT P cods H prim 28 3 [] [(0, (.pv (.lst 2 (List.map Coded.enc l0)))), (1, (.pv (.int .i64 i1))), (5, (.row 5)), (6, (.pv (.int .i64 (IntKind.wrap .i64 (k6 + 1)))))] [(5, (.row 3 1 (List.map (eInt .i64) o5)))])
        else (
          headT P cods H prim 28 8 [] [(0, (.pv (.lst 2 (List.map Coded.enc l0)))), (1, (.pv (.int .i64 i1))), (5, (.row 5)), (6, (.pv (.int .i64 k6))), (7, (.pv (.bool true))), (8, (.pv (.int .i64 0)))] [(5, (.row 3 1 (List.map (eInt .i64) o5)))])))
    else (
      some ((.lst 1 (List.map (eInt .i64) o5)), []))) = some r) :
  headT P cods H prim 28 3 [] [(0, (.pv (.lst 2 (List.map Coded.enc l0)))), (1, (.pv (.int .i64 i1))), (5, (.row 5)), (6, (.pv (.int .i64 k6)))] [(5, (.row 3 1 (List.map (eInt .i64) o5)))] = some r :=
  head_round (Eq.trans (by kernel_rfl) h)

/-- grammarlab/grammarlabref04.Supers, loop 8 -/
theorem L28_8 (l0 : List Coded) (i1 : Int) (k6 : Int) (direct7 : Bool) (m8 : Int) (o5 : List Int) {r : Out}
  (h : (
    bif (decide (m8 < (List.length (List.map Coded.enc l0) : Int))) then (
      bif direct7 then (
        bif (m8 == i1) then (
          headT P cods H prim 28 8 [] [(0, (.pv (.lst 2 (List.map Coded.enc l0)))), (1, (.pv (.int .i64 i1))), (5, (.row 5)), (6, (.pv (.int .i64 k6))), (7, (.pv (.bool true))), (8, (.pv (.int .i64 (IntKind.wrap .i64 (m8 + 1)))))] [(5, (.row 3 1 (List.map (eInt .i64) o5)))])
        else (
          bif (m8 == k6) then (
            headT P cods H prim 28 8 [] [(0, (.pv (.lst 2 (List.map Coded.enc l0)))), (1, (.pv (.int .i64 i1))), (5, (.row 5)), (6, (.pv (.int .i64 k6))), (7, (.pv (.bool true))), (8, (.pv (.int .i64 (IntKind.wrap .i64 (m8 + 1)))))] [(5, (.row 3 1 (List.map (eInt .i64) o5)))])
          else (
            callE (Rn 25 [(.pv (.lst 2 (List.map Coded.enc l0))), (.pv (.int .i64 k6)), (.pv (.int .i64 m8))] []) fun r202 => asE R25.enc r202 fun y201 =>
            bif (!y201) then (
              headT P cods H prim 28 8 [] [(0, (.pv (.lst 2 (List.map Coded.enc l0)))), (1, (.pv (.int .i64 i1))), (5, (.row 5)), (6, (.pv (.int .i64 k6))), (7, (.pv (.bool true))), (8, (.pv (.int .i64 (IntKind.wrap .i64 (m8 + 1)))))] [(5, (.row 3 1 (List.map (eInt .i64) o5)))])
            else (
              callE (Rn 25 [(.pv (.lst 2 (List.map Coded.enc l0))), (.pv (.int .i64 m8)), (.pv (.int .i64 i1))] []) fun r204 => asE R25.enc r204 fun y203 =>
              headT P cods H prim 28 8 [] [(0, (.pv (.lst 2 (List.map Coded.enc l0)))), (1, (.pv (.int .i64 i1))), (5, (.row 5)), (6, (.pv (.int .i64 k6))), (7, (.pv (.bool (!y203)))), (8, (.pv (.int .i64 (IntKind.wrap .i64 (m8 + 1)))))] [(5, (.row 3 1 (List.map (eInt .i64) o5)))]))))
      else (
        headT P cods H prim 28 8 [] [(0, (.pv (.lst 2 (List.map Coded.enc l0)))), (1, (.pv (.int .i64 i1))), (5, (.row 5)), (6, (.pv (.int .i64 k6))), (7, (.pv (.bool false))), (8, (.pv (.int .i64 (IntKind.wrap .i64 (m8 + 1)))))] [(5, (.row 3 1 (List.map (eInt .i64) o5)))]))
    else (
      bif direct7 then (
        check ((List.length (List.map (eInt .i64) o5) + List.length (List.map (eInt .i64) [k6])) * 8 ≤ 140737488355328 ∧ List.length (List.map (eInt .i64) o5) + List.length (List.map (eInt .i64) [k6]) ≤ 4611686018427387904) (
        headT P cods H prim 28 3 [] [(0, (.pv (.lst 2 (List.map Coded.enc l0)))), (1, (.pv (.int .i64 i1))), (5, (.row 5)), (6, (.pv (.int .i64 (IntKind.wrap .i64 (k6 + 1)))))] [(5, (.row 3 1 ((List.map (eInt .i64) o5) ++ (List.map (eInt .i64) [k6]))))]))
      else (
        headT P cods H prim 28 3 [] [(0, (.pv (.lst 2 (List.map Coded.enc l0)))), (1, (.pv (.int .i64 i1))), (5, (.row 5)), (6, (.pv (.int .i64 (IntKind.wrap .i64 (k6 + 1)))))] [(5, (.row 3 1 (List.map (eInt .i64) o5)))]))) = some r) :
  headT P cods H prim 28 8 [] [(0, (.pv (.lst 2 (List.map Coded.enc l0)))), (1, (.pv (.int .i64 i1))), (5, (.row 5)), (6, (.pv (.int .i64 k6))), (7, (.pv (.bool direct7))), (8, (.pv (.int .i64 m8)))] [(5, (.row 3 1 (List.map (eInt .i64) o5)))] = some r :=
  head_round (Eq.trans (by kernel_rfl) h)

/-- grammarlab/bits.And -/
theorem b29 (a0 : List Int) (b1 : List Int) {r : Out}
  (h : (
    check (0 ≤ (if (List.length (List.map (eInt .u64) b1) : Int) < (List.length (List.map (eInt .u64) a0) : Int) then (List.length (List.map (eInt .u64) b1) : Int) else (List.length (List.map (eInt .u64) a0) : Int)) ∧ (if (List.length (List.map (eInt .u64) b1) : Int) < (List.length (List.map (eInt .u64) a0) : Int) then (List.length (List.map (eInt .u64) b1) : Int) else (List.length (List.map (eInt .u64) a0) : Int)) ≤ (if (List.length (List.map (eInt .u64) b1) : Int) < (List.length (List.map (eInt .u64) a0) : Int) then (List.length (List.map (eInt .u64) b1) : Int) else (List.length (List.map (eInt .u64) a0) : Int)) ∧ 8 * Int.toNat (if (List.length (List.map (eInt .u64) b1) : Int) < (List.length (List.map (eInt .u64) a0) : Int) then (List.length (List.map (eInt .u64) b1) : Int) else (List.length (List.map (eInt .u64) a0) : Int)) ≤ 281474976710656 ∧ (if (List.length (List.map (eInt .u64) b1) : Int) < (List.length (List.map (eInt .u64) a0) : Int) then (List.length (List.map (eInt .u64) b1) : Int) else (List.length (List.map (eInt .u64) a0) : Int)) ≤ 9223372036854775807) (
    headT P cods H prim 29 3 [] [(0, (.pv (.lst 1 (List.map (eInt .u64) a0)))), (1, (.pv (.lst 1 (List.map (eInt .u64) b1)))), (5, (.row 12)), (14, (.pv (.int .i64 (List.length (List.replicate (Int.toNat (if (List.length (List.map (eInt .u64) b1) : Int) < (List.length (List.map (eInt .u64) a0) : Int) then (List.length (List.map (eInt .u64) b1) : Int) else (List.length (List.map (eInt .u64) a0) : Int))) ((eInt .u64) 0)) : Int)))), (15, (.pv (.int .i64 0)))] [(12, (.row 37 1 (List.replicate (Int.toNat (if (List.length (List.map (eInt .u64) b1) : Int) < (List.length (List.map (eInt .u64) a0) : Int) then (List.length (List.map (eInt .u64) b1) : Int) else (List.length (List.map (eInt .u64) a0) : Int))) ((eInt .u64) 0))))])) = some r) :
  Rn 29 [(.pv (.lst 1 (List.map (eInt .u64) a0))), (.pv (.lst 1 (List.map (eInt .u64) b1)))] [] = some r :=
  run_body (C := cods) rfl (Eq.trans (by kernel_rfl) h)

/-- grammarlab/bits.And, loop 3 -/
theorem L29_3 (a0 : List Int) (b1 : List Int) (v14 : Int) (v15 : Int) (o12 : List Int) {r : Out}
  (h : (
    bif (decide (v15 < v14)) then (
      getK (List.map (eInt .u64) a0) v15 fun c202 => asE (eInt .u64) c202 fun x201 =>
      getK (List.map (eInt .u64) b1) v15 fun c204 => asE (eInt .u64) c204 fun x203 =>
      check (0 ≤ v15 ∧ Int.toNat v15 < List.length (List.map (eInt .u64) o12)) (
      getN (List.map (eInt .u64) o12) (Int.toNat v15) fun c206 => asE (eInt .u64) c206 fun x205 =>
      headT P cods H prim 29 3 [] [(0, (.pv (.lst 1 (List.map (eInt .u64) a0)))), (1, (.pv (.lst 1 (List.map (eInt .u64) b1)))), (5, (.row 12)), (14, (.pv (.int .i64 v14))), (15, (.pv (.int .i64 (IntKind.wrap .i64 (v15 + 1)))))] [(12, (.row 37 1 ((List.map (eInt .u64) o12).set (Int.toNat v15) ((eInt .u64) (IntKind.wrap .u64 ((BitVec.ofInt (IntKind.bits .u64) x201 &&& BitVec.ofInt (IntKind.bits .u64) x203).toNat : Int))))))]))
    else (
      callE (Rn 68 [(.pv (.lst 1 (List.map (eInt .u64) o12)))] []) fun r208 => asE R68.enc r208 fun y207 =>
      callE (Rn 68 [(.pv (.lst 1 (List.map (eInt .u64) o12)))] []) fun r210 => asE R68.enc r210 fun y209 =>
      some ((.lst 1 (List.map (eInt .u64) y209)), []))) = some r) :
  headT P cods H prim 29 3 [] [(0, (.pv (.lst 1 (List.map (eInt .u64) a0)))), (1, (.pv (.lst 1 (List.map (eInt .u64) b1)))), (5, (.row 12)), (14, (.pv (.int .i64 v14))), (15, (.pv (.int .i64 v15)))] [(12, (.row 37 1 (List.map (eInt .u64) o12)))] = some r :=
  head_round (Eq.trans (by kernel_rfl) h)

/-- grammarlab/bits.Equal -/
theorem b31 (a0 : List Int) (b1 : List Int) {r : Out}
  (h : (
    callE (Rn 63 [(.pv (.lst 1 (List.map (eInt .u64) a0))), (.pv (.lst 1 (List.map (eInt .u64) b1)))] []) fun r202 => asE R63.enc r202 fun y201 =>
    bif y201 then (
      callE (Rn 63 [(.pv (.lst 1 (List.map (eInt .u64) b1))), (.pv (.lst 1 (List.map (eInt .u64) a0)))] []) fun r204 => asE R63.enc r204 fun y203 =>
      some ((.bool y203), []))
    else (
      some ((.bool false), []))) = some r) :
  Rn 31 [(.pv (.lst 1 (List.map (eInt .u64) a0))), (.pv (.lst 1 (List.map (eInt .u64) b1)))] [] = some r :=
  run_body (C := cods) rfl (Eq.trans (by kernel_rfl) h)

/-- grammarlab/grammarlabref03.Check -/
theorem b32 (d0 : List TypeDecl) {r : Out}
  (h : (
    callE (Rn 70 [(.pv (.lst 3 (List.map TypeDecl.enc d0)))] []) fun r202 => asE R70.enc r202 fun y201 =>
    bif (y201 != 0) then (
      some ((.int .i64 y201), []))
    else (
      callE (Rn 71 [(.pv (.lst 3 (List.map TypeDecl.enc d0)))] []) fun r204 => asE R71.enc r204 fun y203 =>
      bif (y203 != 0) then (
        some ((.int .i64 y203), []))
      else (
        callE (Rn 72 [(.pv (.lst 3 (List.map TypeDecl.enc d0)))] []) fun r206 => asE R72.enc r206 fun y205 =>
        bif (y205 != 0) then (
          some ((.int .i64 y205), []))
        else (
          headT P cods H prim 32 12 [] [(0, (.pv (.lst 3 (List.map TypeDecl.enc d0)))), (6, (.pv (.int .i64 0))), (7, (.pv (.int .i64 0)))] [])))) = some r) :
  Rn 32 [(.pv (.lst 3 (List.map TypeDecl.enc d0)))] [] = some r :=
  run_body (C := cods) rfl (Eq.trans (by kernel_rfl) h)

/-- grammarlab/grammarlabref03.Check, loop 12 -/
theorem L32_12 (d0 : List TypeDecl) (n6 : Int) (i7 : Int) {r : Out}
  (h : (
    bif (decide (i7 < (List.length (List.map TypeDecl.enc d0) : Int))) then (
      getK (List.map TypeDecl.enc d0) i7 fun c202 => asE TypeDecl.enc c202 fun x201 =>
      bif ((List.length (List.map eStr x201.Supers) : Int) == 0) then (
        headT P cods H prim 32 12 [] [(0, (.pv (.lst 3 (List.map TypeDecl.enc d0)))), (6, (.pv (.int .i64 (IntKind.wrap .i64 (n6 + 1))))), (7, (.pv (.int .i64 (IntKind.wrap .i64 (i7 + 1)))))] [])
      else (
        headT P cods H prim 32 12 [] [(0, (.pv (.lst 3 (List.map TypeDecl.enc d0)))), (6, (.pv (.int .i64 n6))), (7, (.pv (.int .i64 (IntKind.wrap .i64 (i7 + 1)))))] []))
    else (
      bif (n6 != 1) then (
        some ((.int .i64 1), []))
      else (
        callE (Rn 73 [(.pv (.lst 3 (List.map TypeDecl.enc d0)))] []) fun r204 => asE R73.enc r204 fun y203 =>
        bif (decide ((List.length (List.map eStr y203) : Int) < (List.length (List.map TypeDecl.enc d0) : Int))) then (
          some ((.int .i64 6), []))
        else (
          some ((.int .i64 0), []))))) = some r) :
  headT P cods H prim 32 12 [] [(0, (.pv (.lst 3 (List.map TypeDecl.enc d0)))), (6, (.pv (.int .i64 n6))), (7, (.pv (.int .i64 i7)))] [] = some r :=
  head_round (Eq.trans (by kernel_rfl) h)

/-- grammarlab/grammarlablaw04.meet3 -/
theorem b33 (l0 : List Coded) (a1 : Int) (b2 : Int) (c3 : Int) {r : Out}
  (h : (
    callE (Rn 20 [(.pv (.lst 2 (List.map Coded.enc l0))), (.pv (.int .i64 a1)), (.pv (.int .i64 b2))] []) fun r202 => asE R20.enc r202 fun y201 =>
    bif (decide (y201 < 0)) then (
      some ((.int .i64 (-1)), []))
    else (
      bif (decide (y201 ≥ (List.length (List.map Coded.enc l0) : Int))) then (
        some ((.int .i64 (-1)), []))
      else (
        callE (Rn 20 [(.pv (.lst 2 (List.map Coded.enc l0))), (.pv (.int .i64 y201)), (.pv (.int .i64 c3))] []) fun r204 => asE R20.enc r204 fun y203 =>
        some ((.int .i64 y203), [])))) = some r) :
  Rn 33 [(.pv (.lst 2 (List.map Coded.enc l0))), (.pv (.int .i64 a1)), (.pv (.int .i64 b2)), (.pv (.int .i64 c3))] [] = some r :=
  run_body (C := cods) rfl (Eq.trans (by kernel_rfl) h)

/-- grammarlab/grammarlabref03.Among -/
theorem b37 (l0 : List (List UInt8)) (s1 : List UInt8) {r : Out}
  (h : (
    headT P cods H prim 37 2 [] [(0, (.pv (.lst 1 (List.map eStr l0)))), (1, (.pv (.str s1))), (5, (.pv (.int .i64 0)))] []) = some r) :
  Rn 37 [(.pv (.lst 1 (List.map eStr l0))), (.pv (.str s1))] [] = some r :=
  run_body (C := cods) rfl (Eq.trans (by kernel_rfl) h)

/-- grammarlab/grammarlabref03.Among, loop 2 -/
theorem L37_2 (l0 : List (List UInt8)) (s1 : List UInt8) (i5 : Int) {r : Out}
  (h : (
    bif (decide (i5 < (List.length (List.map eStr l0) : Int))) then (
      getK (List.map eStr l0) i5 fun c202 => asE eStr c202 fun x201 =>
      bif (x201 == s1) then (
        some ((.bool true), []))
      else (
        headT P cods H prim 37 2 [] [(0, (.pv (.lst 1 (List.map eStr l0)))), (1, (.pv (.str s1))), (5, (.pv (.int .i64 (IntKind.wrap .i64 (i5 + 1)))))] []))
    else (
      some ((.bool false), []))) = some r) :
  headT P cods H prim 37 2 [] [(0, (.pv (.lst 1 (List.map eStr l0)))), (1, (.pv (.str s1))), (5, (.pv (.int .i64 i5)))] [] = some r :=
  head_round (Eq.trans (by kernel_rfl) h)

/-- grammarlab/grammarlabref03.Light -/
theorem b38 (d0 : List TypeDecl) {r : Out}
  (h : (
    bif (decide ((List.length (List.map TypeDecl.enc d0) : Int) > 16)) then (
      some ((.bool false), []))
    else (
      headT P cods H prim 38 4 [] [(0, (.pv (.lst 3 (List.map TypeDecl.enc d0)))), (3, (.pv (.int .i64 0)))] [])) = some r) :
  Rn 38 [(.pv (.lst 3 (List.map TypeDecl.enc d0)))] [] = some r :=
  run_body (C := cods) rfl (Eq.trans (by kernel_rfl) h)

/-- grammarlab/grammarlabref03.Light, loop 4 -/
theorem L38_4 (d0 : List TypeDecl) (i3 : Int) {r : Out}
  (h : (
    bif (decide (i3 < (List.length (List.map TypeDecl.enc d0) : Int))) then (
      getK (List.map TypeDecl.enc d0) i3 fun c202 => asE TypeDecl.enc c202 fun x201 =>
      bif (decide ((List.length (List.map eStr x201.Supers) : Int) > 20)) then (
        some ((.bool false), []))
      else (
        getK (List.map TypeDecl.enc d0) i3 fun c204 => asE TypeDecl.enc c204 fun x203 =>
        bif (decide ((List.length (List.map FeatDecl.enc x203.Feats) : Int) > 20)) then (
          some ((.bool false), []))
        else (
          headT P cods H prim 38 4 [] [(0, (.pv (.lst 3 (List.map TypeDecl.enc d0)))), (3, (.pv (.int .i64 (IntKind.wrap .i64 (i3 + 1)))))] [])))
    else (
      some ((.bool true), []))) = some r) :
  headT P cods H prim 38 4 [] [(0, (.pv (.lst 3 (List.map TypeDecl.enc d0)))), (3, (.pv (.int .i64 i3)))] [] = some r :=
  head_round (Eq.trans (by kernel_rfl) h)

/-- grammarlab/grammarlabref03.Names -/
theorem b52 (d0 : List TypeDecl) {r : Out}
  (h : (
    headT P cods H prim 52 3 [] [(0, (.pv (.lst 3 (List.map TypeDecl.enc d0)))), (3, (.pv (.lst 1 (List.map eStr [])))), (4, (.pv (.int .i64 0)))] []) = some r) :
  Rn 52 [(.pv (.lst 3 (List.map TypeDecl.enc d0)))] [] = some r :=
  run_body (C := cods) rfl (Eq.trans (by kernel_rfl) h)

/-- grammarlab/grammarlabref03.Names, loop 3 -/
theorem L52_3 (d0 : List TypeDecl) (out3 : List (List UInt8)) (i4 : Int) {r : Out}
  (h : (
    bif (decide (i4 < (List.length (List.map TypeDecl.enc d0) : Int))) then (
      getK (List.map TypeDecl.enc d0) i4 fun c202 => asE TypeDecl.enc c202 fun x201 =>
      callE (Rn 98 [(.pv (.lst 1 (List.map eStr out3))), (.pv (.str x201.Name))] []) fun r204 => asE R98.enc r204 fun y203 =>
      headT P cods H prim 52 3 [] [(0, (.pv (.lst 3 (List.map TypeDecl.enc d0)))), (3, (.pv (.lst 1 (List.map eStr y203)))), (4, (.pv (.int .i64 (IntKind.wrap .i64 (i4 + 1)))))] [])
    else (
      some ((.lst 1 (List.map eStr out3)), []))) = some r) :
  headT P cods H prim 52 3 [] [(0, (.pv (.lst 3 (List.map TypeDecl.enc d0)))), (3, (.pv (.lst 1 (List.map eStr out3)))), (4, (.pv (.int .i64 i4)))] [] = some r :=
  head_round (Eq.trans (by kernel_rfl) h)

/-- grammarlab/grammarlabref04.code -/
theorem b53 (d0 : List TypeDecl) (all1 : List (List UInt8)) (name2 : List UInt8) {r : Out}
  (h : (
    callE (Rn 99 [(.pv (.lst 3 (List.map TypeDecl.enc d0))), (.pv (.str name2))] []) fun r202 => asE R99.enc r202 fun y201 =>
    headT P cods H prim 53 4 [] [(1, (.pv (.lst 1 (List.map eStr all1)))), (7, (.pv (.lst 1 (List.map eStr y201)))), (8, (.row 8)), (9, (.pv (.int .i64 0)))] [(8, (.row 3 1 (List.map (eInt .i64) [])))]) = some r) :
  Rn 53 [(.pv (.lst 3 (List.map TypeDecl.enc d0))), (.pv (.lst 1 (List.map eStr all1))), (.pv (.str name2))] [] = some r :=
  run_body (C := cods) rfl (Eq.trans (by kernel_rfl) h)

/-- grammarlab/grammarlabref04.code, loop 4 -/
theorem L53_4 (all1 : List (List UInt8)) (low7 : List (List UInt8)) (i9 : Int) (o8 : List Int) {r : Out}
  (h : (
    bif (decide (i9 < (List.length (List.map eStr all1) : Int))) then (
      getK (List.map eStr all1) i9 fun c202 => asE eStr c202 fun x201 =>
      callE (Rn 37 [(.pv (.lst 1 (List.map eStr low7))), (.pv (.str x201))] []) fun r204 => asE R37.enc r204 fun y203 =>
      bif y203 then (
        check ((List.length (List.map (eInt .i64) o8) + List.length (List.map (eInt .i64) [i9])) * 8 ≤ 140737488355328 ∧ List.length (List.map (eInt .i64) o8) + List.length (List.map (eInt .i64) [i9]) ≤ 4611686018427387904) (
        headT P cods H prim 53 4 [] [(1, (.pv (.lst 1 (List.map eStr all1)))), (7, (.pv (.lst 1 (List.map eStr low7)))), (8, (.row 8)), (9, (.pv (.int .i64 (IntKind.wrap .i64 (i9 + 1)))))] [(8, (.row 3 1 ((List.map (eInt .i64) o8) ++ (List.map (eInt .i64) [i9]))))]))
      else (
        headT P cods H prim 53 4 [] [(1, (.pv (.lst 1 (List.map eStr all1)))), (7, (.pv (.lst 1 (List.map eStr low7)))), (8, (.row 8)), (9, (.pv (.int .i64 (IntKind.wrap .i64 (i9 + 1)))))] [(8, (.row 3 1 (List.map (eInt .i64) o8)))]))
    else (
      callE (Rn 100 [(.pv (.lst 1 (List.map (eInt .i64) o8)))] []) fun r206 => asE R100.enc r206 fun y205 =>
      callE (Rn 100 [(.pv (.lst 1 (List.map (eInt .i64) o8)))] []) fun r208 => asE R100.enc r208 fun y207 =>
      some ((.lst 1 (List.map (eInt .u64) y207.1)), []))) = some r) :
  headT P cods H prim 53 4 [] [(1, (.pv (.lst 1 (List.map eStr all1)))), (7, (.pv (.lst 1 (List.map eStr low7)))), (8, (.row 8)), (9, (.pv (.int .i64 i9)))] [(8, (.row 3 1 (List.map (eInt .i64) o8)))] = some r :=
  head_round (Eq.trans (by kernel_rfl) h)

/-- grammarlab/grammarlabref04.family -/
theorem b54 (codes0 : List (List Int)) {r : Out}
  (h : (
    check ((List.length (List.map (eLst 1 (eInt .u64)) []) + List.length (List.map (eLst 1 (eInt .u64)) codes0)) * 24 ≤ 140737488355328 ∧ List.length (List.map (eLst 1 (eInt .u64)) []) + List.length (List.map (eLst 1 (eInt .u64)) codes0) ≤ 4611686018427387904) (
    headT P cods H prim 54 3 [] [(3, (.row 7)), (4, (.pv (.int .i64 0)))] [(7, (.row 31 1 ((List.map (eLst 1 (eInt .u64)) []) ++ (List.map (eLst 1 (eInt .u64)) codes0))))])) = some r) :
  Rn 54 [(.pv (.lst 1 (List.map (eLst 1 (eInt .u64)) codes0)))] [] = some r :=
  run_body (C := cods) rfl (Eq.trans (by kernel_rfl) h)

/-- grammarlab/grammarlabref04.family, loop 3 -/
theorem L54_3 (i4 : Int) (o7 : List (List Int)) {r : Out}
  (h : (
    bif (decide (i4 < (List.length (List.map (eLst 1 (eInt .u64)) o7) : Int))) then (
      bif (decide ((List.length (List.map (eLst 1 (eInt .u64)) o7) : Int) ≤ 256)) then (
        headT P cods H prim 54 6 [] [(3, (.row 7)), (4, (.pv (.int .i64 i4))), (5, (.pv (.int .i64 0)))] [(7, (.row 31 1 (List.map (eLst 1 (eInt .u64)) o7)))])
      else (
        some ((.lst 1 (List.map (eLst 1 (eInt .u64)) o7)), [])))
    else (
      some ((.lst 1 (List.map (eLst 1 (eInt .u64)) o7)), []))) = some r) :
  headT P cods H prim 54 3 [] [(3, (.row 7)), (4, (.pv (.int .i64 i4)))] [(7, (.row 31 1 (List.map (eLst 1 (eInt .u64)) o7)))] = some r :=
  head_round (Eq.trans (by kernel_rfl) h)

/-- grammarlab/grammarlabref04.family, loop 6 -/
theorem L54_6 (i4 : Int) (k5 : Int) (o7 : List (List Int)) {r : Out}
  (h : (
    bif (decide (k5 < i4)) then (
      bif (decide ((List.length (List.map (eLst 1 (eInt .u64)) o7) : Int) ≤ 256)) then (
        check (0 ≤ i4 ∧ Int.toNat i4 < List.length (List.map (eLst 1 (eInt .u64)) o7)) (
        getN (List.map (eLst 1 (eInt .u64)) o7) (Int.toNat i4) fun c202 => asE (eLst 1 (eInt .u64)) c202 fun x201 =>
        check (0 ≤ k5 ∧ Int.toNat k5 < List.length (List.map (eLst 1 (eInt .u64)) o7)) (
        getN (List.map (eLst 1 (eInt .u64)) o7) (Int.toNat k5) fun c204 => asE (eLst 1 (eInt .u64)) c204 fun x203 =>
        callE (Rn 61 [(.pv (.lst 1 (List.map (eInt .u64) x201))), (.pv (.lst 1 (List.map (eInt .u64) x203)))] []) fun r206 => asE R61.enc r206 fun y205 =>
        bif (decide ((List.length (List.map (eInt .u64) y205) : Int) > 0)) then (
          callE (Rn 101 [(.pv (.lst 1 (List.map (eLst 1 (eInt .u64)) o7))), (.pv (.lst 1 (List.map (eInt .u64) y205)))] []) fun r208 => asE R101.enc r208 fun y207 =>
          bif (!y207) then (
            check ((List.length (List.map (eLst 1 (eInt .u64)) o7) + List.length (List.map (eLst 1 (eInt .u64)) [y205])) * 24 ≤ 140737488355328 ∧ List.length (List.map (eLst 1 (eInt .u64)) o7) + List.length (List.map (eLst 1 (eInt .u64)) [y205]) ≤ 4611686018427387904) (
            headT P cods H prim 54 6 [] [(3, (.row 7)), (4, (.pv (.int .i64 i4))), (5, (.pv (.int .i64 (IntKind.wrap .i64 (k5 + 1)))))] [(7, (.row 31 1 ((List.map (eLst 1 (eInt .u64)) o7) ++ (List.map (eLst 1 (eInt .u64)) [y205]))))]))
          else (
            headT P cods H prim 54 6 [] [(3, (.row 7)), (4, (.pv (.int .i64 i4))), (5, (.pv (.int .i64 (IntKind.wrap .i64 (k5 + 1)))))] [(7, (.row 31 1 (List.map (eLst 1 (eInt .u64)) o7)))]))
        else (
          headT P cods H prim 54 6 [] [(3, (.row 7)), (4, (.pv (.int .i64 i4))), (5, (.pv (.int .i64 (IntKind.wrap .i64 (k5 + 1)))))] [(7, (.row 31 1 (List.map (eLst 1 (eInt .u64)) o7)))]))))
      else (
        headT P cods H prim 54 3 [] [(3, (.row 7)), (4, (.pv (.int .i64 (IntKind.wrap .i64 (i4 + 1)))))] [(7, (.row 31 1 (List.map (eLst 1 (eInt .u64)) o7)))]))
    else (
      headT P cods H prim 54 3 [] [(3, (.row 7)), (4, (.pv (.int .i64 (IntKind.wrap .i64 (i4 + 1)))))] [(7, (.row 31 1 (List.map (eLst 1 (eInt .u64)) o7)))])) = some r) :
  headT P cods H prim 54 6 [] [(3, (.row 7)), (4, (.pv (.int .i64 i4))), (5, (.pv (.int .i64 k5)))] [(7, (.row 31 1 (List.map (eLst 1 (eInt .u64)) o7)))] = some r :=
  head_round (Eq.trans (by kernel_rfl) h)

/-- grammarlab/grammarlabref04.name -/
theorem b55 (d0 : List TypeDecl) (all1 : List (List UInt8)) (codes2 : List (List Int)) (b3 : List Int) {r : Out}
  (h : (
    headT P cods H prim 55 3 [] [(0, (.pv (.lst 3 (List.map TypeDecl.enc d0)))), (1, (.pv (.lst 1 (List.map eStr all1)))), (2, (.pv (.lst 1 (List.map (eLst 1 (eInt .u64)) codes2)))), (3, (.pv (.lst 1 (List.map (eInt .u64) b3)))), (9, (.row 9)), (10, (.pv (.int .i64 0)))] [(9, (.row 9 1 (List.map eStr [])))]) = some r) :
  Rn 55 [(.pv (.lst 3 (List.map TypeDecl.enc d0))), (.pv (.lst 1 (List.map eStr all1))), (.pv (.lst 1 (List.map (eLst 1 (eInt .u64)) codes2))), (.pv (.lst 1 (List.map (eInt .u64) b3)))] [] = some r :=
  run_body (C := cods) rfl (Eq.trans (by kernel_rfl) h)

/-- grammarlab/grammarlabref04.name, loop 3 -/
theorem L55_3 (d0 : List TypeDecl) (all1 : List (List UInt8)) (codes2 : List (List Int)) (b3 : List Int) (i10 : Int) (o9 : List (List UInt8)) {r : Out}
  (h : (
    bif (decide (i10 < (List.length (List.map eStr all1) : Int))) then (
      getK (List.map (eLst 1 (eInt .u64)) codes2) i10 fun c202 => asE (eLst 1 (eInt .u64)) c202 fun x201 =>
      callE (Rn 102 [(.pv (.lst 1 (List.map (eInt .u64) x201))), (.pv (.lst 1 (List.map (eInt .u64) b3)))] []) fun r204 => asE R102.enc r204 fun y203 =>
      bif y203 then (
        getK (List.map eStr all1) i10 fun c206 => asE eStr c206 fun x205 =>
        some ((.str x205), []))
      else (
        callE (Rn 103 [(.pv (.lst 1 (List.map (eInt .u64) b3))), (.pv (.int .i64 i10))] []) fun r208 => asE R103.enc r208 fun y207 =>
        bif y207 then (
          getK (List.map eStr all1) i10 fun c210 => asE eStr c210 fun x209 =>
          check ((List.length (List.map eStr o9) + List.length (List.map eStr [x209])) * 16 ≤ 140737488355328 ∧ List.length (List.map eStr o9) + List.length (List.map eStr [x209]) ≤ 4611686018427387904) (
          headT P cods H prim 55 3 [] [(0, (.pv (.lst 3 (List.map TypeDecl.enc d0)))), (1, (.pv (.lst 1 (List.map eStr all1)))), (2, (.pv (.lst 1 (List.map (eLst 1 (eInt .u64)) codes2)))), (3, (.pv (.lst 1 (List.map (eInt .u64) b3)))), (9, (.row 9)), (10, (.pv (.int .i64 (IntKind.wrap .i64 (i10 + 1)))))] [(9, (.row 9 1 ((List.map eStr o9) ++ (List.map eStr [x209]))))]))
        else (
          headT P cods H prim 55 3 [] [(0, (.pv (.lst 3 (List.map TypeDecl.enc d0)))), (1, (.pv (.lst 1 (List.map eStr all1)))), (2, (.pv (.lst 1 (List.map (eLst 1 (eInt .u64)) codes2)))), (3, (.pv (.lst 1 (List.map (eInt .u64) b3)))), (9, (.row 9)), (10, (.pv (.int .i64 (IntKind.wrap .i64 (i10 + 1)))))] [(9, (.row 9 1 (List.map eStr o9)))])))
    else (
      callE (Rn 104 [(.pv (.lst 3 (List.map TypeDecl.enc d0))), (.pv (.lst 1 (List.map eStr o9)))] []) fun r212 => asE R104.enc r212 fun y211 =>
      callE (Rn 104 [(.pv (.lst 3 (List.map TypeDecl.enc d0))), (.pv (.lst 1 (List.map eStr o9)))] []) fun r214 => asE R104.enc r214 fun y213 =>
      headT P cods H prim 55 12 [] [(9, (.pv (.lst 1 (List.map eStr y213)))), (11, (.pv (.str []))), (12, (.pv (.int .i64 0)))] [])) = some r) :
  headT P cods H prim 55 3 [] [(0, (.pv (.lst 3 (List.map TypeDecl.enc d0)))), (1, (.pv (.lst 1 (List.map eStr all1)))), (2, (.pv (.lst 1 (List.map (eLst 1 (eInt .u64)) codes2)))), (3, (.pv (.lst 1 (List.map (eInt .u64) b3)))), (9, (.row 9)), (10, (.pv (.int .i64 i10)))] [(9, (.row 9 1 (List.map eStr o9)))] = some r :=
  head_round (Eq.trans (by kernel_rfl) h)

/-- grammarlab/grammarlabref04.name, loop 12 -/
theorem L55_12 (l9 : List (List UInt8)) (s11 : List UInt8) (i12 : Int) {r : Out}
  (h : (
    bif (decide (i12 < (List.length (List.map eStr l9) : Int))) then (
      bif (decide (i12 > 0)) then (
        check (List.length s11 + List.length ([38] : List UInt8) ≤ 9223372036854775807) (
        getK (List.map eStr l9) i12 fun c202 => asE eStr c202 fun x201 =>
        check (List.length (s11 ++ [38]) + List.length x201 ≤ 9223372036854775807) (
        headT P cods H prim 55 12 [] [(9, (.pv (.lst 1 (List.map eStr l9)))), (11, (.pv (.str ((s11 ++ [38]) ++ x201)))), (12, (.pv (.int .i64 (IntKind.wrap .i64 (i12 + 1)))))] [])))
      else (
        getK (List.map eStr l9) i12 fun c204 => asE eStr c204 fun x203 =>
        check (List.length s11 + List.length x203 ≤ 9223372036854775807) (
        headT P cods H prim 55 12 [] [(9, (.pv (.lst 1 (List.map eStr l9)))), (11, (.pv (.str (s11 ++ x203)))), (12, (.pv (.int .i64 (IntKind.wrap .i64 (i12 + 1)))))] [])))
    else (
      some ((.str s11), []))) = some r) :
  headT P cods H prim 55 12 [] [(9, (.pv (.lst 1 (List.map eStr l9)))), (11, (.pv (.str s11))), (12, (.pv (.int .i64 i12)))] [] = some r :=
  head_round (Eq.trans (by kernel_rfl) h)

/-- grammarlab/grammarlabref04.before -/
theorem b56 (a0 : Coded) (b1 : Coded) {r : Out}
  (h : (
    callE (Rn 105 [(.pv (.lst 1 (List.map (eInt .u64) a0.Code)))] []) fun r202 => asE R105.enc r202 fun y201 =>
    callE (Rn 105 [(.pv (.lst 1 (List.map (eInt .u64) b1.Code)))] []) fun r204 => asE R105.enc r204 fun y203 =>
    bif (decide (y201 > y203)) then (
      some ((.bool true), []))
    else (
      bif (y201 == y203) then (
        some ((.bool (Op.bytesLess a0.Name b1.Name)), []))
      else (
        some ((.bool false), [])))) = some r) :
  Rn 56 [(.pv (.agg (Coded.enc a0))), (.pv (.agg (Coded.enc b1)))] [] = some r :=
  run_body (C := cods) rfl (Eq.trans (by kernel_rfl) h)

/-- grammarlab/grammarlabref02.Same -/
theorem b57 (a0 : List Int) (b1 : List Int) {r : Out}
  (h : (
    bif ((List.length (List.map (eInt .u64) a0) : Int) != (List.length (List.map (eInt .u64) b1) : Int)) then (
      some ((.bool false), []))
    else (
      headT P cods H prim 57 4 [] [(0, (.pv (.lst 1 (List.map (eInt .u64) a0)))), (1, (.pv (.lst 1 (List.map (eInt .u64) b1)))), (5, (.pv (.int .i64 0)))] [])) = some r) :
  Rn 57 [(.pv (.lst 1 (List.map (eInt .u64) a0))), (.pv (.lst 1 (List.map (eInt .u64) b1)))] [] = some r :=
  run_body (C := cods) rfl (Eq.trans (by kernel_rfl) h)

/-- grammarlab/grammarlabref02.Same, loop 4 -/
theorem L57_4 (a0 : List Int) (b1 : List Int) (i5 : Int) {r : Out}
  (h : (
    bif (decide (i5 < (List.length (List.map (eInt .u64) a0) : Int))) then (
      getK (List.map (eInt .u64) a0) i5 fun c202 => asE (eInt .u64) c202 fun x201 =>
      getK (List.map (eInt .u64) b1) i5 fun c204 => asE (eInt .u64) c204 fun x203 =>
      bif (x201 != x203) then (
        some ((.bool false), []))
      else (
        headT P cods H prim 57 4 [] [(0, (.pv (.lst 1 (List.map (eInt .u64) a0)))), (1, (.pv (.lst 1 (List.map (eInt .u64) b1)))), (5, (.pv (.int .i64 (IntKind.wrap .i64 (i5 + 1)))))] []))
    else (
      some ((.bool true), []))) = some r) :
  headT P cods H prim 57 4 [] [(0, (.pv (.lst 1 (List.map (eInt .u64) a0)))), (1, (.pv (.lst 1 (List.map (eInt .u64) b1)))), (5, (.pv (.int .i64 i5)))] [] = some r :=
  head_round (Eq.trans (by kernel_rfl) h)

/-- grammarlab/closure.lookup[grammarlab/api.Coded] -/
theorem b58 (l0 : List Coded) (is1_0 : List Int) {r : Out}
  (h : (
    headT P cods H prim 58 2 [] [(1, (.pv (.fn 59 [(.ref [(.lst 1 (List.map (eInt .u64) is1_0))])]))), (7, (.pv (.lst 2 (List.map Coded.enc l0)))), (8, (.pv (.int .i64 (List.length (List.map Coded.enc l0) : Int)))), (9, (.pv (.int .i64 0)))] []) = some r) :
  Rn 58 [(.pv (.lst 2 (List.map Coded.enc l0))), (.pv (.fn 59 [(.ref [(.lst 1 (List.map (eInt .u64) is1_0))])]))] [] = some r :=
  run_body (C := cods) rfl (Eq.trans (by kernel_rfl) h)

/-- grammarlab/closure.lookup[grammarlab/api.Coded], loop 2 -/
theorem L58_2 (is1_0 : List Int) (v7 : List Coded) (v8 : Int) (v9 : Int) {r : Out}
  (h : (
    bif (decide (v9 < v8)) then (
      getK (List.map Coded.enc v7) v9 fun c202 => asE Coded.enc c202 fun x201 =>
      callE (Rn 59 [(.pv (.agg (Coded.enc x201))), (.pv (.ref [(.lst 1 (List.map (eInt .u64) is1_0))]))] []) fun r204 => asE R59.enc r204 fun y203 =>
      bif y203 then (
        some ((.int .i64 v9), []))
      else (
        headT P cods H prim 58 2 [] [(1, (.pv (.fn 59 [(.ref [(.lst 1 (List.map (eInt .u64) is1_0))])]))), (7, (.pv (.lst 2 (List.map Coded.enc v7)))), (8, (.pv (.int .i64 v8))), (9, (.pv (.int .i64 (IntKind.wrap .i64 (v9 + 1)))))] []))
    else (
      some ((.int .i64 (-1)), []))) = some r) :
  headT P cods H prim 58 2 [] [(1, (.pv (.fn 59 [(.ref [(.lst 1 (List.map (eInt .u64) is1_0))])]))), (7, (.pv (.lst 2 (List.map Coded.enc v7)))), (8, (.pv (.int .i64 v8))), (9, (.pv (.int .i64 v9)))] [] = some r :=
  head_round (Eq.trans (by kernel_rfl) h)

/-- grammarlab/closure.Find$1 -/
theorem b59 (x0 : Coded) (a1 : List Int) {r : Out}
  (h : (
    callE (Rn 31 [(.pv (.lst 1 (List.map (eInt .u64) x0.Code))), (.pv (.lst 1 (List.map (eInt .u64) a1)))] []) fun r202 => asE R31.enc r202 fun y201 =>
    some ((.bool y201), [])) = some r) :
  Rn 59 [(.pv (.agg (Coded.enc x0))), (.pv (.ref [(.lst 1 (List.map (eInt .u64) a1))]))] [] = some r :=
  run_body (C := cods) rfl (Eq.trans (by kernel_rfl) h)

/-- grammarlab/grammarlabref02.Normal -/
theorem b60 (b0 : List Int) {r : Out}
  (h : (
    headT P cods H prim 60 2 [] [(0, (.pv (.lst 1 (List.map (eInt .u64) b0)))), (3, (.pv (.int .i64 (List.length (List.map (eInt .u64) b0) : Int))))] []) = some r) :
  Rn 60 [(.pv (.lst 1 (List.map (eInt .u64) b0)))] [] = some r :=
  run_body (C := cods) rfl (Eq.trans (by kernel_rfl) h)

/-- grammarlab/grammarlabref02.Normal, loop 2 -/
theorem L60_2 (b0 : List Int) (n3 : Int) {r : Out}
  (h : (
    bif (decide (n3 > 0)) then (
      getK (List.map (eInt .u64) b0) (IntKind.wrap .i64 (n3 - 1)) fun c202 => asE (eInt .u64) c202 fun x201 =>
      bif (x201 == 0) then (
        headT P cods H prim 60 2 [] [(0, (.pv (.lst 1 (List.map (eInt .u64) b0)))), (3, (.pv (.int .i64 (IntKind.wrap .i64 (n3 - 1)))))] [])
      else (
        check (0 ≤ n3 ∧ n3 ≤ (List.length (List.map (eInt .u64) b0) : Nat)) (
        check ((List.length (List.map (eInt .u64) []) + List.length (((List.map (eInt .u64) b0).take (Int.toNat n3)).drop 0)) * 8 ≤ 140737488355328 ∧ List.length (List.map (eInt .u64) []) + List.length (((List.map (eInt .u64) b0).take (Int.toNat n3)).drop 0) ≤ 4611686018427387904) (
        some ((.lst 1 ((List.map (eInt .u64) []) ++ (((List.map (eInt .u64) b0).take (Int.toNat n3)).drop 0))), [])))))
    else (
      check (0 ≤ n3 ∧ n3 ≤ (List.length (List.map (eInt .u64) b0) : Nat)) (
      check ((List.length (List.map (eInt .u64) []) + List.length (((List.map (eInt .u64) b0).take (Int.toNat n3)).drop 0)) * 8 ≤ 140737488355328 ∧ List.length (List.map (eInt .u64) []) + List.length (((List.map (eInt .u64) b0).take (Int.toNat n3)).drop 0) ≤ 4611686018427387904) (
      some ((.lst 1 ((List.map (eInt .u64) []) ++ (((List.map (eInt .u64) b0).take (Int.toNat n3)).drop 0))), []))))) = some r) :
  headT P cods H prim 60 2 [] [(0, (.pv (.lst 1 (List.map (eInt .u64) b0)))), (3, (.pv (.int .i64 n3)))] [] = some r :=
  head_round (Eq.trans (by kernel_rfl) h)

/-- grammarlab/grammarlabref02.And -/
theorem b61 (a0 : List Int) (b1 : List Int) {r : Out}
  (h : (
    headT P cods H prim 61 3 [] [(0, (.pv (.lst 1 (List.map (eInt .u64) a0)))), (1, (.pv (.lst 1 (List.map (eInt .u64) b1)))), (5, (.row 5)), (6, (.pv (.int .i64 0)))] [(5, (.row 37 1 (List.map (eInt .u64) [])))]) = some r) :
  Rn 61 [(.pv (.lst 1 (List.map (eInt .u64) a0))), (.pv (.lst 1 (List.map (eInt .u64) b1)))] [] = some r :=
  run_body (C := cods) rfl (Eq.trans (by kernel_rfl) h)

/-- grammarlab/grammarlabref02.And, loop 3 -/
theorem L61_3 (a0 : List Int) (b1 : List Int) (i6 : Int) (o5 : List Int) {r : Out}
  (h : (
    bif (decide (i6 < (List.length (List.map (eInt .u64) a0) : Int))) then (
      getK (List.map (eInt .u64) a0) i6 fun c202 => asE (eInt .u64) c202 fun x201 =>
      callE (Rn 106 [(.pv (.lst 1 (List.map (eInt .u64) b1))), (.pv (.int .i64 i6))] []) fun r204 => asE R106.enc r204 fun y203 =>
      check ((List.length (List.map (eInt .u64) o5) + List.length (List.map (eInt .u64) [(IntKind.wrap .u64 ((BitVec.ofInt (IntKind.bits .u64) x201 &&& BitVec.ofInt (IntKind.bits .u64) y203).toNat : Int))])) * 8 ≤ 140737488355328 ∧ List.length (List.map (eInt .u64) o5) + List.length (List.map (eInt .u64) [(IntKind.wrap .u64 ((BitVec.ofInt (IntKind.bits .u64) x201 &&& BitVec.ofInt (IntKind.bits .u64) y203).toNat : Int))]) ≤ 4611686018427387904) (
      headT P cods H prim 61 3 [] [(0, (.pv (.lst 1 (List.map (eInt .u64) a0)))), (1, (.pv (.lst 1 (List.map (eInt .u64) b1)))), (5, (.row 5)), (6, (.pv (.int .i64 (IntKind.wrap .i64 (i6 + 1)))))] [(5, (.row 37 1 ((List.map (eInt .u64) o5) ++ (List.map (eInt .u64) [(IntKind.wrap .u64 ((BitVec.ofInt (IntKind.bits .u64) x201 &&& BitVec.ofInt (IntKind.bits .u64) y203).toNat : Int))]))))]))
    else (
      callE (Rn 60 [(.pv (.lst 1 (List.map (eInt .u64) o5)))] []) fun r206 => asE R60.enc r206 fun y205 =>
      callE (Rn 60 [(.pv (.lst 1 (List.map (eInt .u64) o5)))] []) fun r208 => asE R60.enc r208 fun y207 =>
      some ((.lst 1 (List.map (eInt .u64) y207)), []))) = some r) :
  headT P cods H prim 61 3 [] [(0, (.pv (.lst 1 (List.map (eInt .u64) a0)))), (1, (.pv (.lst 1 (List.map (eInt .u64) b1)))), (5, (.row 5)), (6, (.pv (.int .i64 i6)))] [(5, (.row 37 1 (List.map (eInt .u64) o5)))] = some r :=
  head_round (Eq.trans (by kernel_rfl) h)

/-- grammarlab/bits.Or -/
theorem b62 (a0 : List Int) (b1 : List Int) {r : Out}
  (h : (
    check (0 ≤ (if (List.length (List.map (eInt .u64) b1) : Int) > (List.length (List.map (eInt .u64) a0) : Int) then (List.length (List.map (eInt .u64) b1) : Int) else (List.length (List.map (eInt .u64) a0) : Int)) ∧ (if (List.length (List.map (eInt .u64) b1) : Int) > (List.length (List.map (eInt .u64) a0) : Int) then (List.length (List.map (eInt .u64) b1) : Int) else (List.length (List.map (eInt .u64) a0) : Int)) ≤ (if (List.length (List.map (eInt .u64) b1) : Int) > (List.length (List.map (eInt .u64) a0) : Int) then (List.length (List.map (eInt .u64) b1) : Int) else (List.length (List.map (eInt .u64) a0) : Int)) ∧ 8 * Int.toNat (if (List.length (List.map (eInt .u64) b1) : Int) > (List.length (List.map (eInt .u64) a0) : Int) then (List.length (List.map (eInt .u64) b1) : Int) else (List.length (List.map (eInt .u64) a0) : Int)) ≤ 281474976710656 ∧ (if (List.length (List.map (eInt .u64) b1) : Int) > (List.length (List.map (eInt .u64) a0) : Int) then (List.length (List.map (eInt .u64) b1) : Int) else (List.length (List.map (eInt .u64) a0) : Int)) ≤ 9223372036854775807) (
    headT P cods H prim 62 3 [] [(0, (.pv (.lst 1 (List.map (eInt .u64) a0)))), (1, (.pv (.lst 1 (List.map (eInt .u64) b1)))), (5, (.row 12)), (14, (.pv (.int .i64 (List.length (List.replicate (Int.toNat (if (List.length (List.map (eInt .u64) b1) : Int) > (List.length (List.map (eInt .u64) a0) : Int) then (List.length (List.map (eInt .u64) b1) : Int) else (List.length (List.map (eInt .u64) a0) : Int))) ((eInt .u64) 0)) : Int)))), (15, (.pv (.int .i64 0)))] [(12, (.row 37 1 (List.replicate (Int.toNat (if (List.length (List.map (eInt .u64) b1) : Int) > (List.length (List.map (eInt .u64) a0) : Int) then (List.length (List.map (eInt .u64) b1) : Int) else (List.length (List.map (eInt .u64) a0) : Int))) ((eInt .u64) 0))))])) = some r) :
  Rn 62 [(.pv (.lst 1 (List.map (eInt .u64) a0))), (.pv (.lst 1 (List.map (eInt .u64) b1)))] [] = some r :=
  run_body (C := cods) rfl (Eq.trans (by kernel_rfl) h)

/-- grammarlab/bits.Or, loop 3 -/
theorem L62_3 (a0 : List Int) (b1 : List Int) (v14 : Int) (v15 : Int) (o12 : List Int) {r : Out}
  (h : (
    bif (decide (v15 < v14)) then (
      callE (Rn 107 [(.pv (.lst 1 (List.map (eInt .u64) a0))), (.pv (.int .i64 v15))] []) fun r202 => asE R107.enc r202 fun y201 =>
      callE (Rn 107 [(.pv (.lst 1 (List.map (eInt .u64) b1))), (.pv (.int .i64 v15))] []) fun r204 => asE R107.enc r204 fun y203 =>
      check (0 ≤ v15 ∧ Int.toNat v15 < List.length (List.map (eInt .u64) o12)) (
      getN (List.map (eInt .u64) o12) (Int.toNat v15) fun c206 => asE (eInt .u64) c206 fun x205 =>
      headT P cods H prim 62 3 [] [(0, (.pv (.lst 1 (List.map (eInt .u64) a0)))), (1, (.pv (.lst 1 (List.map (eInt .u64) b1)))), (5, (.row 12)), (14, (.pv (.int .i64 v14))), (15, (.pv (.int .i64 (IntKind.wrap .i64 (v15 + 1)))))] [(12, (.row 37 1 ((List.map (eInt .u64) o12).set (Int.toNat v15) ((eInt .u64) (IntKind.wrap .u64 ((BitVec.ofInt (IntKind.bits .u64) y201 ||| BitVec.ofInt (IntKind.bits .u64) y203).toNat : Int))))))]))
    else (
      callE (Rn 68 [(.pv (.lst 1 (List.map (eInt .u64) o12)))] []) fun r208 => asE R68.enc r208 fun y207 =>
      callE (Rn 68 [(.pv (.lst 1 (List.map (eInt .u64) o12)))] []) fun r210 => asE R68.enc r210 fun y209 =>
      some ((.lst 1 (List.map (eInt .u64) y209)), []))) = some r) :
  headT P cods H prim 62 3 [] [(0, (.pv (.lst 1 (List.map (eInt .u64) a0)))), (1, (.pv (.lst 1 (List.map (eInt .u64) b1)))), (5, (.row 12)), (14, (.pv (.int .i64 v14))), (15, (.pv (.int .i64 v15)))] [(12, (.row 37 1 (List.map (eInt .u64) o12)))] = some r :=
  head_round (Eq.trans (by kernel_rfl) h)

/-- grammarlab/bits.Subset -/
theorem b63 (a0 : List Int) (b1 : List Int) {r : Out}
  (h : (
    headT P cods H prim 63 2 [] [(1, (.pv (.lst 1 (List.map (eInt .u64) b1)))), (7, (.pv (.lst 1 (List.map (eInt .u64) a0)))), (8, (.pv (.int .i64 (List.length (List.map (eInt .u64) a0) : Int)))), (9, (.pv (.int .i64 0)))] []) = some r) :
  Rn 63 [(.pv (.lst 1 (List.map (eInt .u64) a0))), (.pv (.lst 1 (List.map (eInt .u64) b1)))] [] = some r :=
  run_body (C := cods) rfl (Eq.trans (by kernel_rfl) h)

/-- grammarlab/bits.Subset, loop 2 -/
theorem L63_2 (b1 : List Int) (v7 : List Int) (v8 : Int) (v9 : Int) {r : Out}
  (h : (
    bif (decide (v9 < v8)) then (
      getK (List.map (eInt .u64) v7) v9 fun c202 => asE (eInt .u64) c202 fun x201 =>
      callE (Rn 107 [(.pv (.lst 1 (List.map (eInt .u64) b1))), (.pv (.int .i64 v9))] []) fun r204 => asE R107.enc r204 fun y203 =>
      bif ((IntKind.wrap .u64 ((BitVec.ofInt (IntKind.bits .u64) x201 &&& ~~~BitVec.ofInt (IntKind.bits .u64) y203).toNat : Int)) != 0) then (
        some ((.bool false), []))
      else (
        headT P cods H prim 63 2 [] [(1, (.pv (.lst 1 (List.map (eInt .u64) b1)))), (7, (.pv (.lst 1 (List.map (eInt .u64) v7)))), (8, (.pv (.int .i64 v8))), (9, (.pv (.int .i64 (IntKind.wrap .i64 (v9 + 1)))))] []))
    else (
      some ((.bool true), []))) = some r) :
  headT P cods H prim 63 2 [] [(1, (.pv (.lst 1 (List.map (eInt .u64) b1)))), (7, (.pv (.lst 1 (List.map (eInt .u64) v7)))), (8, (.pv (.int .i64 v8))), (9, (.pv (.int .i64 v9)))] [] = some r :=
  head_round (Eq.trans (by kernel_rfl) h)

/-- grammarlab/grammarlabref02.Or -/
theorem b64 (a0 : List Int) (b1 : List Int) {r : Out}
  (h : (
    headT P cods H prim 64 3 [] [(0, (.pv (.lst 1 (List.map (eInt .u64) a0)))), (1, (.pv (.lst 1 (List.map (eInt .u64) b1)))), (5, (.row 5)), (6, (.pv (.int .i64 0)))] [(5, (.row 37 1 (List.map (eInt .u64) [])))]) = some r) :
  Rn 64 [(.pv (.lst 1 (List.map (eInt .u64) a0))), (.pv (.lst 1 (List.map (eInt .u64) b1)))] [] = some r :=
  run_body (C := cods) rfl (Eq.trans (by kernel_rfl) h)

/-- grammarlab/grammarlabref02.Or, loop 3 -/
theorem L64_3 (a0 : List Int) (b1 : List Int) (i6 : Int) (o5 : List Int) {r : Out}
  (h : (
    bif (decide (i6 < (if (List.length (List.map (eInt .u64) b1) : Int) > (List.length (List.map (eInt .u64) a0) : Int) then (List.length (List.map (eInt .u64) b1) : Int) else (List.length (List.map (eInt .u64) a0) : Int)))) then (
      callE (Rn 106 [(.pv (.lst 1 (List.map (eInt .u64) a0))), (.pv (.int .i64 i6))] []) fun r202 => asE R106.enc r202 fun y201 =>
      callE (Rn 106 [(.pv (.lst 1 (List.map (eInt .u64) b1))), (.pv (.int .i64 i6))] []) fun r204 => asE R106.enc r204 fun y203 =>
      check ((List.length (List.map (eInt .u64) o5) + List.length (List.map (eInt .u64) [(IntKind.wrap .u64 ((BitVec.ofInt (IntKind.bits .u64) y201 ||| BitVec.ofInt (IntKind.bits .u64) y203).toNat : Int))])) * 8 ≤ 140737488355328 ∧ List.length (List.map (eInt .u64) o5) + List.length (List.map (eInt .u64) [(IntKind.wrap .u64 ((BitVec.ofInt (IntKind.bits .u64) y201 ||| BitVec.ofInt (IntKind.bits .u64) y203).toNat : Int))]) ≤ 4611686018427387904) (
      headT P cods H prim 64 3 [] [(0, (.pv (.lst 1 (List.map (eInt .u64) a0)))), (1, (.pv (.lst 1 (List.map (eInt .u64) b1)))), (5, (.row 5)), (6, (.pv (.int .i64 (IntKind.wrap .i64 (i6 + 1)))))] [(5, (.row 37 1 ((List.map (eInt .u64) o5) ++ (List.map (eInt .u64) [(IntKind.wrap .u64 ((BitVec.ofInt (IntKind.bits .u64) y201 ||| BitVec.ofInt (IntKind.bits .u64) y203).toNat : Int))]))))]))
    else (
      callE (Rn 60 [(.pv (.lst 1 (List.map (eInt .u64) o5)))] []) fun r206 => asE R60.enc r206 fun y205 =>
      callE (Rn 60 [(.pv (.lst 1 (List.map (eInt .u64) o5)))] []) fun r208 => asE R60.enc r208 fun y207 =>
      some ((.lst 1 (List.map (eInt .u64) y207)), []))) = some r) :
  headT P cods H prim 64 3 [] [(0, (.pv (.lst 1 (List.map (eInt .u64) a0)))), (1, (.pv (.lst 1 (List.map (eInt .u64) b1)))), (5, (.row 5)), (6, (.pv (.int .i64 i6)))] [(5, (.row 37 1 (List.map (eInt .u64) o5)))] = some r :=
  head_round (Eq.trans (by kernel_rfl) h)

/-- grammarlab/grammarlabref02.Subset -/
theorem b65 (a0 : List Int) (b1 : List Int) {r : Out}
  (h : (
    callE (Rn 108 [(.pv (.lst 1 (List.map (eInt .u64) a0))), (.pv (.lst 1 (List.map (eInt .u64) b1)))] []) fun r202 => asE R108.enc r202 fun y201 =>
    some ((.bool ((List.length (List.map (eInt .u64) y201) : Int) == 0)), [])) = some r) :
  Rn 65 [(.pv (.lst 1 (List.map (eInt .u64) a0))), (.pv (.lst 1 (List.map (eInt .u64) b1)))] [] = some r :=
  run_body (C := cods) rfl (Eq.trans (by kernel_rfl) h)

/-- grammarlab/closure.Supers$1 -/
theorem b66 (m0 : Int) (a1 : Int) (a2 : List Coded) {r : Out}
  (h : (
    bif (m0 != a1) then (
      callE (Rn 24 [(.pv (.lst 2 (List.map Coded.enc a2))), (.pv (.int .i64 a1)), (.pv (.int .i64 m0))] []) fun r202 => asE R24.enc r202 fun y201 =>
      some ((.bool y201), []))
    else (
      some ((.bool false), []))) = some r) :
  Rn 66 [(.pv (.int .i64 m0)), (.pv (.ref [(.int .i64 a1)])), (.pv (.ref [(.lst 2 (List.map Coded.enc a2))]))] [] = some r :=
  run_body (C := cods) rfl (Eq.trans (by kernel_rfl) h)

/-- slices.ContainsFunc[[]int,int] -/
theorem b67 (s0 : List Int) (f1_0 : Int) (f1_1 : List Coded) {r : Out}
  (h : (
    callE (Rn 109 [(.pv (.lst 1 (List.map (eInt .i64) s0))), (.pv (.fn 66 [(.ref [(.int .i64 f1_0)]), (.ref [(.lst 2 (List.map Coded.enc f1_1))])]))] []) fun r202 => asE R109.enc r202 fun y201 =>
    some ((.bool (decide (y201 ≥ 0))), [])) = some r) :
  Rn 67 [(.pv (.lst 1 (List.map (eInt .i64) s0))), (.pv (.fn 66 [(.ref [(.int .i64 f1_0)]), (.ref [(.lst 2 (List.map Coded.enc f1_1))])]))] [] = some r :=
  run_body (C := cods) rfl (Eq.trans (by kernel_rfl) h)

/-- grammarlab/bits.normal -/
theorem b68 (b0 : List Int) {r : Out}
  (h : (
    headT P cods H prim 68 2 [] [(0, (.pv (.lst 1 (List.map (eInt .u64) b0)))), (3, (.pv (.int .i64 (List.length (List.map (eInt .u64) b0) : Int))))] []) = some r) :
  Rn 68 [(.pv (.lst 1 (List.map (eInt .u64) b0)))] [] = some r :=
  run_body (C := cods) rfl (Eq.trans (by kernel_rfl) h)

/-- grammarlab/bits.normal, loop 2 -/
theorem L68_2 (b0 : List Int) (n3 : Int) {r : Out}
  (h : (
    bif (decide (n3 > 0)) then (
      getK (List.map (eInt .u64) b0) (IntKind.wrap .i64 (n3 - 1)) fun c202 => asE (eInt .u64) c202 fun x201 =>
      bif (x201 == 0) then (
        headT P cods H prim 68 2 [] [(0, (.pv (.lst 1 (List.map (eInt .u64) b0)))), (3, (.pv (.int .i64 (IntKind.wrap .i64 (n3 - 1)))))] [])
      else (
        check (0 ≤ n3 ∧ n3 ≤ (List.length (List.map (eInt .u64) b0) : Nat)) (
        some ((.lst 1 (((List.map (eInt .u64) b0).take (Int.toNat n3)).drop 0)), []))))
    else (
      check (0 ≤ n3 ∧ n3 ≤ (List.length (List.map (eInt .u64) b0) : Nat)) (
      some ((.lst 1 (((List.map (eInt .u64) b0).take (Int.toNat n3)).drop 0)), [])))) = some r) :
  headT P cods H prim 68 2 [] [(0, (.pv (.lst 1 (List.map (eInt .u64) b0)))), (3, (.pv (.int .i64 n3)))] [] = some r :=
  head_round (Eq.trans (by kernel_rfl) h)

/-- grammarlab/grammarlabref03.sizes -/
theorem b70 (d0 : List TypeDecl) {r : Out}
  (h : (
    bif (decide ((List.length (List.map TypeDecl.enc d0) : Int) > 256)) then (
      some ((.int .i64 7), []))
    else (
      headT P cods H prim 70 4 [] [(0, (.pv (.lst 3 (List.map TypeDecl.enc d0)))), (3, (.pv (.int .i64 0)))] [])) = some r) :
  Rn 70 [(.pv (.lst 3 (List.map TypeDecl.enc d0)))] [] = some r :=
  run_body (C := cods) rfl (Eq.trans (by kernel_rfl) h)

/-- grammarlab/grammarlabref03.sizes, loop 4 -/
theorem L70_4 (d0 : List TypeDecl) (i3 : Int) {r : Out}
  (h : (
    bif (decide (i3 < (List.length (List.map TypeDecl.enc d0) : Int))) then (
      getK (List.map TypeDecl.enc d0) i3 fun c202 => asE TypeDecl.enc c202 fun x201 =>
      bif (decide ((List.length (List.map eStr x201.Supers) : Int) > 256)) then (
        some ((.int .i64 7), []))
      else (
        getK (List.map TypeDecl.enc d0) i3 fun c204 => asE TypeDecl.enc c204 fun x203 =>
        bif (decide ((List.length (List.map FeatDecl.enc x203.Feats) : Int) > 256)) then (
          some ((.int .i64 7), []))
        else (
          headT P cods H prim 70 4 [] [(0, (.pv (.lst 3 (List.map TypeDecl.enc d0)))), (3, (.pv (.int .i64 (IntKind.wrap .i64 (i3 + 1)))))] [])))
    else (
      some ((.int .i64 0), []))) = some r) :
  headT P cods H prim 70 4 [] [(0, (.pv (.lst 3 (List.map TypeDecl.enc d0)))), (3, (.pv (.int .i64 i3)))] [] = some r :=
  head_round (Eq.trans (by kernel_rfl) h)

/-- grammarlab/grammarlabref03.names -/
theorem b71 (d0 : List TypeDecl) {r : Out}
  (h : (
    headT P cods H prim 71 2 [] [(0, (.pv (.lst 3 (List.map TypeDecl.enc d0)))), (3, (.pv (.int .i64 0)))] []) = some r) :
  Rn 71 [(.pv (.lst 3 (List.map TypeDecl.enc d0)))] [] = some r :=
  run_body (C := cods) rfl (Eq.trans (by kernel_rfl) h)

/-- grammarlab/grammarlabref03.names, loop 2 -/
theorem L71_2 (d0 : List TypeDecl) (i3 : Int) {r : Out}
  (h : (
    bif (decide (i3 < (List.length (List.map TypeDecl.enc d0) : Int))) then (
      getK (List.map TypeDecl.enc d0) i3 fun c202 => asE TypeDecl.enc c202 fun x201 =>
      callE (Rn 110 [(.pv (.str x201.Name))] []) fun r204 => asE R110.enc r204 fun y203 =>
      bif (!y203) then (
        some ((.int .i64 1), []))
      else (
        getK (List.map TypeDecl.enc d0) i3 fun c206 => asE TypeDecl.enc c206 fun x205 =>
        callE (Rn 111 [(.pv (.lst 3 (List.map TypeDecl.enc d0))), (.pv (.str x205.Name))] []) fun r208 => asE R111.enc r208 fun y207 =>
        bif (decide (y207 < i3)) then (
          some ((.int .i64 4), []))
        else (
          headT P cods H prim 71 2 [] [(0, (.pv (.lst 3 (List.map TypeDecl.enc d0)))), (3, (.pv (.int .i64 (IntKind.wrap .i64 (i3 + 1)))))] [])))
    else (
      some ((.int .i64 0), []))) = some r) :
  headT P cods H prim 71 2 [] [(0, (.pv (.lst 3 (List.map TypeDecl.enc d0)))), (3, (.pv (.int .i64 i3)))] [] = some r :=
  head_round (Eq.trans (by kernel_rfl) h)

/-- grammarlab/grammarlabref03.supers -/
theorem b72 (d0 : List TypeDecl) {r : Out}
  (h : (
    headT P cods H prim 72 2 [] [(0, (.pv (.lst 3 (List.map TypeDecl.enc d0)))), (3, (.pv (.int .i64 0)))] []) = some r) :
  Rn 72 [(.pv (.lst 3 (List.map TypeDecl.enc d0)))] [] = some r :=
  run_body (C := cods) rfl (Eq.trans (by kernel_rfl) h)

/-- grammarlab/grammarlabref03.supers, loop 2 -/
theorem L72_2 (d0 : List TypeDecl) (i3 : Int) {r : Out}
  (h : (
    bif (decide (i3 < (List.length (List.map TypeDecl.enc d0) : Int))) then (
      getK (List.map TypeDecl.enc d0) i3 fun c202 => asE TypeDecl.enc c202 fun x201 =>
      headT P cods H prim 72 6 [] [(0, (.pv (.lst 3 (List.map TypeDecl.enc d0)))), (3, (.pv (.int .i64 i3))), (4, (.pv (.lst 1 (List.map eStr x201.Supers)))), (5, (.pv (.int .i64 0)))] [])
    else (
      some ((.int .i64 0), []))) = some r) :
  headT P cods H prim 72 2 [] [(0, (.pv (.lst 3 (List.map TypeDecl.enc d0)))), (3, (.pv (.int .i64 i3)))] [] = some r :=
  head_round (Eq.trans (by kernel_rfl) h)

/-- grammarlab/grammarlabref03.supers, loop 6 -/
theorem L72_6 (d0 : List TypeDecl) (i3 : Int) (l4 : List (List UInt8)) (k5 : Int) {r : Out}
  (h : (
    bif (decide (k5 < (List.length (List.map eStr l4) : Int))) then (
      getK (List.map eStr l4) k5 fun c202 => asE eStr c202 fun x201 =>
      callE (Rn 111 [(.pv (.lst 3 (List.map TypeDecl.enc d0))), (.pv (.str x201))] []) fun r204 => asE R111.enc r204 fun y203 =>
      bif (decide (y203 < 0)) then (
        some ((.int .i64 5), []))
      else (
        check (0 ≤ k5 ∧ k5 ≤ (List.length (List.map eStr l4) : Nat)) (
        getK (List.map eStr l4) k5 fun c206 => asE eStr c206 fun x205 =>
        callE (Rn 37 [(.pv (.lst 1 (((List.map eStr l4).take (Int.toNat k5)).drop 0))), (.pv (.str x205))] []) fun r208 => asE R37.enc r208 fun y207 =>
        bif y207 then (
          some ((.int .i64 4), []))
        else (
          headT P cods H prim 72 6 [] [(0, (.pv (.lst 3 (List.map TypeDecl.enc d0)))), (3, (.pv (.int .i64 i3))), (4, (.pv (.lst 1 (List.map eStr l4)))), (5, (.pv (.int .i64 (IntKind.wrap .i64 (k5 + 1)))))] []))))
    else (
      headT P cods H prim 72 2 [] [(0, (.pv (.lst 3 (List.map TypeDecl.enc d0)))), (3, (.pv (.int .i64 (IntKind.wrap .i64 (i3 + 1)))))] [])) = some r) :
  headT P cods H prim 72 6 [] [(0, (.pv (.lst 3 (List.map TypeDecl.enc d0)))), (3, (.pv (.int .i64 i3))), (4, (.pv (.lst 1 (List.map eStr l4)))), (5, (.pv (.int .i64 k5)))] [] = some r :=
  head_round (Eq.trans (by kernel_rfl) h)

/-- grammarlab/grammarlabref03.placed -/
theorem b73 (d0 : List TypeDecl) {r : Out}
  (h : (
    headT P cods H prim 73 3 [] [(0, (.pv (.lst 3 (List.map TypeDecl.enc d0)))), (3, (.row 3)), (4, (.pv (.bool true)))] [(3, (.row 9 1 (List.map eStr [])))]) = some r) :
  Rn 73 [(.pv (.lst 3 (List.map TypeDecl.enc d0)))] [] = some r :=
  run_body (C := cods) rfl (Eq.trans (by kernel_rfl) h)

/-- grammarlab/grammarlabref03.placed, loop 3 -/
theorem L73_3 (d0 : List TypeDecl) (more4 : Bool) (o3 : List (List UInt8)) {r : Out}
  (h : (
    bif more4 then (
      headT P cods H prim 73 7 [] [(0, (.pv (.lst 3 (List.map TypeDecl.enc d0)))), (3, (.row 3)), (4, (.pv (.bool false))), (5, (.pv (.str []))), (6, (.pv (.int .i64 0)))] [(3, (.row 9 1 (List.map eStr o3)))])
    else (
      some ((.lst 1 (List.map eStr o3)), []))) = some r) :
  headT P cods H prim 73 3 [] [(0, (.pv (.lst 3 (List.map TypeDecl.enc d0)))), (3, (.row 3)), (4, (.pv (.bool more4)))] [(3, (.row 9 1 (List.map eStr o3)))] = some r :=
  head_round (Eq.trans (by kernel_rfl) h)

/-- grammarlab/grammarlabref03.placed, loop 7 -/
theorem L73_7 (d0 : List TypeDecl) (more4 : Bool) (next5 : List UInt8) (i6 : Int) (o3 : List (List UInt8)) {r : Out}
  (h : (
    bif (decide (i6 < (List.length (List.map TypeDecl.enc d0) : Int))) then (
      getK (List.map TypeDecl.enc d0) i6 fun c202 => asE TypeDecl.enc c202 fun x201 =>
      callE (Rn 37 [(.pv (.lst 1 (List.map eStr o3))), (.pv (.str x201.Name))] []) fun r204 => asE R37.enc r204 fun y203 =>
      bif y203 then (
        headT P cods H prim 73 7 [] [(0, (.pv (.lst 3 (List.map TypeDecl.enc d0)))), (3, (.row 3)), (4, (.pv (.bool more4))), (5, (.pv (.str next5))), (6, (.pv (.int .i64 (IntKind.wrap .i64 (i6 + 1)))))] [(3, (.row 9 1 (List.map eStr o3)))])
      else (
        getK (List.map TypeDecl.enc d0) i6 fun c206 => asE TypeDecl.enc c206 fun x205 =>
        callE (Rn 112 [(.pv (.agg (TypeDecl.enc x205))), (.pv (.lst 1 (List.map eStr o3)))] []) fun r208 => asE R112.enc r208 fun y207 =>
        bif (!y207) then (
          headT P cods H prim 73 7 [] [(0, (.pv (.lst 3 (List.map TypeDecl.enc d0)))), (3, (.row 3)), (4, (.pv (.bool more4))), (5, (.pv (.str next5))), (6, (.pv (.int .i64 (IntKind.wrap .i64 (i6 + 1)))))] [(3, (.row 9 1 (List.map eStr o3)))])
        else (
          bif (!more4) then (
            getK (List.map TypeDecl.enc d0) i6 fun c210 => asE TypeDecl.enc c210 fun x209 =>
            headT P cods H prim 73 7 [] [(0, (.pv (.lst 3 (List.map TypeDecl.enc d0)))), (3, (.row 3)), (4, (.pv (.bool true))), (5, (.pv (.str x209.Name))), (6, (.pv (.int .i64 (IntKind.wrap .i64 (i6 + 1)))))] [(3, (.row 9 1 (List.map eStr o3)))])
          else (
            getK (List.map TypeDecl.enc d0) i6 fun c212 => asE TypeDecl.enc c212 fun x211 =>
            bif (Op.bytesLess x211.Name next5) then (
              getK (List.map TypeDecl.enc d0) i6 fun c214 => asE TypeDecl.enc c214 fun x213 =>
              headT P cods H prim 73 7 [] [(0, (.pv (.lst 3 (List.map TypeDecl.enc d0)))), (3, (.row 3)), (4, (.pv (.bool true))), (5, (.pv (.str x213.Name))), (6, (.pv (.int .i64 (IntKind.wrap .i64 (i6 + 1)))))] [(3, (.row 9 1 (List.map eStr o3)))])
            else (
              headT P cods H prim 73 7 [] [(0, (.pv (.lst 3 (List.map TypeDecl.enc d0)))), (3, (.row 3)), (4, (.pv (.bool true))), (5, (.pv (.str next5))), (6, (.pv (.int .i64 (IntKind.wrap .i64 (i6 + 1)))))] [(3, (.row 9 1 (List.map eStr o3)))])))))
    else (
      bif more4 then (
        check ((List.length (List.map eStr o3) + List.length (List.map eStr [next5])) * 16 ≤ 140737488355328 ∧ List.length (List.map eStr o3) + List.length (List.map eStr [next5]) ≤ 4611686018427387904) (
        headT P cods H prim 73 3 [] [(0, (.pv (.lst 3 (List.map TypeDecl.enc d0)))), (3, (.row 3)), (4, (.pv (.bool more4)))] [(3, (.row 9 1 ((List.map eStr o3) ++ (List.map eStr [next5]))))]))
      else (
        headT P cods H prim 73 3 [] [(0, (.pv (.lst 3 (List.map TypeDecl.enc d0)))), (3, (.row 3)), (4, (.pv (.bool more4)))] [(3, (.row 9 1 (List.map eStr o3)))]))) = some r) :
  headT P cods H prim 73 7 [] [(0, (.pv (.lst 3 (List.map TypeDecl.enc d0)))), (3, (.row 3)), (4, (.pv (.bool more4))), (5, (.pv (.str next5))), (6, (.pv (.int .i64 i6)))] [(3, (.row 9 1 (List.map eStr o3)))] = some r :=
  head_round (Eq.trans (by kernel_rfl) h)

/-- grammarlab/grammarlabref03.Put -/
theorem b98 (l0 : List (List UInt8)) (s1 : List UInt8) {r : Out}
  (h : (
    headT P cods H prim 98 3 [] [(0, (.pv (.lst 1 (List.map eStr l0)))), (1, (.pv (.str s1))), (5, (.row 5)), (6, (.pv (.int .i64 0)))] [(5, (.row 9 1 (List.map eStr [])))]) = some r) :
  Rn 98 [(.pv (.lst 1 (List.map eStr l0))), (.pv (.str s1))] [] = some r :=
  run_body (C := cods) rfl (Eq.trans (by kernel_rfl) h)

/-- grammarlab/grammarlabref03.Put, loop 3 -/
theorem L98_3 (l0 : List (List UInt8)) (s1 : List UInt8) (v6 : Int) (o5 : List (List UInt8)) {r : Out}
  (h : (
    bif (decide (v6 < (List.length (List.map eStr l0) : Int))) then (
      getK (List.map eStr l0) v6 fun c202 => asE eStr c202 fun x201 =>
      bif (Op.bytesLess x201 s1) then (
        headT P cods H prim 98 3 [] [(0, (.pv (.lst 1 (List.map eStr l0)))), (1, (.pv (.str s1))), (5, (.row 5)), (6, (.pv (.int .i64 (IntKind.wrap .i64 (v6 + 1)))))] [(5, (.row 9 1 (List.map eStr o5)))])
      else (
        bif (decide (v6 < (List.length (List.map eStr l0) : Int))) then (
          getK (List.map eStr l0) v6 fun c204 => asE eStr c204 fun x203 =>
          bif (x203 == s1) then (
            some ((.lst 1 (List.map eStr l0)), []))
          else (
            check (0 ≤ v6 ∧ v6 ≤ (List.length (List.map eStr l0) : Nat)) (
            check ((List.length (List.map eStr o5) + List.length (((List.map eStr l0).take (Int.toNat v6)).drop 0)) * 16 ≤ 140737488355328 ∧ List.length (List.map eStr o5) + List.length (((List.map eStr l0).take (Int.toNat v6)).drop 0) ≤ 4611686018427387904) (
            check ((List.length ((List.map eStr o5) ++ (((List.map eStr l0).take (Int.toNat v6)).drop 0)) + List.length (List.map eStr [s1])) * 16 ≤ 140737488355328 ∧ List.length ((List.map eStr o5) ++ (((List.map eStr l0).take (Int.toNat v6)).drop 0)) + List.length (List.map eStr [s1]) ≤ 4611686018427387904) (
            check (0 ≤ v6 ∧ v6 ≤ (List.length (List.map eStr l0) : Nat)) (
            check ((List.length (((List.map eStr o5) ++ (((List.map eStr l0).take (Int.toNat v6)).drop 0)) ++ (List.map eStr [s1])) + List.length (((List.map eStr l0).take (List.length (List.map eStr l0))).drop (Int.toNat v6))) * 16 ≤ 140737488355328 ∧ List.length (((List.map eStr o5) ++ (((List.map eStr l0).take (Int.toNat v6)).drop 0)) ++ (List.map eStr [s1])) + List.length (((List.map eStr l0).take (List.length (List.map eStr l0))).drop (Int.toNat v6)) ≤ 4611686018427387904) (
            some ((.lst 1 ((((List.map eStr o5) ++ (((List.map eStr l0).take (Int.toNat v6)).drop 0)) ++ (List.map eStr [s1])) ++ (((List.map eStr l0).take (List.length (List.map eStr l0))).drop (Int.toNat v6)))), []))))))))
        else (
          check (0 ≤ v6 ∧ v6 ≤ (List.length (List.map eStr l0) : Nat)) (
          check ((List.length (List.map eStr o5) + List.length (((List.map eStr l0).take (Int.toNat v6)).drop 0)) * 16 ≤ 140737488355328 ∧ List.length (List.map eStr o5) + List.length (((List.map eStr l0).take (Int.toNat v6)).drop 0) ≤ 4611686018427387904) (
          check ((List.length ((List.map eStr o5) ++ (((List.map eStr l0).take (Int.toNat v6)).drop 0)) + List.length (List.map eStr [s1])) * 16 ≤ 140737488355328 ∧ List.length ((List.map eStr o5) ++ (((List.map eStr l0).take (Int.toNat v6)).drop 0)) + List.length (List.map eStr [s1]) ≤ 4611686018427387904) (
          check (0 ≤ v6 ∧ v6 ≤ (List.length (List.map eStr l0) : Nat)) (
          check ((List.length (((List.map eStr o5) ++ (((List.map eStr l0).take (Int.toNat v6)).drop 0)) ++ (List.map eStr [s1])) + List.length (((List.map eStr l0).take (List.length (List.map eStr l0))).drop (Int.toNat v6))) * 16 ≤ 140737488355328 ∧ List.length (((List.map eStr o5) ++ (((List.map eStr l0).take (Int.toNat v6)).drop 0)) ++ (List.map eStr [s1])) + List.length (((List.map eStr l0).take (List.length (List.map eStr l0))).drop (Int.toNat v6)) ≤ 4611686018427387904) (
          some ((.lst 1 ((((List.map eStr o5) ++ (((List.map eStr l0).take (Int.toNat v6)).drop 0)) ++ (List.map eStr [s1])) ++ (((List.map eStr l0).take (List.length (List.map eStr l0))).drop (Int.toNat v6)))), [])))))))))
    else (
      bif (decide (v6 < (List.length (List.map eStr l0) : Int))) then (
        getK (List.map eStr l0) v6 fun c206 => asE eStr c206 fun x205 =>
        bif (x205 == s1) then (
          some ((.lst 1 (List.map eStr l0)), []))
        else (
          check (0 ≤ v6 ∧ v6 ≤ (List.length (List.map eStr l0) : Nat)) (
          check ((List.length (List.map eStr o5) + List.length (((List.map eStr l0).take (Int.toNat v6)).drop 0)) * 16 ≤ 140737488355328 ∧ List.length (List.map eStr o5) + List.length (((List.map eStr l0).take (Int.toNat v6)).drop 0) ≤ 4611686018427387904) (
          check ((List.length ((List.map eStr o5) ++ (((List.map eStr l0).take (Int.toNat v6)).drop 0)) + List.length (List.map eStr [s1])) * 16 ≤ 140737488355328 ∧ List.length ((List.map eStr o5) ++ (((List.map eStr l0).take (Int.toNat v6)).drop 0)) + List.length (List.map eStr [s1]) ≤ 4611686018427387904) (
          check (0 ≤ v6 ∧ v6 ≤ (List.length (List.map eStr l0) : Nat)) (
          check ((List.length (((List.map eStr o5) ++ (((List.map eStr l0).take (Int.toNat v6)).drop 0)) ++ (List.map eStr [s1])) + List.length (((List.map eStr l0).take (List.length (List.map eStr l0))).drop (Int.toNat v6))) * 16 ≤ 140737488355328 ∧ List.length (((List.map eStr o5) ++ (((List.map eStr l0).take (Int.toNat v6)).drop 0)) ++ (List.map eStr [s1])) + List.length (((List.map eStr l0).take (List.length (List.map eStr l0))).drop (Int.toNat v6)) ≤ 4611686018427387904) (
          some ((.lst 1 ((((List.map eStr o5) ++ (((List.map eStr l0).take (Int.toNat v6)).drop 0)) ++ (List.map eStr [s1])) ++ (((List.map eStr l0).take (List.length (List.map eStr l0))).drop (Int.toNat v6)))), []))))))))
      else (
        check (0 ≤ v6 ∧ v6 ≤ (List.length (List.map eStr l0) : Nat)) (
        check ((List.length (List.map eStr o5) + List.length (((List.map eStr l0).take (Int.toNat v6)).drop 0)) * 16 ≤ 140737488355328 ∧ List.length (List.map eStr o5) + List.length (((List.map eStr l0).take (Int.toNat v6)).drop 0) ≤ 4611686018427387904) (
        check ((List.length ((List.map eStr o5) ++ (((List.map eStr l0).take (Int.toNat v6)).drop 0)) + List.length (List.map eStr [s1])) * 16 ≤ 140737488355328 ∧ List.length ((List.map eStr o5) ++ (((List.map eStr l0).take (Int.toNat v6)).drop 0)) + List.length (List.map eStr [s1]) ≤ 4611686018427387904) (
        check (0 ≤ v6 ∧ v6 ≤ (List.length (List.map eStr l0) : Nat)) (
        check ((List.length (((List.map eStr o5) ++ (((List.map eStr l0).take (Int.toNat v6)).drop 0)) ++ (List.map eStr [s1])) + List.length (((List.map eStr l0).take (List.length (List.map eStr l0))).drop (Int.toNat v6))) * 16 ≤ 140737488355328 ∧ List.length (((List.map eStr o5) ++ (((List.map eStr l0).take (Int.toNat v6)).drop 0)) ++ (List.map eStr [s1])) + List.length (((List.map eStr l0).take (List.length (List.map eStr l0))).drop (Int.toNat v6)) ≤ 4611686018427387904) (
        some ((.lst 1 ((((List.map eStr o5) ++ (((List.map eStr l0).take (Int.toNat v6)).drop 0)) ++ (List.map eStr [s1])) ++ (((List.map eStr l0).take (List.length (List.map eStr l0))).drop (Int.toNat v6)))), []))))))))) = some r) :
  headT P cods H prim 98 3 [] [(0, (.pv (.lst 1 (List.map eStr l0)))), (1, (.pv (.str s1))), (5, (.row 5)), (6, (.pv (.int .i64 v6)))] [(5, (.row 9 1 (List.map eStr o5)))] = some r :=
  head_round (Eq.trans (by kernel_rfl) h)

/-- grammarlab/grammarlabref03.Below -/
theorem b99 (d0 : List TypeDecl) (name1 : List UInt8) {r : Out}
  (h : (
    callE (Rn 111 [(.pv (.lst 3 (List.map TypeDecl.enc d0))), (.pv (.str name1))] []) fun r202 => asE R111.enc r202 fun y201 =>
    bif (decide (y201 < 0)) then (
      some ((.lst 1 (List.map eStr [])), []))
    else (
      headT P cods H prim 99 5 [] [(0, (.pv (.lst 3 (List.map TypeDecl.enc d0)))), (5, (.row 15)), (6, (.pv (.int .i64 0)))] [(15, (.row 9 1 (List.map eStr [name1])))])) = some r) :
  Rn 99 [(.pv (.lst 3 (List.map TypeDecl.enc d0))), (.pv (.str name1))] [] = some r :=
  run_body (C := cods) rfl (Eq.trans (by kernel_rfl) h)

/-- grammarlab/grammarlabref03.Below, loop 5 -/
theorem L99_5 (d0 : List TypeDecl) (i6 : Int) (o15 : List (List UInt8)) {r : Out}
  (h : (
    bif (decide (i6 < (List.length (List.map eStr o15) : Int))) then (
      headT P cods H prim 99 8 [] [(0, (.pv (.lst 3 (List.map TypeDecl.enc d0)))), (5, (.row 15)), (6, (.pv (.int .i64 i6))), (7, (.pv (.int .i64 0)))] [(15, (.row 9 1 (List.map eStr o15)))])
    else (
      headT P cods H prim 99 14 [] [(5, (.row 15)), (8, (.pv (.lst 1 (List.map eStr [])))), (9, (.pv (.int .i64 0)))] [(15, (.row 9 1 (List.map eStr o15)))])) = some r) :
  headT P cods H prim 99 5 [] [(0, (.pv (.lst 3 (List.map TypeDecl.enc d0)))), (5, (.row 15)), (6, (.pv (.int .i64 i6)))] [(15, (.row 9 1 (List.map eStr o15)))] = some r :=
  head_round (Eq.trans (by kernel_rfl) h)

/-- grammarlab/grammarlabref03.Below, loop 8 -/
theorem L99_8 (d0 : List TypeDecl) (i6 : Int) (k7 : Int) (o15 : List (List UInt8)) {r : Out}
  (h : (
    bif (decide (k7 < (List.length (List.map TypeDecl.enc d0) : Int))) then (
      getK (List.map TypeDecl.enc d0) k7 fun c202 => asE TypeDecl.enc c202 fun x201 =>
      check (0 ≤ i6 ∧ Int.toNat i6 < List.length (List.map eStr o15)) (
      getN (List.map eStr o15) (Int.toNat i6) fun c204 => asE eStr c204 fun x203 =>
      callE (Rn 37 [(.pv (.lst 1 (List.map eStr x201.Supers))), (.pv (.str x203))] []) fun r206 => asE R37.enc r206 fun y205 =>
      bif y205 then (
        getK (List.map TypeDecl.enc d0) k7 fun c208 => asE TypeDecl.enc c208 fun x207 =>
        callE (Rn 37 [(.pv (.lst 1 (List.map eStr o15))), (.pv (.str x207.Name))] []) fun r210 => asE R37.enc r210 fun y209 =>
        bif (!y209) then (
          getK (List.map TypeDecl.enc d0) k7 fun c212 => asE TypeDecl.enc c212 fun x211 =>
          check ((List.length (List.map eStr o15) + List.length (List.map eStr [x211.Name])) * 16 ≤ 140737488355328 ∧ List.length (List.map eStr o15) + List.length (List.map eStr [x211.Name]) ≤ 4611686018427387904) (
          headT P cods H prim 99 8 [] [(0, (.pv (.lst 3 (List.map TypeDecl.enc d0)))), (5, (.row 15)), (6, (.pv (.int .i64 i6))), (7, (.pv (.int .i64 (IntKind.wrap .i64 (k7 + 1)))))] [(15, (.row 9 1 ((List.map eStr o15) ++ (List.map eStr [x211.Name]))))]))
        else (
          headT P cods H prim 99 8 [] [(0, (.pv (.lst 3 (List.map TypeDecl.enc d0)))), (5, (.row 15)), (6, (.pv (.int .i64 i6))), (7, (.pv (.int .i64 (IntKind.wrap .i64 (k7 + 1)))))] [(15, (.row 9 1 (List.map eStr o15)))]))
      else (
        headT P cods H prim 99 8 [] [(0, (.pv (.lst 3 (List.map TypeDecl.enc d0)))), (5, (.row 15)), (6, (.pv (.int .i64 i6))), (7, (.pv (.int .i64 (IntKind.wrap .i64 (k7 + 1)))))] [(15, (.row 9 1 (List.map eStr o15)))])))
    else (
      headT P cods H prim 99 5 [] [(0, (.pv (.lst 3 (List.map TypeDecl.enc d0)))), (5, (.row 15)), (6, (.pv (.int .i64 (IntKind.wrap .i64 (i6 + 1)))))] [(15, (.row 9 1 (List.map eStr o15)))])) = some r) :
  headT P cods H prim 99 8 [] [(0, (.pv (.lst 3 (List.map TypeDecl.enc d0)))), (5, (.row 15)), (6, (.pv (.int .i64 i6))), (7, (.pv (.int .i64 k7)))] [(15, (.row 9 1 (List.map eStr o15)))] = some r :=
  head_round (Eq.trans (by kernel_rfl) h)

/-- grammarlab/grammarlabref03.Below, loop 14 -/
theorem L99_14 (out8 : List (List UInt8)) (i9 : Int) (o15 : List (List UInt8)) {r : Out}
  (h : (
    bif (decide (i9 < (List.length (List.map eStr o15) : Int))) then (
      check (0 ≤ i9 ∧ Int.toNat i9 < List.length (List.map eStr o15)) (
      getN (List.map eStr o15) (Int.toNat i9) fun c202 => asE eStr c202 fun x201 =>
      callE (Rn 98 [(.pv (.lst 1 (List.map eStr out8))), (.pv (.str x201))] []) fun r204 => asE R98.enc r204 fun y203 =>
      headT P cods H prim 99 14 [] [(5, (.row 15)), (8, (.pv (.lst 1 (List.map eStr y203)))), (9, (.pv (.int .i64 (IntKind.wrap .i64 (i9 + 1)))))] [(15, (.row 9 1 (List.map eStr o15)))]))
    else (
      some ((.lst 1 (List.map eStr out8)), []))) = some r) :
  headT P cods H prim 99 14 [] [(5, (.row 15)), (8, (.pv (.lst 1 (List.map eStr out8)))), (9, (.pv (.int .i64 i9)))] [(15, (.row 9 1 (List.map eStr o15)))] = some r :=
  head_round (Eq.trans (by kernel_rfl) h)

/-- grammarlab/grammarlabref02.Of -/
theorem b100 (l0 : List Int) {r : Out}
  (h : (
    check (0 ≤ 64 ∧ 64 ≤ 64 ∧ 8 * Int.toNat 64 ≤ 281474976710656 ∧ 64 ≤ 9223372036854775807) (
    headT P cods H prim 100 3 [] [(0, (.pv (.lst 1 (List.map (eInt .i64) l0)))), (4, (.row 6)), (5, (.pv (.int .i64 0)))] [(6, (.row 37 1 (List.replicate (Int.toNat 64) ((eInt .u64) 0))))])) = some r) :
  Rn 100 [(.pv (.lst 1 (List.map (eInt .i64) l0)))] [] = some r :=
  run_body (C := cods) rfl (Eq.trans (by kernel_rfl) h)

/-- grammarlab/grammarlabref02.Of, loop 3 -/
theorem L100_3 (l0 : List Int) (i5 : Int) (o6 : List Int) {r : Out}
  (h : (
    bif (decide (i5 < (List.length (List.map (eInt .i64) l0) : Int))) then (
      getK (List.map (eInt .i64) l0) i5 fun c202 => asE (eInt .i64) c202 fun x201 =>
      bif (decide (x201 < 0)) then (
        some ((.tup [(.lst 1 (List.map (eInt .u64) [])), (.int .i64 2)]), []))
      else (
        getK (List.map (eInt .i64) l0) i5 fun c204 => asE (eInt .i64) c204 fun x203 =>
        bif (decide (x203 > 4095)) then (
          some ((.tup [(.lst 1 (List.map (eInt .u64) [])), (.int .i64 2)]), []))
        else (
          getK (List.map (eInt .i64) l0) i5 fun c206 => asE (eInt .i64) c206 fun x205 =>
          check (64 ≠ 0) (
          getK (List.map (eInt .i64) l0) i5 fun c208 => asE (eInt .i64) c208 fun x207 =>
          check (64 ≠ 0) (
          check (0 ≤ (IntKind.wrap .i64 (Int.tdiv x207 64)) ∧ Int.toNat (IntKind.wrap .i64 (Int.tdiv x207 64)) < List.length (List.map (eInt .u64) o6)) (
          getN (List.map (eInt .u64) o6) (Int.toNat (IntKind.wrap .i64 (Int.tdiv x207 64))) fun c210 => asE (eInt .u64) c210 fun x209 =>
          getK (List.map (eInt .i64) l0) i5 fun c212 => asE (eInt .i64) c212 fun x211 =>
          check (64 ≠ 0) (
          check (0 ≤ (IntKind.wrap .u64 ((Int.tmod x211 64)))) (
          check (0 ≤ (IntKind.wrap .i64 (Int.tdiv x205 64)) ∧ Int.toNat (IntKind.wrap .i64 (Int.tdiv x205 64)) < List.length (List.map (eInt .u64) o6)) (
          getN (List.map (eInt .u64) o6) (Int.toNat (IntKind.wrap .i64 (Int.tdiv x205 64))) fun c214 => asE (eInt .u64) c214 fun x213 =>
          headT P cods H prim 100 3 [] [(0, (.pv (.lst 1 (List.map (eInt .i64) l0)))), (4, (.row 6)), (5, (.pv (.int .i64 (IntKind.wrap .i64 (i5 + 1)))))] [(6, (.row 37 1 ((List.map (eInt .u64) o6).set (Int.toNat (IntKind.wrap .i64 (Int.tdiv x205 64))) ((eInt .u64) (IntKind.wrap .u64 ((BitVec.ofInt (IntKind.bits .u64) x209 ||| BitVec.ofInt (IntKind.bits .u64) (IntKind.wrap .u64 (1 * 2 ^ min (Int.toNat (IntKind.wrap .u64 ((Int.tmod x211 64)))) (IntKind.bits .u64)))).toNat : Int))))))])))))))))
    else (
      callE (Rn 60 [(.pv (.lst 1 (List.map (eInt .u64) o6)))] []) fun r216 => asE R60.enc r216 fun y215 =>
      callE (Rn 60 [(.pv (.lst 1 (List.map (eInt .u64) o6)))] []) fun r218 => asE R60.enc r218 fun y217 =>
      some ((.tup [(.lst 1 (List.map (eInt .u64) y217)), (.int .i64 0)]), []))) = some r) :
  headT P cods H prim 100 3 [] [(0, (.pv (.lst 1 (List.map (eInt .i64) l0)))), (4, (.row 6)), (5, (.pv (.int .i64 i5)))] [(6, (.row 37 1 (List.map (eInt .u64) o6)))] = some r :=
  head_round (Eq.trans (by kernel_rfl) h)

/-- grammarlab/grammarlabref04.in -/
theorem b101 (l0 : List (List Int)) (b1 : List Int) {r : Out}
  (h : (
    headT P cods H prim 101 2 [] [(0, (.pv (.lst 1 (List.map (eLst 1 (eInt .u64)) l0)))), (1, (.pv (.lst 1 (List.map (eInt .u64) b1)))), (5, (.pv (.int .i64 0)))] []) = some r) :
  Rn 101 [(.pv (.lst 1 (List.map (eLst 1 (eInt .u64)) l0))), (.pv (.lst 1 (List.map (eInt .u64) b1)))] [] = some r :=
  run_body (C := cods) rfl (Eq.trans (by kernel_rfl) h)

/-- grammarlab/grammarlabref04.in, loop 2 -/
theorem L101_2 (l0 : List (List Int)) (b1 : List Int) (i5 : Int) {r : Out}
  (h : (
    bif (decide (i5 < (List.length (List.map (eLst 1 (eInt .u64)) l0) : Int))) then (
      getK (List.map (eLst 1 (eInt .u64)) l0) i5 fun c202 => asE (eLst 1 (eInt .u64)) c202 fun x201 =>
      callE (Rn 57 [(.pv (.lst 1 (List.map (eInt .u64) x201))), (.pv (.lst 1 (List.map (eInt .u64) b1)))] []) fun r204 => asE R57.enc r204 fun y203 =>
      bif y203 then (
        some ((.bool true), []))
      else (
        headT P cods H prim 101 2 [] [(0, (.pv (.lst 1 (List.map (eLst 1 (eInt .u64)) l0)))), (1, (.pv (.lst 1 (List.map (eInt .u64) b1)))), (5, (.pv (.int .i64 (IntKind.wrap .i64 (i5 + 1)))))] []))
    else (
      some ((.bool false), []))) = some r) :
  headT P cods H prim 101 2 [] [(0, (.pv (.lst 1 (List.map (eLst 1 (eInt .u64)) l0)))), (1, (.pv (.lst 1 (List.map (eInt .u64) b1)))), (5, (.pv (.int .i64 i5)))] [] = some r :=
  head_round (Eq.trans (by kernel_rfl) h)

/-- grammarlab/grammarlabref02.Equal -/
theorem b102 (a0 : List Int) (b1 : List Int) {r : Out}
  (h : (
    callE (Rn 65 [(.pv (.lst 1 (List.map (eInt .u64) a0))), (.pv (.lst 1 (List.map (eInt .u64) b1)))] []) fun r202 => asE R65.enc r202 fun y201 =>
    bif y201 then (
      callE (Rn 65 [(.pv (.lst 1 (List.map (eInt .u64) b1))), (.pv (.lst 1 (List.map (eInt .u64) a0)))] []) fun r204 => asE R65.enc r204 fun y203 =>
      some ((.bool y203), []))
    else (
      some ((.bool false), []))) = some r) :
  Rn 102 [(.pv (.lst 1 (List.map (eInt .u64) a0))), (.pv (.lst 1 (List.map (eInt .u64) b1)))] [] = some r :=
  run_body (C := cods) rfl (Eq.trans (by kernel_rfl) h)

/-- grammarlab/grammarlabref02.Has -/
theorem b103 (b0 : List Int) (i1 : Int) {r : Out}
  (h : (
    bif (decide (i1 < 0)) then (
      some ((.bool false), []))
    else (
      check (64 ≠ 0) (
      bif (decide ((IntKind.wrap .i64 (Int.tdiv i1 64)) ≥ (List.length (List.map (eInt .u64) b0) : Int))) then (
        some ((.bool false), []))
      else (
        check (64 ≠ 0) (
        getK (List.map (eInt .u64) b0) (IntKind.wrap .i64 (Int.tdiv i1 64)) fun c202 => asE (eInt .u64) c202 fun x201 =>
        check (64 ≠ 0) (
        check (0 ≤ (IntKind.wrap .u64 ((Int.tmod i1 64)))) (
        some ((.bool ((IntKind.wrap .u64 ((BitVec.ofInt (IntKind.bits .u64) (Int.fdiv x201 (2 ^ min (Int.toNat (IntKind.wrap .u64 ((Int.tmod i1 64)))) (IntKind.bits .u64))) &&& BitVec.ofInt (IntKind.bits .u64) 1).toNat : Int)) == 1)), [])))))))) = some r) :
  Rn 103 [(.pv (.lst 1 (List.map (eInt .u64) b0))), (.pv (.int .i64 i1))] [] = some r :=
  run_body (C := cods) rfl (Eq.trans (by kernel_rfl) h)

/-- grammarlab/grammarlabref03.Maximal -/
theorem b104 (d0 : List TypeDecl) (l1 : List (List UInt8)) {r : Out}
  (h : (
    callE (Rn 137 [(.pv (.lst 3 (List.map TypeDecl.enc d0))), (.pv (.lst 1 (List.map eStr l1)))] []) fun r202 => asE R137.enc r202 fun y201 =>
    headT P cods H prim 104 4 [] [(0, (.pv (.lst 3 (List.map TypeDecl.enc d0)))), (5, (.row 5)), (6, (.pv (.lst 1 (List.map eStr y201)))), (7, (.pv (.int .i64 0)))] [(5, (.row 9 1 (List.map eStr [])))]) = some r) :
  Rn 104 [(.pv (.lst 3 (List.map TypeDecl.enc d0))), (.pv (.lst 1 (List.map eStr l1)))] [] = some r :=
  run_body (C := cods) rfl (Eq.trans (by kernel_rfl) h)

/-- grammarlab/grammarlabref03.Maximal, loop 4 -/
theorem L104_4 (d0 : List TypeDecl) (all6 : List (List UInt8)) (i7 : Int) (o5 : List (List UInt8)) {r : Out}
  (h : (
    bif (decide (i7 < (List.length (List.map eStr all6) : Int))) then (
      getK (List.map eStr all6) i7 fun c202 => asE eStr c202 fun x201 =>
      callE (Rn 138 [(.pv (.lst 3 (List.map TypeDecl.enc d0))), (.pv (.str x201))] []) fun r204 => asE R138.enc r204 fun y203 =>
      headT P cods H prim 104 9 [] [(0, (.pv (.lst 3 (List.map TypeDecl.enc d0)))), (5, (.row 5)), (6, (.pv (.lst 1 (List.map eStr all6)))), (7, (.pv (.int .i64 i7))), (8, (.pv (.lst 1 (List.map eStr y203)))), (9, (.pv (.bool true))), (10, (.pv (.int .i64 0)))] [(5, (.row 9 1 (List.map eStr o5)))])
    else (
      some ((.lst 1 (List.map eStr o5)), []))) = some r) :
  headT P cods H prim 104 4 [] [(0, (.pv (.lst 3 (List.map TypeDecl.enc d0)))), (5, (.row 5)), (6, (.pv (.lst 1 (List.map eStr all6)))), (7, (.pv (.int .i64 i7)))] [(5, (.row 9 1 (List.map eStr o5)))] = some r :=
  head_round (Eq.trans (by kernel_rfl) h)

/-- grammarlab/grammarlabref03.Maximal, loop 9 -/
theorem L104_9 (d0 : List TypeDecl) (all6 : List (List UInt8)) (i7 : Int) (up8 : List (List UInt8)) (free9 : Bool) (k10 : Int) (o5 : List (List UInt8)) {r : Out}
  (h : (
    bif (decide (k10 < (List.length (List.map eStr all6) : Int))) then (
      bif free9 then (
        bif (k10 == i7) then (
          headT P cods H prim 104 9 [] [(0, (.pv (.lst 3 (List.map TypeDecl.enc d0)))), (5, (.row 5)), (6, (.pv (.lst 1 (List.map eStr all6)))), (7, (.pv (.int .i64 i7))), (8, (.pv (.lst 1 (List.map eStr up8)))), (9, (.pv (.bool true))), (10, (.pv (.int .i64 (IntKind.wrap .i64 (k10 + 1)))))] [(5, (.row 9 1 (List.map eStr o5)))])
        else (
          getK (List.map eStr all6) k10 fun c202 => asE eStr c202 fun x201 =>
          callE (Rn 37 [(.pv (.lst 1 (List.map eStr up8))), (.pv (.str x201))] []) fun r204 => asE R37.enc r204 fun y203 =>
          headT P cods H prim 104 9 [] [(0, (.pv (.lst 3 (List.map TypeDecl.enc d0)))), (5, (.row 5)), (6, (.pv (.lst 1 (List.map eStr all6)))), (7, (.pv (.int .i64 i7))), (8, (.pv (.lst 1 (List.map eStr up8)))), (9, (.pv (.bool (!y203)))), (10, (.pv (.int .i64 (IntKind.wrap .i64 (k10 + 1)))))] [(5, (.row 9 1 (List.map eStr o5)))]))
      else (
        headT P cods H prim 104 9 [] [(0, (.pv (.lst 3 (List.map TypeDecl.enc d0)))), (5, (.row 5)), (6, (.pv (.lst 1 (List.map eStr all6)))), (7, (.pv (.int .i64 i7))), (8, (.pv (.lst 1 (List.map eStr up8)))), (9, (.pv (.bool false))), (10, (.pv (.int .i64 (IntKind.wrap .i64 (k10 + 1)))))] [(5, (.row 9 1 (List.map eStr o5)))]))
    else (
      bif free9 then (
        getK (List.map eStr all6) i7 fun c206 => asE eStr c206 fun x205 =>
        check ((List.length (List.map eStr o5) + List.length (List.map eStr [x205])) * 16 ≤ 140737488355328 ∧ List.length (List.map eStr o5) + List.length (List.map eStr [x205]) ≤ 4611686018427387904) (
        headT P cods H prim 104 4 [] [(0, (.pv (.lst 3 (List.map TypeDecl.enc d0)))), (5, (.row 5)), (6, (.pv (.lst 1 (List.map eStr all6)))), (7, (.pv (.int .i64 (IntKind.wrap .i64 (i7 + 1)))))] [(5, (.row 9 1 ((List.map eStr o5) ++ (List.map eStr [x205]))))]))
      else (
        headT P cods H prim 104 4 [] [(0, (.pv (.lst 3 (List.map TypeDecl.enc d0)))), (5, (.row 5)), (6, (.pv (.lst 1 (List.map eStr all6)))), (7, (.pv (.int .i64 (IntKind.wrap .i64 (i7 + 1)))))] [(5, (.row 9 1 (List.map eStr o5)))]))) = some r) :
  headT P cods H prim 104 9 [] [(0, (.pv (.lst 3 (List.map TypeDecl.enc d0)))), (5, (.row 5)), (6, (.pv (.lst 1 (List.map eStr all6)))), (7, (.pv (.int .i64 i7))), (8, (.pv (.lst 1 (List.map eStr up8)))), (9, (.pv (.bool free9))), (10, (.pv (.int .i64 k10)))] [(5, (.row 9 1 (List.map eStr o5)))] = some r :=
  head_round (Eq.trans (by kernel_rfl) h)

/-- grammarlab/grammarlabref02.Count -/
theorem b105 (b0 : List Int) {r : Out}
  (h : (
    callE (Rn 139 [(.pv (.lst 1 (List.map (eInt .u64) b0)))] []) fun r202 => asE R139.enc r202 fun y201 =>
    some ((.int .i64 (List.length (List.map (eInt .i64) y201) : Int)), [])) = some r) :
  Rn 105 [(.pv (.lst 1 (List.map (eInt .u64) b0)))] [] = some r :=
  run_body (C := cods) rfl (Eq.trans (by kernel_rfl) h)

/-- grammarlab/grammarlabref02.word -/
theorem b106 (b0 : List Int) (i1 : Int) {r : Out}
  (h : (
    bif (decide (i1 < (List.length (List.map (eInt .u64) b0) : Int))) then (
      getK (List.map (eInt .u64) b0) i1 fun c202 => asE (eInt .u64) c202 fun x201 =>
      some ((.int .u64 x201), []))
    else (
      some ((.int .u64 0), []))) = some r) :
  Rn 106 [(.pv (.lst 1 (List.map (eInt .u64) b0))), (.pv (.int .i64 i1))] [] = some r :=
  run_body (C := cods) rfl (Eq.trans (by kernel_rfl) h)

/-- grammarlab/bits.word -/
theorem b107 (b0 : List Int) (i1 : Int) {r : Out}
  (h : (
    bif (decide (i1 < (List.length (List.map (eInt .u64) b0) : Int))) then (
      getK (List.map (eInt .u64) b0) i1 fun c202 => asE (eInt .u64) c202 fun x201 =>
      some ((.int .u64 x201), []))
    else (
      some ((.int .u64 0), []))) = some r) :
  Rn 107 [(.pv (.lst 1 (List.map (eInt .u64) b0))), (.pv (.int .i64 i1))] [] = some r :=
  run_body (C := cods) rfl (Eq.trans (by kernel_rfl) h)

/-- grammarlab/grammarlabref02.Minus -/
theorem b108 (a0 : List Int) (b1 : List Int) {r : Out}
  (h : (
    headT P cods H prim 108 3 [] [(0, (.pv (.lst 1 (List.map (eInt .u64) a0)))), (1, (.pv (.lst 1 (List.map (eInt .u64) b1)))), (5, (.row 5)), (6, (.pv (.int .i64 0)))] [(5, (.row 37 1 (List.map (eInt .u64) [])))]) = some r) :
  Rn 108 [(.pv (.lst 1 (List.map (eInt .u64) a0))), (.pv (.lst 1 (List.map (eInt .u64) b1)))] [] = some r :=
  run_body (C := cods) rfl (Eq.trans (by kernel_rfl) h)

/-- grammarlab/grammarlabref02.Minus, loop 3 -/
theorem L108_3 (a0 : List Int) (b1 : List Int) (i6 : Int) (o5 : List Int) {r : Out}
  (h : (
    bif (decide (i6 < (List.length (List.map (eInt .u64) a0) : Int))) then (
      getK (List.map (eInt .u64) a0) i6 fun c202 => asE (eInt .u64) c202 fun x201 =>
      callE (Rn 106 [(.pv (.lst 1 (List.map (eInt .u64) b1))), (.pv (.int .i64 i6))] []) fun r204 => asE R106.enc r204 fun y203 =>
      check ((List.length (List.map (eInt .u64) o5) + List.length (List.map (eInt .u64) [(IntKind.wrap .u64 ((BitVec.ofInt (IntKind.bits .u64) x201 &&& ~~~BitVec.ofInt (IntKind.bits .u64) y203).toNat : Int))])) * 8 ≤ 140737488355328 ∧ List.length (List.map (eInt .u64) o5) + List.length (List.map (eInt .u64) [(IntKind.wrap .u64 ((BitVec.ofInt (IntKind.bits .u64) x201 &&& ~~~BitVec.ofInt (IntKind.bits .u64) y203).toNat : Int))]) ≤ 4611686018427387904) (
      headT P cods H prim 108 3 [] [(0, (.pv (.lst 1 (List.map (eInt .u64) a0)))), (1, (.pv (.lst 1 (List.map (eInt .u64) b1)))), (5, (.row 5)), (6, (.pv (.int .i64 (IntKind.wrap .i64 (i6 + 1)))))] [(5, (.row 37 1 ((List.map (eInt .u64) o5) ++ (List.map (eInt .u64) [(IntKind.wrap .u64 ((BitVec.ofInt (IntKind.bits .u64) x201 &&& ~~~BitVec.ofInt (IntKind.bits .u64) y203).toNat : Int))]))))]))
    else (
      callE (Rn 60 [(.pv (.lst 1 (List.map (eInt .u64) o5)))] []) fun r206 => asE R60.enc r206 fun y205 =>
      callE (Rn 60 [(.pv (.lst 1 (List.map (eInt .u64) o5)))] []) fun r208 => asE R60.enc r208 fun y207 =>
      some ((.lst 1 (List.map (eInt .u64) y207)), []))) = some r) :
  headT P cods H prim 108 3 [] [(0, (.pv (.lst 1 (List.map (eInt .u64) a0)))), (1, (.pv (.lst 1 (List.map (eInt .u64) b1)))), (5, (.row 5)), (6, (.pv (.int .i64 i6)))] [(5, (.row 37 1 (List.map (eInt .u64) o5)))] = some r :=
  head_round (Eq.trans (by kernel_rfl) h)

/-- slices.IndexFunc[[]int,int] -/
theorem b109 (s0 : List Int) (f1_0 : Int) (f1_1 : List Coded) {r : Out}
  (h : (
    headT P cods H prim 109 2 [] [(0, (.pv (.lst 1 (List.map (eInt .i64) s0)))), (1, (.pv (.fn 66 [(.ref [(.int .i64 f1_0)]), (.ref [(.lst 2 (List.map Coded.enc f1_1))])]))), (7, (.pv (.int .i64 (List.length (List.map (eInt .i64) s0) : Int)))), (8, (.pv (.int .i64 0)))] []) = some r) :
  Rn 109 [(.pv (.lst 1 (List.map (eInt .i64) s0))), (.pv (.fn 66 [(.ref [(.int .i64 f1_0)]), (.ref [(.lst 2 (List.map Coded.enc f1_1))])]))] [] = some r :=
  run_body (C := cods) rfl (Eq.trans (by kernel_rfl) h)

/-- slices.IndexFunc[[]int,int], loop 2 -/
theorem L109_2 (s0 : List Int) (f1_0 : Int) (f1_1 : List Coded) (v7 : Int) (v8 : Int) {r : Out}
  (h : (
    bif (decide (v8 < v7)) then (
      getK (List.map (eInt .i64) s0) v8 fun c202 => asE (eInt .i64) c202 fun x201 =>
      callE (Rn 66 [(.pv (.int .i64 x201)), (.pv (.ref [(.int .i64 f1_0)])), (.pv (.ref [(.lst 2 (List.map Coded.enc f1_1))]))] []) fun r204 => asE R66.enc r204 fun y203 =>
      bif y203 then (
        some ((.int .i64 v8), []))
      else (
        headT P cods H prim 109 2 [] [(0, (.pv (.lst 1 (List.map (eInt .i64) s0)))), (1, (.pv (.fn 66 [(.ref [(.int .i64 f1_0)]), (.ref [(.lst 2 (List.map Coded.enc f1_1))])]))), (7, (.pv (.int .i64 v7))), (8, (.pv (.int .i64 (IntKind.wrap .i64 (v8 + 1)))))] []))
    else (
      some ((.int .i64 (-1)), []))) = some r) :
  headT P cods H prim 109 2 [] [(0, (.pv (.lst 1 (List.map (eInt .i64) s0)))), (1, (.pv (.fn 66 [(.ref [(.int .i64 f1_0)]), (.ref [(.lst 2 (List.map Coded.enc f1_1))])]))), (7, (.pv (.int .i64 v7))), (8, (.pv (.int .i64 v8)))] [] = some r :=
  head_round (Eq.trans (by kernel_rfl) h)

/-- grammarlab/grammarlabref01.Name -/
theorem b110 (s0 : List UInt8) {r : Out}
  (h : (
    callE (Rn 140 [(.pv (.str s0)), (.pv (.bool false))] []) fun r202 => asE R140.enc r202 fun y201 =>
    some ((.bool y201), [])) = some r) :
  Rn 110 [(.pv (.str s0))] [] = some r :=
  run_body (C := cods) rfl (Eq.trans (by kernel_rfl) h)

/-- grammarlab/grammarlabref03.find -/
theorem b111 (d0 : List TypeDecl) (name1 : List UInt8) {r : Out}
  (h : (
    headT P cods H prim 111 2 [] [(0, (.pv (.lst 3 (List.map TypeDecl.enc d0)))), (1, (.pv (.str name1))), (5, (.pv (.int .i64 0)))] []) = some r) :
  Rn 111 [(.pv (.lst 3 (List.map TypeDecl.enc d0))), (.pv (.str name1))] [] = some r :=
  run_body (C := cods) rfl (Eq.trans (by kernel_rfl) h)

/-- grammarlab/grammarlabref03.find, loop 2 -/
theorem L111_2 (d0 : List TypeDecl) (name1 : List UInt8) (i5 : Int) {r : Out}
  (h : (
    bif (decide (i5 < (List.length (List.map TypeDecl.enc d0) : Int))) then (
      getK (List.map TypeDecl.enc d0) i5 fun c202 => asE TypeDecl.enc c202 fun x201 =>
      bif (x201.Name == name1) then (
        some ((.int .i64 i5), []))
      else (
        headT P cods H prim 111 2 [] [(0, (.pv (.lst 3 (List.map TypeDecl.enc d0)))), (1, (.pv (.str name1))), (5, (.pv (.int .i64 (IntKind.wrap .i64 (i5 + 1)))))] []))
    else (
      some ((.int .i64 (-1)), []))) = some r) :
  headT P cods H prim 111 2 [] [(0, (.pv (.lst 3 (List.map TypeDecl.enc d0)))), (1, (.pv (.str name1))), (5, (.pv (.int .i64 i5)))] [] = some r :=
  head_round (Eq.trans (by kernel_rfl) h)

/-- grammarlab/grammarlabref03.ready -/
theorem b112 (x0 : TypeDecl) (done1 : List (List UInt8)) {r : Out}
  (h : (
    headT P cods H prim 112 2 [] [(1, (.pv (.lst 1 (List.map eStr done1)))), (2, (.ptr 2 0)), (5, (.pv (.int .i64 0)))] [(2, (.box 57 (List.map .pv (TypeDecl.enc x0))))]) = some r) :
  Rn 112 [(.pv (.agg (TypeDecl.enc x0))), (.pv (.lst 1 (List.map eStr done1)))] [] = some r :=
  run_body (C := cods) rfl (Eq.trans (by kernel_rfl) h)

/-- grammarlab/grammarlabref03.ready, loop 2 -/
theorem L112_2 (done1 : List (List UInt8)) (i5 : Int) (o2 : TypeDecl) {r : Out}
  (h : (
    bif (decide (i5 < (List.length (List.map eStr o2.Supers) : Int))) then (
      getK (List.map eStr o2.Supers) i5 fun c202 => asE eStr c202 fun x201 =>
      callE (Rn 37 [(.pv (.lst 1 (List.map eStr done1))), (.pv (.str x201))] []) fun r204 => asE R37.enc r204 fun y203 =>
      bif (!y203) then (
        some ((.bool false), []))
      else (
        headT P cods H prim 112 2 [] [(1, (.pv (.lst 1 (List.map eStr done1)))), (2, (.ptr 2 0)), (5, (.pv (.int .i64 (IntKind.wrap .i64 (i5 + 1)))))] [(2, (.box 57 (List.map .pv (TypeDecl.enc o2))))]))
    else (
      some ((.bool true), []))) = some r) :
  headT P cods H prim 112 2 [] [(1, (.pv (.lst 1 (List.map eStr done1)))), (2, (.ptr 2 0)), (5, (.pv (.int .i64 i5)))] [(2, (.box 57 (List.map .pv (TypeDecl.enc o2))))] = some r :=
  head_round (Eq.trans (by kernel_rfl) h)

/-- grammarlab/grammarlabref03.declared -/
theorem b137 (d0 : List TypeDecl) (l1 : List (List UInt8)) {r : Out}
  (h : (
    headT P cods H prim 137 3 [] [(0, (.pv (.lst 3 (List.map TypeDecl.enc d0)))), (1, (.pv (.lst 1 (List.map eStr l1)))), (5, (.pv (.lst 1 (List.map eStr [])))), (6, (.pv (.int .i64 0)))] []) = some r) :
  Rn 137 [(.pv (.lst 3 (List.map TypeDecl.enc d0))), (.pv (.lst 1 (List.map eStr l1)))] [] = some r :=
  run_body (C := cods) rfl (Eq.trans (by kernel_rfl) h)

/-- grammarlab/grammarlabref03.declared, loop 3 -/
theorem L137_3 (d0 : List TypeDecl) (l1 : List (List UInt8)) (out5 : List (List UInt8)) (i6 : Int) {r : Out}
  (h : (
    bif (decide (i6 < (List.length (List.map eStr l1) : Int))) then (
      getK (List.map eStr l1) i6 fun c202 => asE eStr c202 fun x201 =>
      callE (Rn 111 [(.pv (.lst 3 (List.map TypeDecl.enc d0))), (.pv (.str x201))] []) fun r204 => asE R111.enc r204 fun y203 =>
      bif (decide (y203 ≥ 0)) then (
        getK (List.map eStr l1) i6 fun c206 => asE eStr c206 fun x205 =>
        callE (Rn 98 [(.pv (.lst 1 (List.map eStr out5))), (.pv (.str x205))] []) fun r208 => asE R98.enc r208 fun y207 =>
        headT P cods H prim 137 3 [] [(0, (.pv (.lst 3 (List.map TypeDecl.enc d0)))), (1, (.pv (.lst 1 (List.map eStr l1)))), (5, (.pv (.lst 1 (List.map eStr y207)))), (6, (.pv (.int .i64 (IntKind.wrap .i64 (i6 + 1)))))] [])
      else (
        headT P cods H prim 137 3 [] [(0, (.pv (.lst 3 (List.map TypeDecl.enc d0)))), (1, (.pv (.lst 1 (List.map eStr l1)))), (5, (.pv (.lst 1 (List.map eStr out5)))), (6, (.pv (.int .i64 (IntKind.wrap .i64 (i6 + 1)))))] []))
    else (
      some ((.lst 1 (List.map eStr out5)), []))) = some r) :
  headT P cods H prim 137 3 [] [(0, (.pv (.lst 3 (List.map TypeDecl.enc d0)))), (1, (.pv (.lst 1 (List.map eStr l1)))), (5, (.pv (.lst 1 (List.map eStr out5)))), (6, (.pv (.int .i64 i6)))] [] = some r :=
  head_round (Eq.trans (by kernel_rfl) h)

/-- grammarlab/grammarlabref03.Above -/
theorem b138 (d0 : List TypeDecl) (name1 : List UInt8) {r : Out}
  (h : (
    callE (Rn 111 [(.pv (.lst 3 (List.map TypeDecl.enc d0))), (.pv (.str name1))] []) fun r202 => asE R111.enc r202 fun y201 =>
    bif (decide (y201 < 0)) then (
      some ((.lst 1 (List.map eStr [])), []))
    else (
      headT P cods H prim 138 5 [] [(0, (.pv (.lst 3 (List.map TypeDecl.enc d0)))), (5, (.row 16)), (6, (.pv (.int .i64 0)))] [(16, (.row 9 1 (List.map eStr [name1])))])) = some r) :
  Rn 138 [(.pv (.lst 3 (List.map TypeDecl.enc d0))), (.pv (.str name1))] [] = some r :=
  run_body (C := cods) rfl (Eq.trans (by kernel_rfl) h)

/-- grammarlab/grammarlabref03.Above, loop 5 -/
theorem L138_5 (d0 : List TypeDecl) (i6 : Int) (o16 : List (List UInt8)) {r : Out}
  (h : (
    bif (decide (i6 < (List.length (List.map eStr o16) : Int))) then (
      check (0 ≤ i6 ∧ Int.toNat i6 < List.length (List.map eStr o16)) (
      getN (List.map eStr o16) (Int.toNat i6) fun c202 => asE eStr c202 fun x201 =>
      callE (Rn 111 [(.pv (.lst 3 (List.map TypeDecl.enc d0))), (.pv (.str x201))] []) fun r204 => asE R111.enc r204 fun y203 =>
      getK (List.map TypeDecl.enc d0) y203 fun c206 => asE TypeDecl.enc c206 fun x205 =>
      headT P cods H prim 138 9 [] [(0, (.pv (.lst 3 (List.map TypeDecl.enc d0)))), (5, (.row 16)), (6, (.pv (.int .i64 i6))), (7, (.pv (.lst 1 (List.map eStr x205.Supers)))), (8, (.pv (.int .i64 0)))] [(16, (.row 9 1 (List.map eStr o16)))]))
    else (
      headT P cods H prim 138 15 [] [(5, (.row 16)), (9, (.pv (.lst 1 (List.map eStr [])))), (10, (.pv (.int .i64 0)))] [(16, (.row 9 1 (List.map eStr o16)))])) = some r) :
  headT P cods H prim 138 5 [] [(0, (.pv (.lst 3 (List.map TypeDecl.enc d0)))), (5, (.row 16)), (6, (.pv (.int .i64 i6)))] [(16, (.row 9 1 (List.map eStr o16)))] = some r :=
  head_round (Eq.trans (by kernel_rfl) h)

/-- grammarlab/grammarlabref03.Above, loop 9 -/
theorem L138_9 (d0 : List TypeDecl) (i6 : Int) (l7 : List (List UInt8)) (k8 : Int) (o16 : List (List UInt8)) {r : Out}
  (h : (
    bif (decide (k8 < (List.length (List.map eStr l7) : Int))) then (
      getK (List.map eStr l7) k8 fun c202 => asE eStr c202 fun x201 =>
      callE (Rn 37 [(.pv (.lst 1 (List.map eStr o16))), (.pv (.str x201))] []) fun r204 => asE R37.enc r204 fun y203 =>
      bif (!y203) then (
        getK (List.map eStr l7) k8 fun c206 => asE eStr c206 fun x205 =>
        check ((List.length (List.map eStr o16) + List.length (List.map eStr [x205])) * 16 ≤ 140737488355328 ∧ List.length (List.map eStr o16) + List.length (List.map eStr [x205]) ≤ 4611686018427387904) (
        headT P cods H prim 138 9 [] [(0, (.pv (.lst 3 (List.map TypeDecl.enc d0)))), (5, (.row 16)), (6, (.pv (.int .i64 i6))), (7, (.pv (.lst 1 (List.map eStr l7)))), (8, (.pv (.int .i64 (IntKind.wrap .i64 (k8 + 1)))))] [(16, (.row 9 1 ((List.map eStr o16) ++ (List.map eStr [x205]))))]))
      else (
        headT P cods H prim 138 9 [] [(0, (.pv (.lst 3 (List.map TypeDecl.enc d0)))), (5, (.row 16)), (6, (.pv (.int .i64 i6))), (7, (.pv (.lst 1 (List.map eStr l7)))), (8, (.pv (.int .i64 (IntKind.wrap .i64 (k8 + 1)))))] [(16, (.row 9 1 (List.map eStr o16)))]))
    else (
      headT P cods H prim 138 5 [] [(0, (.pv (.lst 3 (List.map TypeDecl.enc d0)))), (5, (.row 16)), (6, (.pv (.int .i64 (IntKind.wrap .i64 (i6 + 1)))))] [(16, (.row 9 1 (List.map eStr o16)))])) = some r) :
  headT P cods H prim 138 9 [] [(0, (.pv (.lst 3 (List.map TypeDecl.enc d0)))), (5, (.row 16)), (6, (.pv (.int .i64 i6))), (7, (.pv (.lst 1 (List.map eStr l7)))), (8, (.pv (.int .i64 k8)))] [(16, (.row 9 1 (List.map eStr o16)))] = some r :=
  head_round (Eq.trans (by kernel_rfl) h)

/-- grammarlab/grammarlabref03.Above, loop 15 -/
theorem L138_15 (out9 : List (List UInt8)) (i10 : Int) (o16 : List (List UInt8)) {r : Out}
  (h : (
    bif (decide (i10 < (List.length (List.map eStr o16) : Int))) then (
      check (0 ≤ i10 ∧ Int.toNat i10 < List.length (List.map eStr o16)) (
      getN (List.map eStr o16) (Int.toNat i10) fun c202 => asE eStr c202 fun x201 =>
      callE (Rn 98 [(.pv (.lst 1 (List.map eStr out9))), (.pv (.str x201))] []) fun r204 => asE R98.enc r204 fun y203 =>
      headT P cods H prim 138 15 [] [(5, (.row 16)), (9, (.pv (.lst 1 (List.map eStr y203)))), (10, (.pv (.int .i64 (IntKind.wrap .i64 (i10 + 1)))))] [(16, (.row 9 1 (List.map eStr o16)))]))
    else (
      some ((.lst 1 (List.map eStr out9)), []))) = some r) :
  headT P cods H prim 138 15 [] [(5, (.row 16)), (9, (.pv (.lst 1 (List.map eStr out9)))), (10, (.pv (.int .i64 i10)))] [(16, (.row 9 1 (List.map eStr o16)))] = some r :=
  head_round (Eq.trans (by kernel_rfl) h)

/-- grammarlab/grammarlabref02.List -/
theorem b139 (b0 : List Int) {r : Out}
  (h : (
    headT P cods H prim 139 3 [] [(0, (.pv (.lst 1 (List.map (eInt .u64) b0)))), (3, (.row 3)), (4, (.pv (.int .i64 0)))] [(3, (.row 3 1 (List.map (eInt .i64) [])))]) = some r) :
  Rn 139 [(.pv (.lst 1 (List.map (eInt .u64) b0)))] [] = some r :=
  run_body (C := cods) rfl (Eq.trans (by kernel_rfl) h)

/-- grammarlab/grammarlabref02.List, loop 3 -/
theorem L139_3 (b0 : List Int) (i4 : Int) (o3 : List Int) {r : Out}
  (h : (
    bif (decide (i4 < (IntKind.wrap .i64 (64 * (List.length (List.map (eInt .u64) b0) : Int))))) then (
      callE (Rn 103 [(.pv (.lst 1 (List.map (eInt .u64) b0))), (.pv (.int .i64 i4))] []) fun r202 => asE R103.enc r202 fun y201 =>
      bif y201 then (
        check ((List.length (List.map (eInt .i64) o3) + List.length (List.map (eInt .i64) [i4])) * 8 ≤ 140737488355328 ∧ List.length (List.map (eInt .i64) o3) + List.length (List.map (eInt .i64) [i4]) ≤ 4611686018427387904) (
        headT P cods H prim 139 3 [] [(0, (.pv (.lst 1 (List.map (eInt .u64) b0)))), (3, (.row 3)), (4, (.pv (.int .i64 (IntKind.wrap .i64 (i4 + 1)))))] [(3, (.row 3 1 ((List.map (eInt .i64) o3) ++ (List.map (eInt .i64) [i4]))))]))
      else (
        headT P cods H prim 139 3 [] [(0, (.pv (.lst 1 (List.map (eInt .u64) b0)))), (3, (.row 3)), (4, (.pv (.int .i64 (IntKind.wrap .i64 (i4 + 1)))))] [(3, (.row 3 1 (List.map (eInt .i64) o3)))]))
    else (
      some ((.lst 1 (List.map (eInt .i64) o3)), []))) = some r) :
  headT P cods H prim 139 3 [] [(0, (.pv (.lst 1 (List.map (eInt .u64) b0)))), (3, (.row 3)), (4, (.pv (.int .i64 i4)))] [(3, (.row 3 1 (List.map (eInt .i64) o3)))] = some r :=
  head_round (Eq.trans (by kernel_rfl) h)

/-- grammarlab/grammarlabref01.named -/
theorem b140 (s0 : List UInt8) (big1 : Bool) {r : Out}
  (h : (
    bif (decide ((List.length s0 : Int) < 1)) then (
      some ((.bool false), []))
    else (
      bif (decide ((List.length s0 : Int) > 32)) then (
        some ((.bool false), []))
      else (
        getK s0 0 fun b201 =>
        callE (Rn 159 [(.pv (.int .u8 (UInt8.toNat b201 : Int)))] []) fun r203 => asE R159.enc r203 fun y202 =>
        bif y202 then (
          some ((.bool false), []))
        else (
          getK s0 0 fun b204 =>
          bif ((UInt8.toNat b204 : Int) == 45) then (
            some ((.bool false), []))
          else (
            headT P cods H prim 140 4 [] [(0, (.pv (.str s0))), (1, (.pv (.bool big1))), (5, (.pv (.int .i64 0)))] []))))) = some r) :
  Rn 140 [(.pv (.str s0)), (.pv (.bool big1))] [] = some r :=
  run_body (C := cods) rfl (Eq.trans (by kernel_rfl) h)

/-- grammarlab/grammarlabref01.named, loop 4 -/
theorem L140_4 (s0 : List UInt8) (big1 : Bool) (i5 : Int) {r : Out}
  (h : (
    bif (decide (i5 < (List.length s0 : Int))) then (
      getK s0 i5 fun b201 =>
      callE (Rn 160 [(.pv (.int .u8 (UInt8.toNat b201 : Int))), (.pv (.bool big1))] []) fun r203 => asE R160.enc r203 fun y202 =>
      bif (!y202) then (
        some ((.bool false), []))
      else (
        headT P cods H prim 140 4 [] [(0, (.pv (.str s0))), (1, (.pv (.bool big1))), (5, (.pv (.int .i64 (IntKind.wrap .i64 (i5 + 1)))))] []))
    else (
      some ((.bool true), []))) = some r) :
  headT P cods H prim 140 4 [] [(0, (.pv (.str s0))), (1, (.pv (.bool big1))), (5, (.pv (.int .i64 i5)))] [] = some r :=
  head_round (Eq.trans (by kernel_rfl) h)

/-- grammarlab/grammarlabref01.digit -/
theorem b159 (c0 : Int) {r : Out}
  (h : (
    bif (decide (c0 ≥ 48)) then (
      some ((.bool (decide (c0 ≤ 57))), []))
    else (
      some ((.bool false), []))) = some r) :
  Rn 159 [(.pv (.int .u8 c0))] [] = some r :=
  run_body (C := cods) rfl (Eq.trans (by kernel_rfl) h)

/-- grammarlab/grammarlabref01.part -/
theorem b160 (c0 : Int) (big1 : Bool) {r : Out}
  (h : (
    callE (Rn 159 [(.pv (.int .u8 c0))] []) fun r202 => asE R159.enc r202 fun y201 =>
    bif y201 then (
      some ((.bool true), []))
    else (
      bif (c0 == 45) then (
        some ((.bool true), []))
      else (
        bif big1 then (
          callE (Rn 166 [(.pv (.int .u8 c0))] []) fun r204 => asE R166.enc r204 fun y203 =>
          bif y203 then (
            some ((.bool true), []))
          else (
            bif (!big1) then (
              callE (Rn 167 [(.pv (.int .u8 c0))] []) fun r206 => asE R167.enc r206 fun y205 =>
              some ((.bool y205), []))
            else (
              some ((.bool false), []))))
        else (
          bif (!big1) then (
            callE (Rn 167 [(.pv (.int .u8 c0))] []) fun r208 => asE R167.enc r208 fun y207 =>
            some ((.bool y207), []))
          else (
            some ((.bool false), [])))))) = some r) :
  Rn 160 [(.pv (.int .u8 c0)), (.pv (.bool big1))] [] = some r :=
  run_body (C := cods) rfl (Eq.trans (by kernel_rfl) h)

/-- grammarlab/grammarlabref01.upper -/
theorem b166 (c0 : Int) {r : Out}
  (h : (
    bif (decide (c0 ≥ 65)) then (
      some ((.bool (decide (c0 ≤ 90))), []))
    else (
      some ((.bool false), []))) = some r) :
  Rn 166 [(.pv (.int .u8 c0))] [] = some r :=
  run_body (C := cods) rfl (Eq.trans (by kernel_rfl) h)

/-- grammarlab/grammarlabref01.lower -/
theorem b167 (c0 : Int) {r : Out}
  (h : (
    bif (decide (c0 ≥ 97)) then (
      some ((.bool (decide (c0 ≤ 122))), []))
    else (
      some ((.bool false), []))) = some r) :
  Rn 167 [(.pv (.int .u8 c0))] [] = some r :=
  run_body (C := cods) rfl (Eq.trans (by kernel_rfl) h)

end Go.Proofs.YtneahmpmicoplaaGreatDoor.cl
