/-
  The bodies of the plain functions and loops, by program (decomp4.py).
-/
import Derived.Test.YtfoddgpndoeeaaaGreatDoorClD
set_option linter.unusedVariables false
set_option linter.unusedSimpArgs false
set_option maxRecDepth 100000
namespace Go.Proofs.YtfoddgpndoeeaaaGreatDoor.cl
open Go Go.AM
theorem k29_3 (a0 b1 : List Int) (v14 v15 : Int) (o12 : List Int) {r : (List Int)}
 (h : (
 bif (decide (v15 < v14)) then (
 getK a0 v15 fun x201 =>
 getK b1 v15 fun x203 =>
 check (0 ≤ v15 ∧ Int.toNat v15 < List.length o12) (
 getN o12 (Int.toNat v15) fun x205 =>
 t29_3 a0 b1 v14 (IntKind.wrap .i64 (v15 + 1)) (o12.set (Int.toNat v15) (IntKind.wrap .u64 ((BitVec.ofInt (IntKind.bits .u64) x201 &&& BitVec.ofInt (IntKind.bits .u64) x203).toNat : Int)))))
 else (
 Option.bind (f68 o12) fun y207 =>
 Option.bind (f68 o12) fun y209 =>
 some y209) : Option (List Int)) = some r) :
 t29_3 a0 b1 v14 v15 o12 = some r :=
 lift2 (E := (EN Q9)) h (
 Ic (
 Ig (eInt .u64) fun x201 =>
 Ig (eInt .u64) fun x203 =>
 I_check (p := 0 ≤ v15 ∧ Int.toNat v15 < List.length (List.map (eInt .u64) o12)) (by simp only [List.length_map]; exact id) (
 In (eInt .u64) fun x205 =>
 (show Imp _ (headT P cods H prim 49 3 [] [(0, (.pv (.lst 1 (List.map (eInt .u64) a0)))), (1, (.pv (.lst 1 (List.map (eInt .u64) b1)))), (5, (.row 12)), (14, (.pv (.int .i64 v14))), (15, (.pv (.int .i64 (IntKind.wrap .i64 (v15 + 1)))))] [(12, (.row 65 1 ((List.map (eInt .u64) o12).set (Int.toNat v15) ((eInt .u64) (IntKind.wrap .u64 ((BitVec.ofInt (IntKind.bits .u64) x201 &&& BitVec.ofInt (IntKind.bits .u64) x203).toNat : Int))))))]) ( t29_3 a0 b1 v14 (IntKind.wrap .i64 (v15 + 1)) (o12.set (Int.toNat v15) (IntKind.wrap .u64 ((BitVec.ofInt (IntKind.bits .u64) x201 &&& BitVec.ofInt (IntKind.bits .u64) x203).toNat : Int)))) from fun _ h => by simpa only [List.map_set] using dec_imp _ _ _ h))) (
 Ik fun y207 =>
 Ik fun y209 =>
 Is))
 (by kernel_rfl) (fun h => head_round h)
theorem e63 (a0 b1 : List Int) {r : Bool}
 (h : (
 t63_2 b1 a0 (List.length a0 : Int) 0 : Option Bool) = some r) :
 f63 a0 b1 = some r :=
 lift2 (E := (EN Q1)) h (
 (show Imp _ (headT P cods H prim 50 2 [] [(1, (.pv (.lst 1 (List.map (eInt .u64) b1)))), (7, (.pv (.lst 1 (List.map (eInt .u64) a0)))), (8, (.pv (.int .i64 (List.length (List.map (eInt .u64) a0) : Int)))), (9, (.pv (.int .i64 0)))] []) ( t63_2 b1 a0 (List.length a0 : Int) 0) from fun _ h => by simpa only [List.length_map] using dec_imp _ _ _ h))
 (by kernel_rfl) (fun h => run_body (C := cods) rfl h)
theorem k63_2 (b1 v7 : List Int) (v8 v9 : Int) {r : Bool}
 (h : (
 bif (decide (v9 < v8)) then (
 getK v7 v9 fun x201 =>
 Option.bind (f107 b1 v9) fun y203 =>
 bif ((IntKind.wrap .u64 ((BitVec.ofInt (IntKind.bits .u64) x201 &&& ~~~BitVec.ofInt (IntKind.bits .u64) y203).toNat : Int)) != 0) then (
 some false)
 else (
 t63_2 b1 v7 v8 (IntKind.wrap .i64 (v9 + 1))))
 else (
 some true) : Option Bool) = some r) :
 t63_2 b1 v7 v8 v9 = some r :=
 lift2 (E := (EN Q1)) h (
 Ic (
 Ig (eInt .u64) fun x201 =>
 Ik fun y203 =>
 Ic (
 Is) (
 Iz)) (
 Is))
 (by kernel_rfl) (fun h => head_round h)
theorem e90 (d0 : List TypeDecl) (l1 : List (List UInt8)) {r : (List (List UInt8))}
 (h : (
 Option.bind (f75 d0) fun y201 =>
 t90_4 y201 l1 (List.length l1 : Int) 0 ([] : List (List UInt8)) : Option (List (List UInt8))) = some r) :
 f90 d0 l1 = some r :=
 lift2 (E := (EN Q11)) h (
 Ik fun y201 =>
 (show Imp _ (headT P cods H prim 55 4 [] [(5, (.pv (.mp (encMap V9 V22 y201).1 (encMap V9 V22 y201).2))), (6, (.row 6)), (13, (.pv (.lst 1 (List.map eStr l1)))), (14, (.pv (.int .i64 (List.length (List.map eStr l1) : Int)))), (15, (.pv (.int .i64 0)))] [(6, (.row 9 1 (List.map eStr [])))]) ( t90_4 y201 l1 (List.length l1 : Int) 0 ([] : List (List UInt8))) from fun _ h => by simpa only [List.length_map, encMap, List.length_map] using dec_imp _ _ _ h))
 (by kernel_rfl) (fun h => run_body (C := cods) rfl h)
theorem k90_4 (known5 : List ((List UInt8) × (List (List UInt8)))) (v13 : List (List UInt8)) (v14 v15 : Int) (o6 : List (List UInt8)) {r : (List (List UInt8))}
 (h : (
 bif (decide (v15 < v14)) then (
 getK v13 v15 fun x201 =>
 lookT known5 x201 (fun y204 =>
 check ((List.length o6 + List.length ([x201] : List (List UInt8))) * 16 ≤ 140737488355328 ∧ List.length o6 + List.length ([x201] : List (List UInt8)) ≤ 4611686018427387904) (
 t90_4 known5 v13 v14 (IntKind.wrap .i64 (v15 + 1)) (o6 ++ ([x201] : List (List UInt8))))) (
 t90_4 known5 v13 v14 (IntKind.wrap .i64 (v15 + 1)) o6))
 else (
 bind2 (f80 o6) fun y205 l207 =>
 bind2 (f124 l207) fun y209 l211 =>
 check (y209 ≤ List.length l211) (
 some (l211.take y209))) : Option (List (List UInt8))) = some r) :
 t90_4 known5 v13 v14 v15 o6 = some r :=
 lift2 (E := (EN Q11)) h (
 Ic (
 Ig eStr fun x201 =>
 I_look (K := V9) (V := V22) (fun y204 =>
 I_check (p := (List.length (List.map eStr o6) + List.length (List.map eStr [x201])) * 16 ≤ 140737488355328 ∧ List.length (List.map eStr o6) + List.length (List.map eStr [x201]) ≤ 4611686018427387904) (by simp only [List.length_map]; exact id) (
 (show Imp _ (headT P cods H prim 55 4 [] [(5, (.pv (.mp (encMap V9 V22 known5).1 (encMap V9 V22 known5).2))), (6, (.row 6)), (13, (.pv (.lst 1 (List.map eStr v13)))), (14, (.pv (.int .i64 v14))), (15, (.pv (.int .i64 (IntKind.wrap .i64 (v15 + 1)))))] [(6, (.row 9 1 ((List.map eStr o6) ++ (List.map eStr [x201]))))]) ( t90_4 known5 v13 v14 (IntKind.wrap .i64 (v15 + 1)) (o6 ++ ([x201] : List (List UInt8)))) from fun _ h => by simpa only [List.map_append] using dec_imp _ _ _ h))) (
 Iz)) (
 I_callR (enc := Q8) (ee := eStr) (nm := 10000) (e := 9) (sz := 1) Iz fun y205 l207 =>
 I_callR (enc := Q16) (ee := eStr) (nm := 10000) (e := 9) (sz := 1) Iz fun y209 l211 =>
 I_check (p := y209 ≤ List.length (List.map eStr l211)) (by simp only [List.length_map]; exact id) (
 I_some (c := ((.lst 1 ((List.map eStr l211).take y209)), [])) (by simp only [EN, Q11, List.map_take, List.map_drop]))))
 (by kernel_rfl) (fun h => head_round h)
theorem e75 (d0 : List TypeDecl) {r : (List ((List UInt8) × (List (List UInt8))))}
 (h : (
 t75_3 d0 (List.length d0 : Int) 0 ([] : List ((List UInt8) × (List (List UInt8)))) : Option (List ((List UInt8) × (List (List UInt8))))) = some r) :
 f75 d0 = some r :=
 lift2 (E := (EN Q10)) h (
 (show Imp _ (headT P cods H prim 56 3 [] [(3, (.row 8)), (9, (.pv (.lst 3 (List.map TypeDecl.enc d0)))), (10, (.pv (.int .i64 (List.length (List.map TypeDecl.enc d0) : Int)))), (11, (.pv (.int .i64 0)))] [(8, (.mp 9 22 (encMap V9 V22 ([] : List ((List UInt8) × (List (List UInt8))))).1 (encMap V9 V22 ([] : List ((List UInt8) × (List (List UInt8))))).2))]) ( t75_3 d0 (List.length d0 : Int) 0 ([] : List ((List UInt8) × (List (List UInt8))))) from fun _ h => by simpa only [List.length_map, encMap, List.length_map] using dec_imp _ _ _ h))
 (by kernel_rfl) (fun h => run_body (C := cods) rfl h)
theorem k75_3 (v9 : List TypeDecl) (v10 v11 : Int) (o8 : List ((List UInt8) × (List (List UInt8)))) {r : (List ((List UInt8) × (List (List UInt8))))}
 (h : (
 bif (decide (v11 < v10)) then (
 getK v9 v11 fun x201 =>
 letT (putM o8 x201.Name x201.Supers) fun m204 =>
 t75_3 v9 v10 (IntKind.wrap .i64 (v11 + 1)) m204)
 else (
 some o8) : Option (List ((List UInt8) × (List (List UInt8))))) = some r) :
 t75_3 v9 v10 v11 o8 = some r :=
 lift2 (E := (EN Q10)) h (
 Ic (
 Ig TypeDecl.enc fun x201 =>
 I_put (K := V9) (V := V22) rfl fun m204 =>
 Iz) (
 Is))
 (by kernel_rfl) (fun h => head_round h)
theorem e74 (to0 : List ((List UInt8) × (List (List UInt8)))) (name1 : List UInt8) {r : (List (List UInt8))}
 (h : (
 lookT to0 name1 (fun y202 =>
 letT (putM ([] : List ((List UInt8) × Bool)) name1 true) fun m204 =>
 t74_7 to0 0 m204 ([name1] : List (List UInt8))) (
 some ([] : List (List UInt8))) : Option (List (List UInt8))) = some r) :
 f74 to0 name1 = some r :=
 lift2 (E := (EN Q11)) h (
 I_look (K := V9) (V := V22) (fun y202 =>
 I_put (K := V9) (V := V4) rfl fun m204 =>
 Iz) (
 Is))
 (by kernel_rfl) (fun h => run_body (C := cods) rfl h)
theorem k74_7 (to0 : List ((List UInt8) × (List (List UInt8)))) (i9 : Int) (o20 : List ((List UInt8) × Bool)) (o24 : List (List UInt8)) {r : (List (List UInt8))}
 (h : (
 bif (decide (i9 < (List.length o24 : Int))) then (
 check (0 ≤ i9 ∧ Int.toNat i9 < List.length o24) (
 getN o24 (Int.toNat i9) fun x201 =>
 lookT to0 x201 (fun y204 =>
 t74_10 to0 i9 y204 (List.length y204 : Int) 0 o20 o24) (
 t74_10 to0 i9 ([] : List (List UInt8)) (List.length ([] : List (List UInt8)) : Int) 0 o20 o24)))
 else (
 bind2 (f80 o24) fun y205 l207 =>
 some l207) : Option (List (List UInt8))) = some r) :
 t74_7 to0 i9 o20 o24 = some r :=
 lift2 (E := (EN Q11)) h (
 I_cond (c := (decide (i9 < (List.length (List.map eStr o24) : Int)))) (by simp only [List.length_map]) (
 I_check (p := 0 ≤ i9 ∧ Int.toNat i9 < List.length (List.map eStr o24)) (by simp only [List.length_map]; exact id) (
 In eStr fun x201 =>
 I_look (K := V9) (V := V22) (fun y204 =>
 (show Imp _ (headT P cods H prim 57 10 [] [(0, (.pv (.mp (encMap V9 V22 to0).1 (encMap V9 V22 to0).2))), (7, (.row 20)), (8, (.row 24)), (9, (.pv (.int .i64 i9))), (36, (.pv (.lst 1 (List.map eStr y204)))), (37, (.pv (.int .i64 (List.length (List.map eStr y204) : Int)))), (38, (.pv (.int .i64 0)))] [(20, (.mp 9 4 (encMap V9 V4 o20).1 (encMap V9 V4 o20).2)), (24, (.row 9 1 (List.map eStr o24)))]) ( t74_10 to0 i9 y204 (List.length y204 : Int) 0 o20 o24) from fun _ h => by simpa only [List.length_map, encMap, List.length_map] using dec_imp _ _ _ h)) (
 (show Imp _ (headT P cods H prim 57 10 [] [(0, (.pv (.mp (encMap V9 V22 to0).1 (encMap V9 V22 to0).2))), (7, (.row 20)), (8, (.row 24)), (9, (.pv (.int .i64 i9))), (36, (.pv (.lst 1 (List.map eStr [])))), (37, (.pv (.int .i64 (List.length (List.map eStr []) : Int)))), (38, (.pv (.int .i64 0)))] [(20, (.mp 9 4 (encMap V9 V4 o20).1 (encMap V9 V4 o20).2)), (24, (.row 9 1 (List.map eStr o24)))]) ( t74_10 to0 i9 ([] : List (List UInt8)) (List.length ([] : List (List UInt8)) : Int) 0 o20 o24) from fun _ h => by simpa only [List.length_map, encMap, List.length_map] using dec_imp _ _ _ h)))) (
 I_callR (enc := Q8) (ee := eStr) (nm := 10000) (e := 9) (sz := 1) Iz fun y205 l207 =>
 Is))
 (by kernel_rfl) (fun h => head_round h)
theorem k74_10 (to0 : List ((List UInt8) × (List (List UInt8)))) (i9 : Int) (v36 : List (List UInt8)) (v37 v38 : Int) (o20 : List ((List UInt8) × Bool)) (o24 : List (List UInt8)) {r : (List (List UInt8))}
 (h : (
 bif (decide (v38 < v37)) then (
 getK v36 v38 fun x201 =>
 lookT o20 x201 (fun y204 =>
 bif (!y204) then (
 letT (putM o20 x201 true) fun m206 =>
 check ((List.length o24 + List.length ([x201] : List (List UInt8))) * 16 ≤ 140737488355328 ∧ List.length o24 + List.length ([x201] : List (List UInt8)) ≤ 4611686018427387904) (
 t74_10 to0 i9 v36 v37 (IntKind.wrap .i64 (v38 + 1)) m206 (o24 ++ ([x201] : List (List UInt8)))))
 else (
 t74_10 to0 i9 v36 v37 (IntKind.wrap .i64 (v38 + 1)) o20 o24)) (
 letT (putM o20 x201 true) fun m208 =>
 check ((List.length o24 + List.length ([x201] : List (List UInt8))) * 16 ≤ 140737488355328 ∧ List.length o24 + List.length ([x201] : List (List UInt8)) ≤ 4611686018427387904) (
 t74_10 to0 i9 v36 v37 (IntKind.wrap .i64 (v38 + 1)) m208 (o24 ++ ([x201] : List (List UInt8))))))
 else (
 t74_7 to0 (IntKind.wrap .i64 (i9 + 1)) o20 o24) : Option (List (List UInt8))) = some r) :
 t74_10 to0 i9 v36 v37 v38 o20 o24 = some r :=
 lift2 (E := (EN Q11)) h (
 Ic (
 Ig eStr fun x201 =>
 I_look (K := V9) (V := V4) (fun y204 =>
 Ic (
 I_put (K := V9) (V := V4) rfl fun m206 =>
 I_check (p := (List.length (List.map eStr o24) + List.length (List.map eStr [x201])) * 16 ≤ 140737488355328 ∧ List.length (List.map eStr o24) + List.length (List.map eStr [x201]) ≤ 4611686018427387904) (by simp only [List.length_map]; exact id) (
 (show Imp _ (headT P cods H prim 57 10 [] [(0, (.pv (.mp (encMap V9 V22 to0).1 (encMap V9 V22 to0).2))), (7, (.row 20)), (8, (.row 24)), (9, (.pv (.int .i64 i9))), (36, (.pv (.lst 1 (List.map eStr v36)))), (37, (.pv (.int .i64 v37))), (38, (.pv (.int .i64 (IntKind.wrap .i64 (v38 + 1)))))] [(20, (.mp 9 4 (encMap V9 V4 m206).1 (encMap V9 V4 m206).2)), (24, (.row 9 1 ((List.map eStr o24) ++ (List.map eStr [x201]))))]) ( t74_10 to0 i9 v36 v37 (IntKind.wrap .i64 (v38 + 1)) m206 (o24 ++ ([x201] : List (List UInt8)))) from fun _ h => by simpa only [List.map_append] using dec_imp _ _ _ h))) (
 Iz)) (
 I_put (K := V9) (V := V4) rfl fun m208 =>
 I_check (p := (List.length (List.map eStr o24) + List.length (List.map eStr [x201])) * 16 ≤ 140737488355328 ∧ List.length (List.map eStr o24) + List.length (List.map eStr [x201]) ≤ 4611686018427387904) (by simp only [List.length_map]; exact id) (
 (show Imp _ (headT P cods H prim 57 10 [] [(0, (.pv (.mp (encMap V9 V22 to0).1 (encMap V9 V22 to0).2))), (7, (.row 20)), (8, (.row 24)), (9, (.pv (.int .i64 i9))), (36, (.pv (.lst 1 (List.map eStr v36)))), (37, (.pv (.int .i64 v37))), (38, (.pv (.int .i64 (IntKind.wrap .i64 (v38 + 1)))))] [(20, (.mp 9 4 (encMap V9 V4 m208).1 (encMap V9 V4 m208).2)), (24, (.row 9 1 ((List.map eStr o24) ++ (List.map eStr [x201]))))]) ( t74_10 to0 i9 v36 v37 (IntKind.wrap .i64 (v38 + 1)) m208 (o24 ++ ([x201] : List (List UInt8)))) from fun _ h => by simpa only [List.map_append] using dec_imp _ _ _ h)))) (
 Iz))
 (by kernel_rfl) (fun h => head_round h)
theorem e91 (x0 a1 : List UInt8) (a2 : List (List UInt8)) {r : Bool}
 (h : (
 bif (!(x0 == a1)) then (
 Option.bind (f92 a2 x0) fun y201 =>
 some y201)
 else (
 some false) : Option Bool) = some r) :
 f91 x0 a1 a2 = some r :=
 lift2 (E := (EN Q1)) h (
 Ic (
 Ik fun y201 =>
 Is) (
 Is))
 (by kernel_rfl) (fun h => run_body (C := cods) rfl h)
theorem e92 (s0 : List (List UInt8)) (v1 : List UInt8) {r : Bool}
 (h : (
 Option.bind (f125 s0 v1) fun y201 =>
 some (decide (y201 ≥ 0)) : Option Bool) = some r) :
 f92 s0 v1 = some r :=
 lift2 (E := (EN Q1)) h (
 Ik fun y201 =>
 Is)
 (by kernel_rfl) (fun h => run_body (C := cods) rfl h)
theorem e93 (s0 : List (List UInt8)) (f1_0 : List UInt8) (f1_1 : List (List UInt8)) {r : Bool}
 (h : (
 Option.bind (f126 s0 f1_0 f1_1) fun y201 =>
 some (decide (y201 ≥ 0)) : Option Bool) = some r) :
 f93 s0 f1_0 f1_1 = some r :=
 lift2 (E := (EN Q1)) h (
 Ik fun y201 =>
 Is)
 (by kernel_rfl) (fun h => run_body (C := cods) rfl h)
theorem e97 (x0 : List UInt8) {r : Bool}
 (h : (
 some (!(x0 == x0)) : Option Bool) = some r) :
 f97 x0 = some r :=
 lift2 (E := (EN Q1)) h (
 Is)
 (by kernel_rfl) (fun h => run_body (C := cods) rfl h)
theorem e57 (a0 b1 : List Int) {r : Bool}
 (h : (
 bif ((List.length a0 : Int) != (List.length b1 : Int)) then (
 some false)
 else (
 t57_4 a0 b1 0) : Option Bool) = some r) :
 f57 a0 b1 = some r :=
 lift2 (E := (EN Q1)) h (
 I_cond (c := ((List.length (List.map (eInt .u64) a0) : Int) != (List.length (List.map (eInt .u64) b1) : Int))) (by simp only [List.length_map]) (
 Is) (
 Iz))
 (by kernel_rfl) (fun h => run_body (C := cods) rfl h)
theorem k57_4 (a0 b1 : List Int) (i5 : Int) {r : Bool}
 (h : (
 bif (decide (i5 < (List.length a0 : Int))) then (
 getK a0 i5 fun x201 =>
 getK b1 i5 fun x203 =>
 bif (x201 != x203) then (
 some false)
 else (
 t57_4 a0 b1 (IntKind.wrap .i64 (i5 + 1))))
 else (
 some true) : Option Bool) = some r) :
 t57_4 a0 b1 i5 = some r :=
 lift2 (E := (EN Q1)) h (
 I_cond (c := (decide (i5 < (List.length (List.map (eInt .u64) a0) : Int)))) (by simp only [List.length_map]) (
 Ig (eInt .u64) fun x201 =>
 Ig (eInt .u64) fun x203 =>
 Ic (
 Is) (
 Iz)) (
 Is))
 (by kernel_rfl) (fun h => head_round h)
theorem e62 (a0 b1 : List Int) {r : (List Int)}
 (h : (
 check (0 ≤ ((if (List.length b1 : Int) > (List.length a0 : Int) then (List.length b1 : Int) else (List.length a0 : Int)) : Int) ∧ ((if (List.length b1 : Int) > (List.length a0 : Int) then (List.length b1 : Int) else (List.length a0 : Int)) : Int) ≤ (if (List.length b1 : Int) > (List.length a0 : Int) then (List.length b1 : Int) else (List.length a0 : Int)) ∧ 8 * Int.toNat (if (List.length b1 : Int) > (List.length a0 : Int) then (List.length b1 : Int) else (List.length a0 : Int)) ≤ 281474976710656 ∧ ((if (List.length b1 : Int) > (List.length a0 : Int) then (List.length b1 : Int) else (List.length a0 : Int)) : Int) ≤ 9223372036854775807) (
 t62_3 a0 b1 (List.length (List.replicate (Int.toNat (if (List.length b1 : Int) > (List.length a0 : Int) then (List.length b1 : Int) else (List.length a0 : Int))) 0) : Int) 0 (List.replicate (Int.toNat (if (List.length b1 : Int) > (List.length a0 : Int) then (List.length b1 : Int) else (List.length a0 : Int))) 0)) : Option (List Int)) = some r) :
 f62 a0 b1 = some r :=
 lift2 (E := (EN Q9)) h (
 I_check (p := 0 ≤ ((if (List.length (List.map (eInt .u64) b1) : Int) > (List.length (List.map (eInt .u64) a0) : Int) then (List.length (List.map (eInt .u64) b1) : Int) else (List.length (List.map (eInt .u64) a0) : Int)) : Int) ∧ ((if (List.length (List.map (eInt .u64) b1) : Int) > (List.length (List.map (eInt .u64) a0) : Int) then (List.length (List.map (eInt .u64) b1) : Int) else (List.length (List.map (eInt .u64) a0) : Int)) : Int) ≤ (if (List.length (List.map (eInt .u64) b1) : Int) > (List.length (List.map (eInt .u64) a0) : Int) then (List.length (List.map (eInt .u64) b1) : Int) else (List.length (List.map (eInt .u64) a0) : Int)) ∧ 8 * Int.toNat (if (List.length (List.map (eInt .u64) b1) : Int) > (List.length (List.map (eInt .u64) a0) : Int) then (List.length (List.map (eInt .u64) b1) : Int) else (List.length (List.map (eInt .u64) a0) : Int)) ≤ 281474976710656 ∧ ((if (List.length (List.map (eInt .u64) b1) : Int) > (List.length (List.map (eInt .u64) a0) : Int) then (List.length (List.map (eInt .u64) b1) : Int) else (List.length (List.map (eInt .u64) a0) : Int)) : Int) ≤ 9223372036854775807) (by simp only [List.length_map]; exact id) (
 (show Imp _ (headT P cods H prim 67 3 [] [(0, (.pv (.lst 1 (List.map (eInt .u64) a0)))), (1, (.pv (.lst 1 (List.map (eInt .u64) b1)))), (5, (.row 12)), (14, (.pv (.int .i64 (List.length (List.replicate (Int.toNat (if (List.length (List.map (eInt .u64) b1) : Int) > (List.length (List.map (eInt .u64) a0) : Int) then (List.length (List.map (eInt .u64) b1) : Int) else (List.length (List.map (eInt .u64) a0) : Int))) ((eInt .u64) 0)) : Int)))), (15, (.pv (.int .i64 0)))] [(12, (.row 65 1 (List.replicate (Int.toNat (if (List.length (List.map (eInt .u64) b1) : Int) > (List.length (List.map (eInt .u64) a0) : Int) then (List.length (List.map (eInt .u64) b1) : Int) else (List.length (List.map (eInt .u64) a0) : Int))) ((eInt .u64) 0))))]) ( t62_3 a0 b1 (List.length (List.replicate (Int.toNat (if (List.length b1 : Int) > (List.length a0 : Int) then (List.length b1 : Int) else (List.length a0 : Int))) 0) : Int) 0 (List.replicate (Int.toNat (if (List.length b1 : Int) > (List.length a0 : Int) then (List.length b1 : Int) else (List.length a0 : Int))) 0)) from fun _ h => by simpa only [List.length_map, List.map_replicate, List.length_replicate] using dec_imp _ _ _ h)))
 (by kernel_rfl) (fun h => run_body (C := cods) rfl h)
theorem k62_3 (a0 b1 : List Int) (v14 v15 : Int) (o12 : List Int) {r : (List Int)}
 (h : (
 bif (decide (v15 < v14)) then (
 Option.bind (f107 a0 v15) fun y201 =>
 Option.bind (f107 b1 v15) fun y203 =>
 check (0 ≤ v15 ∧ Int.toNat v15 < List.length o12) (
 getN o12 (Int.toNat v15) fun x205 =>
 t62_3 a0 b1 v14 (IntKind.wrap .i64 (v15 + 1)) (o12.set (Int.toNat v15) (IntKind.wrap .u64 ((BitVec.ofInt (IntKind.bits .u64) y201 ||| BitVec.ofInt (IntKind.bits .u64) y203).toNat : Int)))))
 else (
 Option.bind (f68 o12) fun y207 =>
 Option.bind (f68 o12) fun y209 =>
 some y209) : Option (List Int)) = some r) :
 t62_3 a0 b1 v14 v15 o12 = some r :=
 lift2 (E := (EN Q9)) h (
 Ic (
 Ik fun y201 =>
 Ik fun y203 =>
 I_check (p := 0 ≤ v15 ∧ Int.toNat v15 < List.length (List.map (eInt .u64) o12)) (by simp only [List.length_map]; exact id) (
 In (eInt .u64) fun x205 =>
 (show Imp _ (headT P cods H prim 67 3 [] [(0, (.pv (.lst 1 (List.map (eInt .u64) a0)))), (1, (.pv (.lst 1 (List.map (eInt .u64) b1)))), (5, (.row 12)), (14, (.pv (.int .i64 v14))), (15, (.pv (.int .i64 (IntKind.wrap .i64 (v15 + 1)))))] [(12, (.row 65 1 ((List.map (eInt .u64) o12).set (Int.toNat v15) ((eInt .u64) (IntKind.wrap .u64 ((BitVec.ofInt (IntKind.bits .u64) y201 ||| BitVec.ofInt (IntKind.bits .u64) y203).toNat : Int))))))]) ( t62_3 a0 b1 v14 (IntKind.wrap .i64 (v15 + 1)) (o12.set (Int.toNat v15) (IntKind.wrap .u64 ((BitVec.ofInt (IntKind.bits .u64) y201 ||| BitVec.ofInt (IntKind.bits .u64) y203).toNat : Int)))) from fun _ h => by simpa only [List.map_set] using dec_imp _ _ _ h))) (
 Ik fun y207 =>
 Ik fun y209 =>
 Is))
 (by kernel_rfl) (fun h => head_round h)
theorem e66 (m0 a1 : Int) (a2 : List Coded) {r : Bool}
 (h : (
 bif (m0 != a1) then (
 Option.bind (f24 a2 a1 m0) fun y201 =>
 some y201)
 else (
 some false) : Option Bool) = some r) :
 f66 m0 a1 a2 = some r :=
 lift2 (E := (EN Q1)) h (
 Ic (
 Ik fun y201 =>
 Is) (
 Is))
 (by kernel_rfl) (fun h => run_body (C := cods) rfl h)
theorem e67 (s0 : List Int) (f1_0 : Int) (f1_1 : List Coded) {r : Bool}
 (h : (
 Option.bind (f109 s0 f1_0 f1_1) fun y201 =>
 some (decide (y201 ≥ 0)) : Option Bool) = some r) :
 f67 s0 f1_0 f1_1 = some r :=
 lift2 (E := (EN Q1)) h (
 Ik fun y201 =>
 Is)
 (by kernel_rfl) (fun h => run_body (C := cods) rfl h)
theorem e58 (l0 : List Coded) (is1_0 : List Int) {r : Int}
 (h : (
 t58_2 is1_0 l0 (List.length l0 : Int) 0 : Option Int) = some r) :
 f58 l0 is1_0 = some r :=
 lift2 (E := (EN Q4)) h (
 (show Imp _ (headT P cods H prim 70 2 [] [(1, (.pv (.fn 71 [(.ref [(.lst 1 (List.map (eInt .u64) is1_0))])]))), (7, (.pv (.lst 2 (List.map Coded.enc l0)))), (8, (.pv (.int .i64 (List.length (List.map Coded.enc l0) : Int)))), (9, (.pv (.int .i64 0)))] []) ( t58_2 is1_0 l0 (List.length l0 : Int) 0) from fun _ h => by simpa only [List.length_map] using dec_imp _ _ _ h))
 (by kernel_rfl) (fun h => run_body (C := cods) rfl h)
theorem k58_2 (is1_0 : List Int) (v7 : List Coded) (v8 v9 : Int) {r : Int}
 (h : (
 bif (decide (v9 < v8)) then (
 getK v7 v9 fun x201 =>
 Option.bind (f59 x201 is1_0) fun y203 =>
 bif y203 then (
 some v9)
 else (
 t58_2 is1_0 v7 v8 (IntKind.wrap .i64 (v9 + 1))))
 else (
 some (-1)) : Option Int) = some r) :
 t58_2 is1_0 v7 v8 v9 = some r :=
 lift2 (E := (EN Q4)) h (
 Ic (
 Ig Coded.enc fun x201 =>
 Ik fun y203 =>
 Ic (
 Is) (
 Iz)) (
 Is))
 (by kernel_rfl) (fun h => head_round h)
theorem e59 (x0 : Coded) (a1 : List Int) {r : Bool}
 (h : (
 Option.bind (f31 x0.Code a1) fun y201 =>
 some y201 : Option Bool) = some r) :
 f59 x0 a1 = some r :=
 lift2 (E := (EN Q1)) h (
 Ik fun y201 =>
 Is)
 (by kernel_rfl) (fun h => run_body (C := cods) rfl h)
theorem e113 (s0 : List TypeDecl) {r : Bool}
 (h : (
 Option.bind (f141 s0) fun y201 =>
 some (decide (y201 ≥ 0)) : Option Bool) = some r) :
 f113 s0 = some r :=
 lift2 (E := (EN Q1)) h (
 Ik fun y201 =>
 Is)
 (by kernel_rfl) (fun h => run_body (C := cods) rfl h)
theorem e114 (x0 : TypeDecl) {r : Bool}
 (h : (
 bif (decide ((List.length x0.Supers : Int) > 256)) then (
 some true)
 else (
 some (decide ((List.length x0.Feats : Int) > 256))) : Option Bool) = some r) :
 f114 x0 = some r :=
 lift2 (E := (EN Q1)) h (
 I_cond (c := (decide ((List.length (List.map eStr x0.Supers) : Int) > 256))) (by simp only [List.length_map]) (
 Is) (
 I_some (c := ((.bool (decide ((List.length (List.map FeatDecl.enc x0.Feats) : Int) > 256))), [])) (by simp only [EN, Q1, List.length_map])))
 (by kernel_rfl) (fun h => run_body (C := cods) rfl h)
theorem e115 (s0 : List UInt8) {r : Bool}
 (h : (
 Option.bind (f142 s0) fun y201 =>
 some y201 : Option Bool) = some r) :
 f115 s0 = some r :=
 lift2 (E := (EN Q1)) h (
 Ik fun y201 =>
 Is)
 (by kernel_rfl) (fun h => run_body (C := cods) rfl h)
theorem e116 (x0 : List (List UInt8)) {r : (List UInt8)}
 (h : (
 bif (decide ((List.length x0 : Int) < 1)) then (
 none)
 else (
 getK x0 0 fun x201 =>
 t116_5 x0 x201 1) : Option (List UInt8)) = some r) :
 f116 x0 = some r :=
 lift2 (E := (EN Q12)) h (
 I_cond (c := (decide ((List.length (List.map eStr x0) : Int) < 1))) (by simp only [List.length_map]) (
 I_none (c := none)) (
 Ig eStr fun x201 =>
 Iz))
 (by kernel_rfl) (fun h => run_body (C := cods) rfl h)
theorem k116_5 (x0 : List (List UInt8)) (m3 : List UInt8) (i4 : Int) {r : (List UInt8)}
 (h : (
 bif (decide (i4 < (List.length x0 : Int))) then (
 getK x0 i4 fun x201 =>
 t116_5 x0 (bif Op.bytesLess m3 x201 || m3 == x201 then m3 else x201) (IntKind.wrap .i64 (i4 + 1)))
 else (
 some m3) : Option (List UInt8)) = some r) :
 t116_5 x0 m3 i4 = some r :=
 lift2 (E := (EN Q12)) h (
 I_cond (c := (decide (i4 < (List.length (List.map eStr x0) : Int)))) (by simp only [List.length_map]) (
 Ig eStr fun x201 =>
 Iz) (
 Is))
 (by kernel_rfl) (fun h => head_round h)
theorem e117 (del1_0 : List UInt8) (w10000 : List (List UInt8)) {r : (Nat × (List (List UInt8)))}
 (h : (
 Option.bind (f126a w10000 del1_0) fun y201 =>
 bif (y201 == (-1)) then (
 some ((List.length w10000), w10000))
 else (
 t117_5 del1_0 y201 (IntKind.wrap .i64 (y201 + 1)) w10000) : Option (Nat × (List (List UInt8)))) = some r) :
 f117 del1_0 w10000 = some r :=
 lift2 (E := E117r) h (
 Ik fun y201 =>
 Ic (
 I_some (c := ((.self (List.length (List.map eStr w10000))), [(10000, (.row 9 1 (List.map eStr w10000)))])) (by simp only [E117r, Q16, List.length_map])) (
 Iz))
 (by kernel_rfl) (fun h => run_body (C := cods) rfl h)
theorem k117_5 (del1_0 : List UInt8) (i5 j6 : Int) (o10000 : List (List UInt8)) {r : (Nat × (List (List UInt8)))}
 (h : (
 bif (decide (j6 < (List.length o10000 : Int))) then (
 check (0 ≤ j6 ∧ Int.toNat j6 < List.length o10000) (
 getN o10000 (Int.toNat j6) fun x201 =>
 Option.bind (f118 x201 del1_0) fun y203 =>
 bif (!y203) then (
 check (0 ≤ i5 ∧ Int.toNat i5 < List.length o10000) (
 getN o10000 (Int.toNat i5) fun x205 =>
 t117_5 del1_0 (IntKind.wrap .i64 (i5 + 1)) (IntKind.wrap .i64 (j6 + 1)) (o10000.set (Int.toNat i5) x201)))
 else (
 t117_5 del1_0 i5 (IntKind.wrap .i64 (j6 + 1)) o10000)))
 else (
 check (0 ≤ i5 ∧ i5 ≤ (List.length o10000 : Nat)) (
 check ((List.length o10000) ≤ List.length o10000) (
 check (0 ≤ i5 ∧ i5 ≤ (List.length (((o10000.take (Int.toNat i5)) ++ (List.replicate ((List.length o10000) - (Int.toNat i5)) [])) ++ (o10000.drop (List.length o10000))) : Nat)) (
 some ((Int.toNat i5), (((o10000.take (Int.toNat i5)) ++ (List.replicate ((List.length o10000) - (Int.toNat i5)) [])) ++ (o10000.drop (List.length o10000)))))))) : Option (Nat × (List (List UInt8)))) = some r) :
 t117_5 del1_0 i5 j6 o10000 = some r :=
 lift2 (E := E117r) h (
 I_cond (c := (decide (j6 < (List.length (List.map eStr o10000) : Int)))) (by simp only [List.length_map]) (
 I_check (p := 0 ≤ j6 ∧ Int.toNat j6 < List.length (List.map eStr o10000)) (by simp only [List.length_map]; exact id) (
 In eStr fun x201 =>
 Ik fun y203 =>
 Ic (
 I_check (p := 0 ≤ i5 ∧ Int.toNat i5 < List.length (List.map eStr o10000)) (by simp only [List.length_map]; exact id) (
 In eStr fun x205 =>
 (show Imp _ (headT P cods H prim 84 5 [10000] [(0, (.row 10000)), (1, (.pv (.fn 85 [(.ref [(.str del1_0)])]))), (5, (.pv (.int .i64 (IntKind.wrap .i64 (i5 + 1))))), (6, (.pv (.int .i64 (IntKind.wrap .i64 (j6 + 1)))))] [(10000, (.row 9 1 ((List.map eStr o10000).set (Int.toNat i5) (eStr x201))))]) ( t117_5 del1_0 (IntKind.wrap .i64 (i5 + 1)) (IntKind.wrap .i64 (j6 + 1)) (o10000.set (Int.toNat i5) x201)) from fun _ h => by simpa only [List.map_set] using dec_imp _ _ _ h))) (
 Iz))) (
 I_check (p := 0 ≤ i5 ∧ i5 ≤ (List.length (List.map eStr o10000) : Nat)) (by simp only [List.length_map]; exact id) (
 I_check (p := (List.length (List.map eStr o10000)) ≤ List.length (List.map eStr o10000)) (by simp only [List.length_map]; exact id) (
 I_check (p := 0 ≤ i5 ∧ i5 ≤ (List.length ((((List.map eStr o10000).take (Int.toNat i5)) ++ (List.replicate ((List.length (List.map eStr o10000)) - (Int.toNat i5)) (eStr []))) ++ ((List.map eStr o10000).drop (List.length (List.map eStr o10000)))) : Nat)) (by simp only [List.length_map, List.map_append, List.length_append, List.map_replicate, List.length_replicate, List.map_take, List.map_drop, List.length_take, List.length_drop]; exact id) (
 I_some (c := ((.self (Int.toNat i5)), [(10000, (.row 9 1 ((((List.map eStr o10000).take (Int.toNat i5)) ++ (List.replicate ((List.length (List.map eStr o10000)) - (Int.toNat i5)) (eStr []))) ++ ((List.map eStr o10000).drop (List.length (List.map eStr o10000))))))])) (by simp only [E117r, Q16, List.length_map, List.map_append, List.length_append, List.map_replicate, List.length_replicate, List.map_take, List.map_drop, List.length_take, List.length_drop]))))))
 (by kernel_rfl) (fun h => head_round h)
theorem e118 (s0 a1 : List UInt8) {r : Bool}
 (h : (
 some (s0 == a1) : Option Bool) = some r) :
 f118 s0 a1 = some r :=
 lift2 (E := (EN Q1)) h (
 Is)
 (by kernel_rfl) (fun h => run_body (C := cods) rfl h)
theorem e120 (x0 y1 : List UInt8) {r : Bool}
 (h : (
 Option.bind (f97 x0) fun y201 =>
 bif y201 then (
 Option.bind (f97 y1) fun y203 =>
 bif (!y203) then (
 some true)
 else (
 some (Op.bytesLess x0 y1)))
 else (
 some (Op.bytesLess x0 y1)) : Option Bool) = some r) :
 f120 x0 y1 = some r :=
 lift2 (E := (EN Q1)) h (
 Ik fun y201 =>
 Ic (
 Ik fun y203 =>
 Ic (
 Is) (
 Is)) (
 Is))
 (by kernel_rfl) (fun h => run_body (C := cods) rfl h)
theorem e121 (x0 : List UInt8) {r : Bool}
 (h : (
 some (!(x0 == x0)) : Option Bool) = some r) :
 f121 x0 = some r :=
 lift2 (E := (EN Q1)) h (
 Is)
 (by kernel_rfl) (fun h => run_body (C := cods) rfl h)
theorem e68 (b0 : List Int) {r : (List Int)}
 (h : (
 t68_2 b0 (List.length b0 : Int) : Option (List Int)) = some r) :
 f68 b0 = some r :=
 lift2 (E := (EN Q9)) h (
 (show Imp _ (headT P cods H prim 89 2 [] [(0, (.pv (.lst 1 (List.map (eInt .u64) b0)))), (3, (.pv (.int .i64 (List.length (List.map (eInt .u64) b0) : Int))))] []) ( t68_2 b0 (List.length b0 : Int)) from fun _ h => by simpa only [List.length_map] using dec_imp _ _ _ h))
 (by kernel_rfl) (fun h => run_body (C := cods) rfl h)
theorem k68_2 (b0 : List Int) (n3 : Int) {r : (List Int)}
 (h : (
 bif (decide (n3 > 0)) then (
 getK b0 (IntKind.wrap .i64 (n3 - 1)) fun x201 =>
 bif (x201 == 0) then (
 t68_2 b0 (IntKind.wrap .i64 (n3 - 1)))
 else (
 check (0 ≤ n3 ∧ n3 ≤ (List.length b0 : Nat)) (
 some ((b0.take (Int.toNat n3)).drop 0))))
 else (
 check (0 ≤ n3 ∧ n3 ≤ (List.length b0 : Nat)) (
 some ((b0.take (Int.toNat n3)).drop 0))) : Option (List Int)) = some r) :
 t68_2 b0 n3 = some r :=
 lift2 (E := (EN Q9)) h (
 Ic (
 Ig (eInt .u64) fun x201 =>
 Ic (
 Iz) (
 I_check (p := 0 ≤ n3 ∧ n3 ≤ (List.length (List.map (eInt .u64) b0) : Nat)) (by simp only [List.length_map]; exact id) (
 I_some (c := ((.lst 1 (((List.map (eInt .u64) b0).take (Int.toNat n3)).drop 0)), [])) (by simp only [EN, Q9, List.map_take, List.map_drop])))) (
 I_check (p := 0 ≤ n3 ∧ n3 ≤ (List.length (List.map (eInt .u64) b0) : Nat)) (by simp only [List.length_map]; exact id) (
 I_some (c := ((.lst 1 (((List.map (eInt .u64) b0).take (Int.toNat n3)).drop 0)), [])) (by simp only [EN, Q9, List.map_take, List.map_drop]))))
 (by kernel_rfl) (fun h => head_round h)
theorem e107 (b0 : List Int) (i1 : Int) {r : Int}
 (h : (
 bif (decide (i1 < (List.length b0 : Int))) then (
 getK b0 i1 fun x201 =>
 some x201)
 else (
 some 0) : Option Int) = some r) :
 f107 b0 i1 = some r :=
 lift2 (E := (EN Q13)) h (
 I_cond (c := (decide (i1 < (List.length (List.map (eInt .u64) b0) : Int)))) (by simp only [List.length_map]) (
 Ig (eInt .u64) fun x201 =>
 Is) (
 Is))
 (by kernel_rfl) (fun h => run_body (C := cods) rfl h)
theorem e124 (w10000 : List (List UInt8)) {r : (Nat × (List (List UInt8)))}
 (h : (
 bif (decide ((List.length w10000 : Int) < 2)) then (
 some ((List.length w10000), w10000))
 else (
 t124_4 1 w10000) : Option (Nat × (List (List UInt8)))) = some r) :
 f124 w10000 = some r :=
 lift2 (E := E117r) h (
 I_cond (c := (decide ((List.length (List.map eStr w10000) : Int) < 2))) (by simp only [List.length_map]) (
 I_some (c := ((.self (List.length (List.map eStr w10000))), [(10000, (.row 9 1 (List.map eStr w10000)))])) (by simp only [E117r, Q16, List.length_map])) (
 Iz))
 (by kernel_rfl) (fun h => run_body (C := cods) rfl h)
theorem k124_4 (k3 : Int) (o10000 : List (List UInt8)) {r : (Nat × (List (List UInt8)))}
 (h : (
 bif (decide (k3 < (List.length o10000 : Int))) then (
 check (0 ≤ k3 ∧ Int.toNat k3 < List.length o10000) (
 getN o10000 (Int.toNat k3) fun x201 =>
 check (0 ≤ (IntKind.wrap .i64 (k3 - 1)) ∧ Int.toNat (IntKind.wrap .i64 (k3 - 1)) < List.length o10000) (
 getN o10000 (Int.toNat (IntKind.wrap .i64 (k3 - 1))) fun x203 =>
 bif (x201 == x203) then (
 check (0 ≤ k3 ∧ k3 ≤ (List.length o10000 : Nat)) (
 t124_9 k3 (Int.toNat k3) (List.length o10000) 1 o10000))
 else (
 t124_4 (IntKind.wrap .i64 (k3 + 1)) o10000))))
 else (
 some ((List.length o10000), o10000)) : Option (Nat × (List (List UInt8)))) = some r) :
 t124_4 k3 o10000 = some r :=
 lift2 (E := E117r) h (
 I_cond (c := (decide (k3 < (List.length (List.map eStr o10000) : Int)))) (by simp only [List.length_map]) (
 I_check (p := 0 ≤ k3 ∧ Int.toNat k3 < List.length (List.map eStr o10000)) (by simp only [List.length_map]; exact id) (
 In eStr fun x201 =>
 I_check (p := 0 ≤ (IntKind.wrap .i64 (k3 - 1)) ∧ Int.toNat (IntKind.wrap .i64 (k3 - 1)) < List.length (List.map eStr o10000)) (by simp only [List.length_map]; exact id) (
 In eStr fun x203 =>
 Ic (
 I_check (p := 0 ≤ k3 ∧ k3 ≤ (List.length (List.map eStr o10000) : Nat)) (by simp only [List.length_map]; exact id) (
 (show Imp _ (headT P cods H prim 93 9 [10000] [(0, (.row 10000)), (3, (.pv (.int .i64 k3))), (4, (.sub 10000 1 (Int.toNat k3) (List.length (List.map eStr o10000)))), (5, (.pv (.int .i64 1)))] [(10000, (.row 9 1 (List.map eStr o10000)))]) ( t124_9 k3 (Int.toNat k3) (List.length o10000) 1 o10000) from fun _ h => by simpa only [List.length_map] using dec_imp _ _ _ h))) (
 Iz)))) (
 I_some (c := ((.self (List.length (List.map eStr o10000))), [(10000, (.row 9 1 (List.map eStr o10000)))])) (by simp only [E117r, Q16, List.length_map])))
 (by kernel_rfl) (fun h => head_round h)
theorem k124_9 (k3 : Int) (s24_0 s24_1 : Nat) (k25 : Int) (o10000 : List (List UInt8)) {r : (Nat × (List (List UInt8)))}
 (h : (
 bif (decide (k25 < ((s24_1 - s24_0 : Nat) : Int))) then (
 check (0 ≤ k25 ∧ Int.toNat k25 < s24_1 - s24_0) (
 getN o10000 (s24_0 + Int.toNat k25) fun x201 =>
 check (0 ≤ (IntKind.wrap .i64 (k25 - 1)) ∧ Int.toNat (IntKind.wrap .i64 (k25 - 1)) < s24_1 - s24_0) (
 getN o10000 (s24_0 + Int.toNat (IntKind.wrap .i64 (k25 - 1))) fun x203 =>
 bif (!(x201 == x203)) then (
 check (0 ≤ k25 ∧ Int.toNat k25 < s24_1 - s24_0) (
 getN o10000 (s24_0 + Int.toNat k25) fun x205 =>
 check (0 ≤ k3 ∧ Int.toNat k3 < List.length o10000) (
 getN o10000 (Int.toNat k3) fun x207 =>
 t124_9 (IntKind.wrap .i64 (k3 + 1)) s24_0 s24_1 (IntKind.wrap .i64 (k25 + 1)) (o10000.set (Int.toNat k3) x205))))
 else (
 t124_9 k3 s24_0 s24_1 (IntKind.wrap .i64 (k25 + 1)) o10000))))
 else (
 check (0 ≤ k3 ∧ k3 ≤ (List.length o10000 : Nat)) (
 check ((List.length o10000) ≤ List.length o10000) (
 check (0 ≤ k3 ∧ k3 ≤ (List.length (((o10000.take (Int.toNat k3)) ++ (List.replicate ((List.length o10000) - (Int.toNat k3)) [])) ++ (o10000.drop (List.length o10000))) : Nat)) (
 some ((Int.toNat k3), (((o10000.take (Int.toNat k3)) ++ (List.replicate ((List.length o10000) - (Int.toNat k3)) [])) ++ (o10000.drop (List.length o10000)))))))) : Option (Nat × (List (List UInt8)))) = some r) :
 t124_9 k3 s24_0 s24_1 k25 o10000 = some r :=
 lift2 (E := E117r) h (
 Ic (
 Ih (
 In eStr fun x201 =>
 Ih (
 In eStr fun x203 =>
 Ic (
 Ih (
 In eStr fun x205 =>
 I_check (p := 0 ≤ k3 ∧ Int.toNat k3 < List.length (List.map eStr o10000)) (by simp only [List.length_map]; exact id) (
 In eStr fun x207 =>
 (show Imp _ (headT P cods H prim 93 9 [10000] [(0, (.row 10000)), (3, (.pv (.int .i64 (IntKind.wrap .i64 (k3 + 1))))), (4, (.sub 10000 1 s24_0 s24_1)), (5, (.pv (.int .i64 (IntKind.wrap .i64 (k25 + 1)))))] [(10000, (.row 9 1 ((List.map eStr o10000).set (Int.toNat k3) (eStr x205))))]) ( t124_9 (IntKind.wrap .i64 (k3 + 1)) s24_0 s24_1 (IntKind.wrap .i64 (k25 + 1)) (o10000.set (Int.toNat k3) x205)) from fun _ h => by simpa only [List.map_set] using dec_imp _ _ _ h)))) (
 Iz)))) (
 I_check (p := 0 ≤ k3 ∧ k3 ≤ (List.length (List.map eStr o10000) : Nat)) (by simp only [List.length_map]; exact id) (
 I_check (p := (List.length (List.map eStr o10000)) ≤ List.length (List.map eStr o10000)) (by simp only [List.length_map]; exact id) (
 I_check (p := 0 ≤ k3 ∧ k3 ≤ (List.length ((((List.map eStr o10000).take (Int.toNat k3)) ++ (List.replicate ((List.length (List.map eStr o10000)) - (Int.toNat k3)) (eStr []))) ++ ((List.map eStr o10000).drop (List.length (List.map eStr o10000)))) : Nat)) (by simp only [List.length_map, List.map_append, List.length_append, List.map_replicate, List.length_replicate, List.map_take, List.map_drop, List.length_take, List.length_drop]; exact id) (
 I_some (c := ((.self (Int.toNat k3)), [(10000, (.row 9 1 ((((List.map eStr o10000).take (Int.toNat k3)) ++ (List.replicate ((List.length (List.map eStr o10000)) - (Int.toNat k3)) (eStr []))) ++ ((List.map eStr o10000).drop (List.length (List.map eStr o10000))))))])) (by simp only [E117r, Q16, List.length_map, List.map_append, List.length_append, List.map_replicate, List.length_replicate, List.map_take, List.map_drop, List.length_take, List.length_drop]))))))
 (by kernel_rfl) (fun h => head_round h)
theorem e125 (s0 : List (List UInt8)) (v1 : List UInt8) {r : Int}
 (h : (
 t125_2 s0 v1 (List.length s0 : Int) 0 : Option Int) = some r) :
 f125 s0 v1 = some r :=
 lift2 (E := (EN Q4)) h (
 (show Imp _ (headT P cods H prim 94 2 [] [(0, (.pv (.lst 1 (List.map eStr s0)))), (1, (.pv (.str v1))), (7, (.pv (.int .i64 (List.length (List.map eStr s0) : Int)))), (8, (.pv (.int .i64 0)))] []) ( t125_2 s0 v1 (List.length s0 : Int) 0) from fun _ h => by simpa only [List.length_map] using dec_imp _ _ _ h))
 (by kernel_rfl) (fun h => run_body (C := cods) rfl h)
theorem k125_2 (s0 : List (List UInt8)) (v1 : List UInt8) (v7 v8 : Int) {r : Int}
 (h : (
 bif (decide (v8 < v7)) then (
 getK s0 v8 fun x201 =>
 bif (v1 == x201) then (
 some v8)
 else (
 t125_2 s0 v1 v7 (IntKind.wrap .i64 (v8 + 1))))
 else (
 some (-1)) : Option Int) = some r) :
 t125_2 s0 v1 v7 v8 = some r :=
 lift2 (E := (EN Q4)) h (
 Ic (
 Ig eStr fun x201 =>
 Ic (
 Is) (
 Iz)) (
 Is))
 (by kernel_rfl) (fun h => head_round h)
theorem e126 (s0 : List (List UInt8)) (f1_0 : List UInt8) (f1_1 : List (List UInt8)) {r : Int}
 (h : (
 t126_2 s0 f1_0 f1_1 (List.length s0 : Int) 0 : Option Int) = some r) :
 f126 s0 f1_0 f1_1 = some r :=
 lift2 (E := (EN Q4)) h (
 (show Imp _ (headT P cods H prim 95 2 [] [(0, (.pv (.lst 1 (List.map eStr s0)))), (1, (.pv (.fn 58 [(.ref [(.str f1_0)]), (.ref [(.lst 1 (List.map eStr f1_1))])]))), (7, (.pv (.int .i64 (List.length (List.map eStr s0) : Int)))), (8, (.pv (.int .i64 0)))] []) ( t126_2 s0 f1_0 f1_1 (List.length s0 : Int) 0) from fun _ h => by simpa only [List.length_map] using dec_imp _ _ _ h))
 (by kernel_rfl) (fun h => run_body (C := cods) rfl h)
theorem e126a (s0 : List (List UInt8)) (f1_0 : List UInt8) {r : Int}
 (h : (
 t126_2a s0 f1_0 (List.length s0 : Int) 0 : Option Int) = some r) :
 f126a s0 f1_0 = some r :=
 lift2 (E := (EN Q4)) h (
 (show Imp _ (headT P cods H prim 95 2 [] [(0, (.pv (.lst 1 (List.map eStr s0)))), (1, (.pv (.fn 85 [(.ref [(.str f1_0)])]))), (7, (.pv (.int .i64 (List.length (List.map eStr s0) : Int)))), (8, (.pv (.int .i64 0)))] []) ( t126_2a s0 f1_0 (List.length s0 : Int) 0) from fun _ h => by simpa only [List.length_map] using dec_imp _ _ _ h))
 (by kernel_rfl) (fun h => run_body (C := cods) rfl h)
theorem k126_2 (s0 : List (List UInt8)) (f1_0 : List UInt8) (f1_1 : List (List UInt8)) (v7 v8 : Int) {r : Int}
 (h : (
 bif (decide (v8 < v7)) then (
 getK s0 v8 fun x201 =>
 Option.bind (f91 x201 f1_0 f1_1) fun y203 =>
 bif y203 then (
 some v8)
 else (
 t126_2 s0 f1_0 f1_1 v7 (IntKind.wrap .i64 (v8 + 1))))
 else (
 some (-1)) : Option Int) = some r) :
 t126_2 s0 f1_0 f1_1 v7 v8 = some r :=
 lift2 (E := (EN Q4)) h (
 Ic (
 Ig eStr fun x201 =>
 Ik fun y203 =>
 Ic (
 Is) (
 Iz)) (
 Is))
 (by kernel_rfl) (fun h => head_round h)
theorem k126_2a (s0 : List (List UInt8)) (f1_0 : List UInt8) (v7 v8 : Int) {r : Int}
 (h : (
 bif (decide (v8 < v7)) then (
 getK s0 v8 fun x201 =>
 Option.bind (f118 x201 f1_0) fun y203 =>
 bif y203 then (
 some v8)
 else (
 t126_2a s0 f1_0 v7 (IntKind.wrap .i64 (v8 + 1))))
 else (
 some (-1)) : Option Int) = some r) :
 t126_2a s0 f1_0 v7 v8 = some r :=
 lift2 (E := (EN Q4)) h (
 Ic (
 Ig eStr fun x201 =>
 Ik fun y203 =>
 Ic (
 Is) (
 Iz)) (
 Is))
 (by kernel_rfl) (fun h => head_round h)
theorem e109 (s0 : List Int) (f1_0 : Int) (f1_1 : List Coded) {r : Int}
 (h : (
 t109_2 s0 f1_0 f1_1 (List.length s0 : Int) 0 : Option Int) = some r) :
 f109 s0 f1_0 f1_1 = some r :=
 lift2 (E := (EN Q4)) h (
 (show Imp _ (headT P cods H prim 106 2 [] [(0, (.pv (.lst 1 (List.map (eInt .i64) s0)))), (1, (.pv (.fn 68 [(.ref [(.int .i64 f1_0)]), (.ref [(.lst 2 (List.map Coded.enc f1_1))])]))), (7, (.pv (.int .i64 (List.length (List.map (eInt .i64) s0) : Int)))), (8, (.pv (.int .i64 0)))] []) ( t109_2 s0 f1_0 f1_1 (List.length s0 : Int) 0) from fun _ h => by simpa only [List.length_map] using dec_imp _ _ _ h))
 (by kernel_rfl) (fun h => run_body (C := cods) rfl h)
theorem k109_2 (s0 : List Int) (f1_0 : Int) (f1_1 : List Coded) (v7 v8 : Int) {r : Int}
 (h : (
 bif (decide (v8 < v7)) then (
 getK s0 v8 fun x201 =>
 Option.bind (f66 x201 f1_0 f1_1) fun y203 =>
 bif y203 then (
 some v8)
 else (
 t109_2 s0 f1_0 f1_1 v7 (IntKind.wrap .i64 (v8 + 1))))
 else (
 some (-1)) : Option Int) = some r) :
 t109_2 s0 f1_0 f1_1 v7 v8 = some r :=
 lift2 (E := (EN Q4)) h (
 Ic (
 Ig (eInt .i64) fun x201 =>
 Ik fun y203 =>
 Ic (
 Is) (
 Iz)) (
 Is))
 (by kernel_rfl) (fun h => head_round h)
theorem e141 (s0 : List TypeDecl) {r : Int}
 (h : (
 t141_2 s0 (List.length s0 : Int) 0 : Option Int) = some r) :
 f141 s0 = some r :=
 lift2 (E := (EN Q4)) h (
 (show Imp _ (headT P cods H prim 115 2 [] [(0, (.pv (.lst 3 (List.map TypeDecl.enc s0)))), (1, (.pv (.fn 81 []))), (7, (.pv (.int .i64 (List.length (List.map TypeDecl.enc s0) : Int)))), (8, (.pv (.int .i64 0)))] []) ( t141_2 s0 (List.length s0 : Int) 0) from fun _ h => by simpa only [List.length_map] using dec_imp _ _ _ h))
 (by kernel_rfl) (fun h => run_body (C := cods) rfl h)
theorem k141_2 (s0 : List TypeDecl) (v7 v8 : Int) {r : Int}
 (h : (
 bif (decide (v8 < v7)) then (
 getK s0 v8 fun x201 =>
 Option.bind (f114 x201) fun y203 =>
 bif y203 then (
 some v8)
 else (
 t141_2 s0 v7 (IntKind.wrap .i64 (v8 + 1))))
 else (
 some (-1)) : Option Int) = some r) :
 t141_2 s0 v7 v8 = some r :=
 lift2 (E := (EN Q4)) h (
 Ic (
 Ig TypeDecl.enc fun x201 =>
 Ik fun y203 =>
 Ic (
 Is) (
 Iz)) (
 Is))
 (by kernel_rfl) (fun h => head_round h)
theorem e142 (s0 : List UInt8) {r : Bool}
 (h : (
 bif ((List.length s0 : Int) == 0) then (
 some false)
 else (
 bif (decide ((List.length s0 : Int) > 32)) then (
 some false)
 else (
 t142_4 s0 0)) : Option Bool) = some r) :
 f142 s0 = some r :=
 lift2 (E := (EN Q1)) h (
 Ic (
 Is) (
 Ic (
 Is) (
 Iz)))
 (by kernel_rfl) (fun h => run_body (C := cods) rfl h)
theorem k142_4 (o16_s : List UInt8) (o16_p : Nat) {r : Bool}
 (h : (
 bif (Nat.blt o16_p (List.length o16_s)) then (
 Option.bind (f143 ((Utf8.decode ⟨List.toArray o16_s⟩ o16_p).1 : Int)) fun y201 =>
 bif (!y201) then (
 bif ((o16_p : Int) == 0) then (
 some false)
 else (
 Option.bind (f161 ((Utf8.decode ⟨List.toArray o16_s⟩ o16_p).1 : Int)) fun y203 =>
 bif (!y203) then (
 bif (((Utf8.decode ⟨List.toArray o16_s⟩ o16_p).1 : Int) != 45) then (
 some false)
 else (
 t142_4 o16_s (o16_p + (Utf8.decode ⟨List.toArray o16_s⟩ o16_p).2)))
 else (
 t142_4 o16_s (o16_p + (Utf8.decode ⟨List.toArray o16_s⟩ o16_p).2))))
 else (
 t142_4 o16_s (o16_p + (Utf8.decode ⟨List.toArray o16_s⟩ o16_p).2)))
 else (
 some true) : Option Bool) = some r) :
 t142_4 o16_s o16_p = some r :=
 lift2 (E := (EN Q1)) h (
 Ic (
 Ik fun y201 =>
 Ic (
 Ic (
 Is) (
 Ik fun y203 =>
 Ic (
 Ic (
 Is) (
 Iz)) (
 Iz))) (
 Iz)) (
 Is))
 (by kernel_rfl) (fun h => head_round h)
theorem e143 (c0 : Int) {r : Bool}
 (h : (
 bif (decide (c0 ≥ 97)) then (
 some (decide (c0 ≤ 122)))
 else (
 some false) : Option Bool) = some r) :
 f143 c0 = some r :=
 lift2 (E := (EN Q1)) h (
 Ic (
 Is) (
 Is))
 (by kernel_rfl) (fun h => run_body (C := cods) rfl h)
theorem e161 (c0 : Int) {r : Bool}
 (h : (
 bif (decide (c0 ≥ 48)) then (
 some (decide (c0 ≤ 57)))
 else (
 some false) : Option Bool) = some r) :
 f161 c0 = some r :=
 lift2 (E := (EN Q1)) h (
 Ic (
 Is) (
 Is))
 (by kernel_rfl) (fun h => run_body (C := cods) rfl h)
end Go.Proofs.YtfoddgpndoeeaaaGreatDoor.cl
