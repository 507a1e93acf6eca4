/-
  The bodies of the plain functions and loops, by program (decomp4.py).
-/
import Derived.Test.YtfoddgpndoeeaaaGreatDoorClP
set_option linter.unusedVariables false
set_option linter.unusedSimpArgs false
set_option maxRecDepth 100000
namespace Go.Proofs.YtfoddgpndoeeaaaGreatDoor.cl
open Go Go.AM
theorem k27_3 (i1 v12 v13 : Int) (o2_0 : List Coded) (o5 o6 : List Int) {r : (List Int)}
 (h : (
 bif (decide (v13 < v12)) then (
 bif (v13 != i1) then (
 Option.bind (f24 o2_0 v13 i1) fun y201 =>
 bif y201 then (
 check ((List.length o5 + List.length [v13]) * 8 ≤ 140737488355328 ∧ List.length o5 + List.length [v13] ≤ 4611686018427387904) (
 t27_3 i1 v12 (IntKind.wrap .i64 (v13 + 1)) o2_0 (o5 ++ [v13]) o6))
 else (
 t27_3 i1 v12 (IntKind.wrap .i64 (v13 + 1)) o2_0 o5 o6))
 else (
 t27_3 i1 v12 (IntKind.wrap .i64 (v13 + 1)) o2_0 o5 o6))
 else (
 t27_9 o2_0 (List.length o5 : Int) 0 o5 o6) : Option (List Int)) = some r) :
 t27_3 i1 v12 v13 o2_0 o5 o6 = some r :=
 lift2 (E := (EN Q7)) h (
 Ic (
 Ic (
 Ik fun y201 =>
 Ic (
 I_check (p := (List.length (List.map (eInt .i64) o5) + List.length (List.map (eInt .i64) [v13])) * 8 ≤ 140737488355328 ∧ List.length (List.map (eInt .i64) o5) + List.length (List.map (eInt .i64) [v13]) ≤ 4611686018427387904) (by simp only [List.length_map]; exact id) (
 (show Imp _ (headT P cods H prim 32 3 [] [(1, (.pv (.int .i64 i1))), (2, (.ptr 2 0)), (5, (.row 5)), (6, (.row 6)), (12, (.pv (.int .i64 v12))), (13, (.pv (.int .i64 (IntKind.wrap .i64 (v13 + 1)))))] [(2, (.box 29 [(.pv (.lst 2 (List.map Coded.enc o2_0)))])), (5, (.row 3 1 ((List.map (eInt .i64) o5) ++ (List.map (eInt .i64) [v13])))), (6, (.row 3 1 (List.map (eInt .i64) o6)))]) ( t27_3 i1 v12 (IntKind.wrap .i64 (v13 + 1)) o2_0 (o5 ++ [v13]) o6) from fun _ h => by simpa only [List.map_append] using dec_imp _ _ _ h))) (
 Iz)) (
 Iz)) (
 (show Imp _ (headT P cods H prim 32 9 [] [(2, (.cp [(.lst 2 (List.map Coded.enc o2_0))])), (5, (.row 5)), (6, (.row 6)), (30, (.row 5)), (31, (.pv (.int .i64 (List.length (List.map (eInt .i64) o5) : Int)))), (32, (.pv (.int .i64 0)))] [(5, (.row 3 1 (List.map (eInt .i64) o5))), (6, (.row 3 1 (List.map (eInt .i64) o6)))]) ( t27_9 o2_0 (List.length o5 : Int) 0 o5 o6) from fun _ h => by simpa only [List.length_map] using dec_imp _ _ _ h)))
 (by kernel_rfl) (fun h => head_round h)
theorem k27_9 (l2 : List Coded) (v31 v32 : Int) (o5 o6 : List Int) {r : (List Int)}
 (h : (
 bif (decide (v32 < v31)) then (
 check (0 ≤ v32 ∧ Int.toNat v32 < List.length o5) (
 getN o5 (Int.toNat v32) fun x201 =>
 Option.bind (f67 o5 x201 l2) fun y203 =>
 bif (!y203) then (
 check ((List.length o6 + List.length [x201]) * 8 ≤ 140737488355328 ∧ List.length o6 + List.length [x201] ≤ 4611686018427387904) (
 t27_9 l2 v31 (IntKind.wrap .i64 (v32 + 1)) o5 (o6 ++ [x201])))
 else (
 t27_9 l2 v31 (IntKind.wrap .i64 (v32 + 1)) o5 o6)))
 else (
 some o6) : Option (List Int)) = some r) :
 t27_9 l2 v31 v32 o5 o6 = some r :=
 lift2 (E := (EN Q7)) h (
 Ic (
 I_check (p := 0 ≤ v32 ∧ Int.toNat v32 < List.length (List.map (eInt .i64) o5)) (by simp only [List.length_map]; exact id) (
 In (eInt .i64) fun x201 =>
 Ik fun y203 =>
 Ic (
 I_check (p := (List.length (List.map (eInt .i64) o6) + List.length (List.map (eInt .i64) [x201])) * 8 ≤ 140737488355328 ∧ List.length (List.map (eInt .i64) o6) + List.length (List.map (eInt .i64) [x201]) ≤ 4611686018427387904) (by simp only [List.length_map]; exact id) (
 (show Imp _ (headT P cods H prim 32 9 [] [(2, (.cp [(.lst 2 (List.map Coded.enc l2))])), (5, (.row 5)), (6, (.row 6)), (30, (.row 5)), (31, (.pv (.int .i64 v31))), (32, (.pv (.int .i64 (IntKind.wrap .i64 (v32 + 1)))))] [(5, (.row 3 1 (List.map (eInt .i64) o5))), (6, (.row 3 1 ((List.map (eInt .i64) o6) ++ (List.map (eInt .i64) [x201]))))]) ( t27_9 l2 v31 (IntKind.wrap .i64 (v32 + 1)) o5 (o6 ++ [x201])) from fun _ h => by simpa only [List.map_append] using dec_imp _ _ _ h))) (
 Iz))) (
 Is))
 (by kernel_rfl) (fun h => head_round h)
theorem e18 (l0 : List Coded) (code1 : List Int) {r : Int}
 (h : (
 Option.bind (f58 l0 code1) fun y201 =>
 some y201 : Option Int) = some r) :
 f18 l0 code1 = some r :=
 lift2 (E := (EN Q4)) h (
 Ik fun y201 =>
 Is)
 (by kernel_rfl) (fun h => run_body (C := cods) rfl h)
theorem e76 (d0 : List TypeDecl) {r : Bool}
 (h : (
 bif (decide ((List.length d0 : Int) > 256)) then (
 some true)
 else (
 Option.bind (f113 d0) fun y201 =>
 some y201) : Option Bool) = some r) :
 f76 d0 = some r :=
 lift2 (E := (EN Q1)) h (
 I_cond (c := (decide ((List.length (List.map TypeDecl.enc d0) : Int) > 256))) (by simp only [List.length_map]) (
 Is) (
 Ik fun y201 =>
 Is))
 (by kernel_rfl) (fun h => run_body (C := cods) rfl h)
theorem e77 (d0 : List TypeDecl) {r : Int}
 (h : (
 t77_3 d0 (List.length d0 : Int) 0 ([] : List ((List UInt8) × Bool)) : Option Int) = some r) :
 f77 d0 = some r :=
 lift2 (E := (EN Q4)) h (
 (show Imp _ (headT P cods H prim 40 3 [] [(3, (.row 8)), (9, (.pv (.lst 3 (List.map TypeDecl.enc d0)))), (10, (.pv (.int .i64 (List.length (List.map TypeDecl.enc d0) : Int)))), (11, (.pv (.int .i64 0)))] [(8, (.mp 9 4 (encMap V9 V4 ([] : List ((List UInt8) × Bool))).1 (encMap V9 V4 ([] : List ((List UInt8) × Bool))).2))]) ( t77_3 d0 (List.length d0 : Int) 0 ([] : List ((List UInt8) × Bool))) from fun _ h => by simpa only [List.length_map, encMap, List.length_map] using dec_imp _ _ _ h))
 (by kernel_rfl) (fun h => run_body (C := cods) rfl h)
theorem k77_3 (v9 : List TypeDecl) (v10 v11 : Int) (o8 : List ((List UInt8) × Bool)) {r : Int}
 (h : (
 bif (decide (v11 < v10)) then (
 getK v9 v11 fun x201 =>
 Option.bind (f115 x201.Name) fun y203 =>
 bif (!y203) then (
 some 1)
 else (
 lookT o8 x201.Name (fun y206 =>
 bif y206 then (
 some 4)
 else (
 letT (putM o8 x201.Name true) fun m208 =>
 t77_3 v9 v10 (IntKind.wrap .i64 (v11 + 1)) m208)) (
 letT (putM o8 x201.Name true) fun m210 =>
 t77_3 v9 v10 (IntKind.wrap .i64 (v11 + 1)) m210)))
 else (
 some 0) : Option Int) = some r) :
 t77_3 v9 v10 v11 o8 = some r :=
 lift2 (E := (EN Q4)) h (
 Ic (
 Ig TypeDecl.enc fun x201 =>
 Ik fun y203 =>
 Ic (
 Is) (
 I_look (K := V9) (V := V4) (fun y206 =>
 Ic (
 Is) (
 I_put (K := V9) (V := V4) rfl fun m208 =>
 Iz)) (
 I_put (K := V9) (V := V4) rfl fun m210 =>
 Iz))) (
 Is))
 (by kernel_rfl) (fun h => head_round h)
theorem e78 (d0 : List TypeDecl) {r : Int}
 (h : (
 Option.bind (f75 d0) fun y201 =>
 t78_3 y201 d0 (List.length d0 : Int) 0 : Option Int) = some r) :
 f78 d0 = some r :=
 lift2 (E := (EN Q4)) h (
 Ik fun y201 =>
 (show Imp _ (headT P cods H prim 41 3 [] [(3, (.pv (.mp (encMap V9 V22 y201).1 (encMap V9 V22 y201).2))), (12, (.pv (.lst 3 (List.map TypeDecl.enc d0)))), (13, (.pv (.int .i64 (List.length (List.map TypeDecl.enc d0) : Int)))), (14, (.pv (.int .i64 0)))] []) ( t78_3 y201 d0 (List.length d0 : Int) 0) from fun _ h => by simpa only [List.length_map, encMap, List.length_map] using dec_imp _ _ _ h))
 (by kernel_rfl) (fun h => run_body (C := cods) rfl h)
theorem k78_3 (declared3 : List ((List UInt8) × (List (List UInt8)))) (v12 : List TypeDecl) (v13 v14 : Int) {r : Int}
 (h : (
 bif (decide (v14 < v13)) then (
 getK v12 v14 fun x201 =>
 t78_6 declared3 v12 v13 v14 x201.Supers (List.length x201.Supers : Int) 0 x201)
 else (
 some 0) : Option Int) = some r) :
 t78_3 declared3 v12 v13 v14 = some r :=
 lift2 (E := (EN Q4)) h (
 Ic (
 Ig TypeDecl.enc fun x201 =>
 (show Imp _ (headT P cods H prim 41 6 [] [(3, (.pv (.mp (encMap V9 V22 declared3).1 (encMap V9 V22 declared3).2))), (5, (.ptr 5 0)), (12, (.pv (.lst 3 (List.map TypeDecl.enc v12)))), (13, (.pv (.int .i64 v13))), (14, (.pv (.int .i64 v14))), (19, (.pv (.lst 1 (List.map eStr x201.Supers)))), (20, (.pv (.int .i64 (List.length (List.map eStr x201.Supers) : Int)))), (21, (.pv (.int .i64 0)))] [(5, (.box 25 (List.map .pv (TypeDecl.enc x201))))]) ( t78_6 declared3 v12 v13 v14 x201.Supers (List.length x201.Supers : Int) 0 x201) from fun _ h => by simpa only [List.length_map, encMap, List.length_map] using dec_imp _ _ _ h)) (
 Is))
 (by kernel_rfl) (fun h => head_round h)
theorem k78_6 (declared3 : List ((List UInt8) × (List (List UInt8)))) (v12 : List TypeDecl) (v13 v14 : Int) (v19 : List (List UInt8)) (v20 v21 : Int) (o5 : TypeDecl) {r : Int}
 (h : (
 bif (decide (v21 < v20)) then (
 getK v19 v21 fun x201 =>
 lookT declared3 x201 (fun y204 =>
 check (0 ≤ v21 ∧ v21 ≤ (List.length o5.Supers : Nat)) (
 Option.bind (f92 ((o5.Supers.take (Int.toNat v21)).drop 0) x201) fun y205 =>
 bif y205 then (
 some 4)
 else (
 t78_6 declared3 v12 v13 v14 v19 v20 (IntKind.wrap .i64 (v21 + 1)) o5))) (
 some 5))
 else (
 t78_3 declared3 v12 v13 (IntKind.wrap .i64 (v14 + 1))) : Option Int) = some r) :
 t78_6 declared3 v12 v13 v14 v19 v20 v21 o5 = some r :=
 lift2 (E := (EN Q4)) h (
 Ic (
 Ig eStr fun x201 =>
 I_look (K := V9) (V := V22) (fun y204 =>
 I_check (p := 0 ≤ v21 ∧ v21 ≤ (List.length (List.map eStr o5.Supers) : Nat)) (by simp only [List.length_map]; exact id) (
 I_call (enc := Q1) (show Imp (EN Q1) (Rn 59 [(.pv (.lst 1 (((List.map eStr o5.Supers).take (Int.toNat v21)).drop 0))), (.pv (.str x201))] []) (f92 ((o5.Supers.take (Int.toNat v21)).drop 0) x201) from fun _ h => by simpa only [List.map_take, List.map_drop] using dec_imp _ _ _ h) fun y205 =>
 Ic (
 Is) (
 Iz))) (
 Is)) (
 Iz))
 (by kernel_rfl) (fun h => head_round h)
theorem e79 (d0 : List TypeDecl) {r : (List (List UInt8))}
 (h : (
 t79_5 d0 (List.length d0 : Int) 0 ([] : List (List UInt8)) ([] : List ((List UInt8) × Int)) ([] : List ((List UInt8) × Option (List (List UInt8)))) : Option (List (List UInt8))) = some r) :
 f79 d0 = some r :=
 lift2 (E := (EN Q11)) h (
 (show Imp _ (headT P cods H prim 42 5 [] [(3, (.row 16)), (4, (.row 17)), (5, (.row 5)), (18, (.pv (.lst 3 (List.map TypeDecl.enc d0)))), (19, (.pv (.int .i64 (List.length (List.map TypeDecl.enc d0) : Int)))), (20, (.pv (.int .i64 0)))] [(5, (.row 9 1 (List.map eStr []))), (16, (.mp 9 3 (encMap V9 V3 ([] : List ((List UInt8) × Int))).1 (encMap V9 V3 ([] : List ((List UInt8) × Int))).2)), (17, (.mr 9 9 1 (encMr V9 C9 ([] : List ((List UInt8) × Option (List (List UInt8))))).1 (encMr V9 C9 ([] : List ((List UInt8) × Option (List (List UInt8))))).2))]) ( t79_5 d0 (List.length d0 : Int) 0 ([] : List (List UInt8)) ([] : List ((List UInt8) × Int)) ([] : List ((List UInt8) × Option (List (List UInt8))))) from fun _ h => by simpa only [List.length_map, encMap, List.length_map] using dec_imp _ _ _ h))
 (by kernel_rfl) (fun h => run_body (C := cods) rfl h)
theorem k79_5 (v18 : List TypeDecl) (v19 v20 : Int) (o5 : List (List UInt8)) (o16 : List ((List UInt8) × Int)) (o17 : List ((List UInt8) × Option (List (List UInt8)))) {r : (List (List UInt8))}
 (h : (
 bif (decide (v20 < v19)) then (
 getK v18 v20 fun x201 =>
 letT (putM o16 x201.Name (List.length x201.Supers : Int)) fun m204 =>
 bif ((List.length x201.Supers : Int) == 0) then (
 check ((List.length o5 + List.length ([x201.Name] : List (List UInt8))) * 16 ≤ 140737488355328 ∧ List.length o5 + List.length ([x201.Name] : List (List UInt8)) ≤ 4611686018427387904) (
 t79_11 v18 v19 v20 x201.Supers (List.length x201.Supers : Int) 0 (o5 ++ ([x201.Name] : List (List UInt8))) x201 m204 o17))
 else (
 t79_11 v18 v19 v20 x201.Supers (List.length x201.Supers : Int) 0 o5 x201 m204 o17))
 else (
 allT o17 fun m206 =>
 t79_17 m206 o5 ([] : List (List UInt8)) o16) : Option (List (List UInt8))) = some r) :
 t79_5 v18 v19 v20 o5 o16 o17 = some r :=
 lift2 (E := (EN Q11)) h (
 Ic (
 Ig TypeDecl.enc fun x201 =>
 I_put (K := V9) (V := V3) (a := (.int .i64 (List.length (List.map eStr x201.Supers) : Int))) (by simp only [List.length_map]) fun m204 =>
 I_cond (c := ((List.length (List.map eStr x201.Supers) : Int) == 0)) (by simp only [List.length_map]) (
 I_check (p := (List.length (List.map eStr o5) + List.length (List.map eStr [x201.Name])) * 16 ≤ 140737488355328 ∧ List.length (List.map eStr o5) + List.length (List.map eStr [x201.Name]) ≤ 4611686018427387904) (by simp only [List.length_map]; exact id) (
 (show Imp _ (headT P cods H prim 42 11 [] [(3, (.row 16)), (4, (.row 17)), (5, (.row 5)), (7, (.ptr 7 0)), (18, (.pv (.lst 3 (List.map TypeDecl.enc v18)))), (19, (.pv (.int .i64 v19))), (20, (.pv (.int .i64 v20))), (40, (.pv (.lst 1 (List.map eStr x201.Supers)))), (41, (.pv (.int .i64 (List.length (List.map eStr x201.Supers) : Int)))), (42, (.pv (.int .i64 0)))] [(5, (.row 9 1 ((List.map eStr o5) ++ (List.map eStr [x201.Name])))), (7, (.box 25 (List.map .pv (TypeDecl.enc x201)))), (16, (.mp 9 3 (encMap V9 V3 m204).1 (encMap V9 V3 m204).2)), (17, (.mr 9 9 1 (encMr V9 C9 o17).1 (encMr V9 C9 o17).2))]) ( t79_11 v18 v19 v20 x201.Supers (List.length x201.Supers : Int) 0 (o5 ++ ([x201.Name] : List (List UInt8))) x201 m204 o17) from fun _ h => by simpa only [List.length_map, List.map_append, List.length_append, encMap, List.length_map] using dec_imp _ _ _ h))) (
 (show Imp _ (headT P cods H prim 42 11 [] [(3, (.row 16)), (4, (.row 17)), (5, (.row 5)), (7, (.ptr 7 0)), (18, (.pv (.lst 3 (List.map TypeDecl.enc v18)))), (19, (.pv (.int .i64 v19))), (20, (.pv (.int .i64 v20))), (40, (.pv (.lst 1 (List.map eStr x201.Supers)))), (41, (.pv (.int .i64 (List.length (List.map eStr x201.Supers) : Int)))), (42, (.pv (.int .i64 0)))] [(5, (.row 9 1 (List.map eStr o5))), (7, (.box 25 (List.map .pv (TypeDecl.enc x201)))), (16, (.mp 9 3 (encMap V9 V3 m204).1 (encMap V9 V3 m204).2)), (17, (.mr 9 9 1 (encMr V9 C9 o17).1 (encMr V9 C9 o17).2))]) ( t79_11 v18 v19 v20 x201.Supers (List.length x201.Supers : Int) 0 o5 x201 m204 o17) from fun _ h => by simpa only [List.length_map, encMap, List.length_map] using dec_imp _ _ _ h))) (
 I_all (K := V9) (C := C9) (sz := 1) fun m206 =>
 Iz))
 (by kernel_rfl) (fun h => head_round h)
theorem k79_11 (v18 : List TypeDecl) (v19 v20 : Int) (v40 : List (List UInt8)) (v41 v42 : Int) (o5 : List (List UInt8)) (o7 : TypeDecl) (o16 : List ((List UInt8) × Int)) (o17 : List ((List UInt8) × Option (List (List UInt8)))) {r : (List (List UInt8))}
 (h : (
 bif (decide (v42 < v41)) then (
 getK v40 v42 fun x201 =>
 takeT o17 x201 fun l205 m206 =>
 check ((List.length l205 + List.length ([o7.Name] : List (List UInt8))) * 16 ≤ 140737488355328 ∧ List.length l205 + List.length ([o7.Name] : List (List UInt8)) ≤ 4611686018427387904) (
 letT (putM m206 x201 (some (l205 ++ ([o7.Name] : List (List UInt8))))) fun m208 =>
 t79_11 v18 v19 v20 v40 v41 (IntKind.wrap .i64 (v42 + 1)) o5 o7 o16 m208))
 else (
 t79_5 v18 v19 (IntKind.wrap .i64 (v20 + 1)) o5 o16 o17) : Option (List (List UInt8))) = some r) :
 t79_11 v18 v19 v20 v40 v41 v42 o5 o7 o16 o17 = some r :=
 lift2 (E := (EN Q11)) h (
 Ic (
 Ig eStr fun x201 =>
 I_take (K := V9) (C := C9) fun l205 m206 =>
 I_check (p := (List.length (List.map eStr l205) + List.length (List.map eStr [o7.Name])) * 16 ≤ 140737488355328 ∧ List.length (List.map eStr l205) + List.length (List.map eStr [o7.Name]) ≤ 4611686018427387904) (by simp only [List.length_map]; exact id) (
 I_putR (K := V9) (C := C9) (L := ((List.map eStr l205) ++ (List.map eStr [o7.Name]))) (by simp only [List.map_append]) fun m208 =>
 Iz)) (
 Iz))
 (by kernel_rfl) (fun h => head_round h)
theorem k79_17 (below4 : List ((List UInt8) × (List (List UInt8)))) (o5 o10 : List (List UInt8)) (o16 : List ((List UInt8) × Int)) {r : (List (List UInt8))}
 (h : (
 bif (decide ((List.length o5 : Int) > 0)) then (
 Option.bind (f116 o5) fun y201 =>
 bind2 (f117 y201 o5) fun y203 l205 =>
 check (y203 ≤ List.length l205) (
 check ((List.length o10 + List.length ([y201] : List (List UInt8))) * 16 ≤ 140737488355328 ∧ List.length o10 + List.length ([y201] : List (List UInt8)) ≤ 4611686018427387904) (
 lookT below4 y201 (fun y208 =>
 t79_22 below4 y208 (List.length y208 : Int) 0 (l205.take y203) (o10 ++ ([y201] : List (List UInt8))) o16) (
 t79_22 below4 ([] : List (List UInt8)) (List.length ([] : List (List UInt8)) : Int) 0 (l205.take y203) (o10 ++ ([y201] : List (List UInt8))) o16))))
 else (
 some o10) : Option (List (List UInt8))) = some r) :
 t79_17 below4 o5 o10 o16 = some r :=
 lift2 (E := (EN Q11)) h (
 I_cond (c := (decide ((List.length (List.map eStr o5) : Int) > 0))) (by simp only [List.length_map]) (
 Ik fun y201 =>
 I_callR (enc := Q16) (ee := eStr) (nm := 10000) (e := 9) (sz := 1) Iz fun y203 l205 =>
 I_check (p := y203 ≤ List.length (List.map eStr l205)) (by simp only [List.length_map]; exact id) (
 I_check (p := (List.length (List.map eStr o10) + List.length (List.map eStr [y201])) * 16 ≤ 140737488355328 ∧ List.length (List.map eStr o10) + List.length (List.map eStr [y201]) ≤ 4611686018427387904) (by simp only [List.length_map]; exact id) (
 I_look (K := V9) (V := V22) (fun y208 =>
 (show Imp _ (headT P cods H prim 42 22 [] [(3, (.row 16)), (4, (.pv (.mp (encMap V9 V22 below4).1 (encMap V9 V22 below4).2))), (5, (.row 5)), (10, (.row 10)), (71, (.pv (.lst 1 (List.map eStr y208)))), (72, (.pv (.int .i64 (List.length (List.map eStr y208) : Int)))), (73, (.pv (.int .i64 0)))] [(5, (.row 9 1 ((List.map eStr l205).take y203))), (10, (.row 9 1 ((List.map eStr o10) ++ (List.map eStr [y201])))), (16, (.mp 9 3 (encMap V9 V3 o16).1 (encMap V9 V3 o16).2))]) ( t79_22 below4 y208 (List.length y208 : Int) 0 (l205.take y203) (o10 ++ ([y201] : List (List UInt8))) o16) from fun _ h => by simpa only [List.length_map, List.map_append, List.length_append, encMap, List.length_map, List.map_take, List.map_drop, List.length_take, List.length_drop] using dec_imp _ _ _ h)) (
 (show Imp _ (headT P cods H prim 42 22 [] [(3, (.row 16)), (4, (.pv (.mp (encMap V9 V22 below4).1 (encMap V9 V22 below4).2))), (5, (.row 5)), (10, (.row 10)), (71, (.pv (.lst 1 (List.map eStr [])))), (72, (.pv (.int .i64 (List.length (List.map eStr []) : Int)))), (73, (.pv (.int .i64 0)))] [(5, (.row 9 1 ((List.map eStr l205).take y203))), (10, (.row 9 1 ((List.map eStr o10) ++ (List.map eStr [y201])))), (16, (.mp 9 3 (encMap V9 V3 o16).1 (encMap V9 V3 o16).2))]) ( t79_22 below4 ([] : List (List UInt8)) (List.length ([] : List (List UInt8)) : Int) 0 (l205.take y203) (o10 ++ ([y201] : List (List UInt8))) o16) from fun _ h => by simpa only [List.length_map, List.map_append, List.length_append, encMap, List.length_map, List.map_take, List.map_drop, List.length_take, List.length_drop] using dec_imp _ _ _ h))))) (
 Is))
 (by kernel_rfl) (fun h => head_round h)
theorem k79_22 (below4 : List ((List UInt8) × (List (List UInt8)))) (v71 : List (List UInt8)) (v72 v73 : Int) (o5 o10 : List (List UInt8)) (o16 : List ((List UInt8) × Int)) {r : (List (List UInt8))}
 (h : (
 bif (decide (v73 < v72)) then (
 getK v71 v73 fun x201 =>
 lookT o16 x201 (fun y204 =>
 letT (putM o16 x201 (IntKind.wrap .i64 (y204 - 1))) fun m206 =>
 lookT m206 x201 (fun y208 =>
 bif (y208 == 0) then (
 check ((List.length o5 + List.length ([x201] : List (List UInt8))) * 16 ≤ 140737488355328 ∧ List.length o5 + List.length ([x201] : List (List UInt8)) ≤ 4611686018427387904) (
 t79_22 below4 v71 v72 (IntKind.wrap .i64 (v73 + 1)) (o5 ++ ([x201] : List (List UInt8))) o10 m206))
 else (
 t79_22 below4 v71 v72 (IntKind.wrap .i64 (v73 + 1)) o5 o10 m206)) (
 bif (0 == 0) then (
 check ((List.length o5 + List.length ([x201] : List (List UInt8))) * 16 ≤ 140737488355328 ∧ List.length o5 + List.length ([x201] : List (List UInt8)) ≤ 4611686018427387904) (
 t79_22 below4 v71 v72 (IntKind.wrap .i64 (v73 + 1)) (o5 ++ ([x201] : List (List UInt8))) o10 m206))
 else (
 t79_22 below4 v71 v72 (IntKind.wrap .i64 (v73 + 1)) o5 o10 m206))) (
 letT (putM o16 x201 (IntKind.wrap .i64 (0 - 1))) fun m210 =>
 lookT m210 x201 (fun y212 =>
 bif (y212 == 0) then (
 check ((List.length o5 + List.length ([x201] : List (List UInt8))) * 16 ≤ 140737488355328 ∧ List.length o5 + List.length ([x201] : List (List UInt8)) ≤ 4611686018427387904) (
 t79_22 below4 v71 v72 (IntKind.wrap .i64 (v73 + 1)) (o5 ++ ([x201] : List (List UInt8))) o10 m210))
 else (
 t79_22 below4 v71 v72 (IntKind.wrap .i64 (v73 + 1)) o5 o10 m210)) (
 bif (0 == 0) then (
 check ((List.length o5 + List.length ([x201] : List (List UInt8))) * 16 ≤ 140737488355328 ∧ List.length o5 + List.length ([x201] : List (List UInt8)) ≤ 4611686018427387904) (
 t79_22 below4 v71 v72 (IntKind.wrap .i64 (v73 + 1)) (o5 ++ ([x201] : List (List UInt8))) o10 m210))
 else (
 t79_22 below4 v71 v72 (IntKind.wrap .i64 (v73 + 1)) o5 o10 m210))))
 else (
 t79_17 below4 o5 o10 o16) : Option (List (List UInt8))) = some r) :
 t79_22 below4 v71 v72 v73 o5 o10 o16 = some r :=
 lift2 (E := (EN Q11)) h (
 Ic (
 Ig eStr fun x201 =>
 I_look (K := V9) (V := V3) (fun y204 =>
 I_put (K := V9) (V := V3) rfl fun m206 =>
 I_look (K := V9) (V := V3) (fun y208 =>
 Ic (
 I_check (p := (List.length (List.map eStr o5) + List.length (List.map eStr [x201])) * 16 ≤ 140737488355328 ∧ List.length (List.map eStr o5) + List.length (List.map eStr [x201]) ≤ 4611686018427387904) (by simp only [List.length_map]; exact id) (
 (show Imp _ (headT P cods H prim 42 22 [] [(3, (.row 16)), (4, (.pv (.mp (encMap V9 V22 below4).1 (encMap V9 V22 below4).2))), (5, (.row 5)), (10, (.row 10)), (71, (.pv (.lst 1 (List.map eStr v71)))), (72, (.pv (.int .i64 v72))), (73, (.pv (.int .i64 (IntKind.wrap .i64 (v73 + 1)))))] [(5, (.row 9 1 ((List.map eStr o5) ++ (List.map eStr [x201])))), (10, (.row 9 1 (List.map eStr o10))), (16, (.mp 9 3 (encMap V9 V3 m206).1 (encMap V9 V3 m206).2))]) ( t79_22 below4 v71 v72 (IntKind.wrap .i64 (v73 + 1)) (o5 ++ ([x201] : List (List UInt8))) o10 m206) from fun _ h => by simpa only [List.map_append] using dec_imp _ _ _ h))) (
 Iz)) (
 Ic (
 I_check (p := (List.length (List.map eStr o5) + List.length (List.map eStr [x201])) * 16 ≤ 140737488355328 ∧ List.length (List.map eStr o5) + List.length (List.map eStr [x201]) ≤ 4611686018427387904) (by simp only [List.length_map]; exact id) (
 (show Imp _ (headT P cods H prim 42 22 [] [(3, (.row 16)), (4, (.pv (.mp (encMap V9 V22 below4).1 (encMap V9 V22 below4).2))), (5, (.row 5)), (10, (.row 10)), (71, (.pv (.lst 1 (List.map eStr v71)))), (72, (.pv (.int .i64 v72))), (73, (.pv (.int .i64 (IntKind.wrap .i64 (v73 + 1)))))] [(5, (.row 9 1 ((List.map eStr o5) ++ (List.map eStr [x201])))), (10, (.row 9 1 (List.map eStr o10))), (16, (.mp 9 3 (encMap V9 V3 m206).1 (encMap V9 V3 m206).2))]) ( t79_22 below4 v71 v72 (IntKind.wrap .i64 (v73 + 1)) (o5 ++ ([x201] : List (List UInt8))) o10 m206) from fun _ h => by simpa only [List.map_append] using dec_imp _ _ _ h))) (
 Iz))) (
 I_put (K := V9) (V := V3) rfl fun m210 =>
 I_look (K := V9) (V := V3) (fun y212 =>
 Ic (
 I_check (p := (List.length (List.map eStr o5) + List.length (List.map eStr [x201])) * 16 ≤ 140737488355328 ∧ List.length (List.map eStr o5) + List.length (List.map eStr [x201]) ≤ 4611686018427387904) (by simp only [List.length_map]; exact id) (
 (show Imp _ (headT P cods H prim 42 22 [] [(3, (.row 16)), (4, (.pv (.mp (encMap V9 V22 below4).1 (encMap V9 V22 below4).2))), (5, (.row 5)), (10, (.row 10)), (71, (.pv (.lst 1 (List.map eStr v71)))), (72, (.pv (.int .i64 v72))), (73, (.pv (.int .i64 (IntKind.wrap .i64 (v73 + 1)))))] [(5, (.row 9 1 ((List.map eStr o5) ++ (List.map eStr [x201])))), (10, (.row 9 1 (List.map eStr o10))), (16, (.mp 9 3 (encMap V9 V3 m210).1 (encMap V9 V3 m210).2))]) ( t79_22 below4 v71 v72 (IntKind.wrap .i64 (v73 + 1)) (o5 ++ ([x201] : List (List UInt8))) o10 m210) from fun _ h => by simpa only [List.map_append] using dec_imp _ _ _ h))) (
 Iz)) (
 Ic (
 I_check (p := (List.length (List.map eStr o5) + List.length (List.map eStr [x201])) * 16 ≤ 140737488355328 ∧ List.length (List.map eStr o5) + List.length (List.map eStr [x201]) ≤ 4611686018427387904) (by simp only [List.length_map]; exact id) (
 (show Imp _ (headT P cods H prim 42 22 [] [(3, (.row 16)), (4, (.pv (.mp (encMap V9 V22 below4).1 (encMap V9 V22 below4).2))), (5, (.row 5)), (10, (.row 10)), (71, (.pv (.lst 1 (List.map eStr v71)))), (72, (.pv (.int .i64 v72))), (73, (.pv (.int .i64 (IntKind.wrap .i64 (v73 + 1)))))] [(5, (.row 9 1 ((List.map eStr o5) ++ (List.map eStr [x201])))), (10, (.row 9 1 (List.map eStr o10))), (16, (.mp 9 3 (encMap V9 V3 m210).1 (encMap V9 V3 m210).2))]) ( t79_22 below4 v71 v72 (IntKind.wrap .i64 (v73 + 1)) (o5 ++ ([x201] : List (List UInt8))) o10 m210) from fun _ h => by simpa only [List.map_append] using dec_imp _ _ _ h))) (
 Iz)))) (
 Iz))
 (by kernel_rfl) (fun h => head_round h)
theorem e81 (d0 : List TypeDecl) (name1 : List UInt8) {r : (List (List UInt8))}
 (h : (
 t81_3 name1 d0 (List.length d0 : Int) 0 ([] : List ((List UInt8) × Option (List (List UInt8)))) : Option (List (List UInt8))) = some r) :
 f81 d0 name1 = some r :=
 lift2 (E := (EN Q11)) h (
 (show Imp _ (headT P cods H prim 44 3 [] [(1, (.pv (.str name1))), (5, (.row 14)), (15, (.pv (.lst 3 (List.map TypeDecl.enc d0)))), (16, (.pv (.int .i64 (List.length (List.map TypeDecl.enc d0) : Int)))), (17, (.pv (.int .i64 0)))] [(14, (.mr 9 9 1 (encMr V9 C9 ([] : List ((List UInt8) × Option (List (List UInt8))))).1 (encMr V9 C9 ([] : List ((List UInt8) × Option (List (List UInt8))))).2))]) ( t81_3 name1 d0 (List.length d0 : Int) 0 ([] : List ((List UInt8) × Option (List (List UInt8))))) from fun _ h => by simpa only [List.length_map] using dec_imp _ _ _ h))
 (by kernel_rfl) (fun h => run_body (C := cods) rfl h)
theorem k81_3 (name1 : List UInt8) (v15 : List TypeDecl) (v16 v17 : Int) (o14 : List ((List UInt8) × Option (List (List UInt8)))) {r : (List (List UInt8))}
 (h : (
 bif (decide (v17 < v16)) then (
 getK v15 v17 fun x201 =>
 hasT o14 x201.Name fun b203 =>
 bif (!b203) then (
 letT (putM o14 x201.Name (some ([] : List (List UInt8)))) fun m205 =>
 t81_9 name1 v15 v16 v17 x201.Supers (List.length x201.Supers : Int) 0 x201 m205)
 else (
 t81_9 name1 v15 v16 v17 x201.Supers (List.length x201.Supers : Int) 0 x201 o14))
 else (
 allT o14 fun m207 =>
 Option.bind (f74 m207 name1) fun y208 =>
 some y208) : Option (List (List UInt8))) = some r) :
 t81_3 name1 v15 v16 v17 o14 = some r :=
 lift2 (E := (EN Q11)) h (
 Ic (
 Ig TypeDecl.enc fun x201 =>
 I_has (K := V9) (C := C9) fun b203 =>
 Ic (
 I_putR (K := V9) (C := C9) rfl fun m205 =>
 (show Imp _ (headT P cods H prim 44 9 [] [(1, (.pv (.str name1))), (5, (.row 14)), (7, (.ptr 7 0)), (15, (.pv (.lst 3 (List.map TypeDecl.enc v15)))), (16, (.pv (.int .i64 v16))), (17, (.pv (.int .i64 v17))), (34, (.pv (.lst 1 (List.map eStr x201.Supers)))), (35, (.pv (.int .i64 (List.length (List.map eStr x201.Supers) : Int)))), (36, (.pv (.int .i64 0)))] [(7, (.box 25 (List.map .pv (TypeDecl.enc x201)))), (14, (.mr 9 9 1 (encMr V9 C9 m205).1 (encMr V9 C9 m205).2))]) ( t81_9 name1 v15 v16 v17 x201.Supers (List.length x201.Supers : Int) 0 x201 m205) from fun _ h => by simpa only [List.length_map] using dec_imp _ _ _ h)) (
 (show Imp _ (headT P cods H prim 44 9 [] [(1, (.pv (.str name1))), (5, (.row 14)), (7, (.ptr 7 0)), (15, (.pv (.lst 3 (List.map TypeDecl.enc v15)))), (16, (.pv (.int .i64 v16))), (17, (.pv (.int .i64 v17))), (34, (.pv (.lst 1 (List.map eStr x201.Supers)))), (35, (.pv (.int .i64 (List.length (List.map eStr x201.Supers) : Int)))), (36, (.pv (.int .i64 0)))] [(7, (.box 25 (List.map .pv (TypeDecl.enc x201)))), (14, (.mr 9 9 1 (encMr V9 C9 o14).1 (encMr V9 C9 o14).2))]) ( t81_9 name1 v15 v16 v17 x201.Supers (List.length x201.Supers : Int) 0 x201 o14) from fun _ h => by simpa only [List.length_map] using dec_imp _ _ _ h))) (
 I_all (K := V9) (C := C9) (sz := 1) fun m207 =>
 Ik fun y208 =>
 Is))
 (by kernel_rfl) (fun h => head_round h)
theorem k81_9 (name1 : List UInt8) (v15 : List TypeDecl) (v16 v17 : Int) (v34 : List (List UInt8)) (v35 v36 : Int) (o7 : TypeDecl) (o14 : List ((List UInt8) × Option (List (List UInt8)))) {r : (List (List UInt8))}
 (h : (
 bif (decide (v36 < v35)) then (
 getK v34 v36 fun x201 =>
 takeT o14 x201 fun l205 m206 =>
 check ((List.length l205 + List.length ([o7.Name] : List (List UInt8))) * 16 ≤ 140737488355328 ∧ List.length l205 + List.length ([o7.Name] : List (List UInt8)) ≤ 4611686018427387904) (
 letT (putM m206 x201 (some (l205 ++ ([o7.Name] : List (List UInt8))))) fun m208 =>
 t81_9 name1 v15 v16 v17 v34 v35 (IntKind.wrap .i64 (v36 + 1)) o7 m208))
 else (
 t81_3 name1 v15 v16 (IntKind.wrap .i64 (v17 + 1)) o14) : Option (List (List UInt8))) = some r) :
 t81_9 name1 v15 v16 v17 v34 v35 v36 o7 o14 = some r :=
 lift2 (E := (EN Q11)) h (
 Ic (
 Ig eStr fun x201 =>
 I_take (K := V9) (C := C9) fun l205 m206 =>
 I_check (p := (List.length (List.map eStr l205) + List.length (List.map eStr [o7.Name])) * 16 ≤ 140737488355328 ∧ List.length (List.map eStr l205) + List.length (List.map eStr [o7.Name]) ≤ 4611686018427387904) (by simp only [List.length_map]; exact id) (
 I_putR (K := V9) (C := C9) (L := ((List.map eStr l205) ++ (List.map eStr [o7.Name]))) (by simp only [List.map_append]) fun m208 =>
 Iz)) (
 Iz))
 (by kernel_rfl) (fun h => head_round h)
theorem e82 (x0 : List (List UInt8)) (target1 : List UInt8) {r : (Int × Bool)}
 (h : (
 t82_3 x0 target1 (List.length x0 : Int) 0 (List.length x0 : Int) : Option (Int × Bool)) = some r) :
 f82 x0 target1 = some r :=
 lift2 (E := (EN Q14)) h (
 (show Imp _ (headT P cods H prim 45 3 [] [(0, (.pv (.lst 1 (List.map eStr x0)))), (1, (.pv (.str target1))), (6, (.pv (.int .i64 (List.length (List.map eStr x0) : Int)))), (7, (.pv (.int .i64 0))), (8, (.pv (.int .i64 (List.length (List.map eStr x0) : Int))))] []) ( t82_3 x0 target1 (List.length x0 : Int) 0 (List.length x0 : Int)) from fun _ h => by simpa only [List.length_map] using dec_imp _ _ _ h))
 (by kernel_rfl) (fun h => run_body (C := cods) rfl h)
theorem k82_3 (x0 : List (List UInt8)) (target1 : List UInt8) (n6 i7 j8 : Int) {r : (Int × Bool)}
 (h : (
 bif (decide (i7 < j8)) then (
 check (0 ≤ 1) (
 getK x0 (IntKind.wrap .i64 ((Int.fdiv (IntKind.wrap .u64 ((IntKind.wrap .i64 (i7 + j8)))) (2 ^ min (Int.toNat 1) (IntKind.bits .u64))))) fun x201 =>
 Option.bind (f120 x201 target1) fun y203 =>
 bif y203 then (
 t82_3 x0 target1 n6 (IntKind.wrap .i64 ((IntKind.wrap .i64 ((Int.fdiv (IntKind.wrap .u64 ((IntKind.wrap .i64 (i7 + j8)))) (2 ^ min (Int.toNat 1) (IntKind.bits .u64))))) + 1)) j8)
 else (
 t82_3 x0 target1 n6 i7 (IntKind.wrap .i64 ((Int.fdiv (IntKind.wrap .u64 ((IntKind.wrap .i64 (i7 + j8)))) (2 ^ min (Int.toNat 1) (IntKind.bits .u64))))))))
 else (
 bif (decide (i7 < n6)) then (
 getK x0 i7 fun x205 =>
 bif (x205 == target1) then (
 some (i7, true))
 else (
 getK x0 i7 fun x207 =>
 Option.bind (f121 x207) fun y209 =>
 bif y209 then (
 Option.bind (f121 target1) fun y211 =>
 some (i7, y211))
 else (
 some (i7, false))))
 else (
 some (i7, false))) : Option (Int × Bool)) = some r) :
 t82_3 x0 target1 n6 i7 j8 = some r :=
 lift2 (E := (EN Q14)) h (
 Ic (
 Ih (
 Ig eStr fun x201 =>
 Ik fun y203 =>
 Ic (
 Iz) (
 Iz))) (
 Ic (
 Ig eStr fun x205 =>
 Ic (
 Is) (
 Ig eStr fun x207 =>
 Ik fun y209 =>
 Ic (
 Ik fun y211 =>
 Is) (
 Is))) (
 Is)))
 (by kernel_rfl) (fun h => head_round h)
theorem e83 (l0 : List Int) {r : ((List Int) × Int)}
 (h : (
 t83_3 l0 (-1) l0 (List.length l0 : Int) 0 : Option ((List Int) × Int)) = some r) :
 f83 l0 = some r :=
 lift2 (E := (EN Q15)) h (
 (show Imp _ (headT P cods H prim 46 3 [] [(0, (.pv (.lst 1 (List.map (eInt .i64) l0)))), (4, (.pv (.int .i64 (-1)))), (10, (.pv (.lst 1 (List.map (eInt .i64) l0)))), (11, (.pv (.int .i64 (List.length (List.map (eInt .i64) l0) : Int)))), (12, (.pv (.int .i64 0)))] []) ( t83_3 l0 (-1) l0 (List.length l0 : Int) 0) from fun _ h => by simpa only [List.length_map] using dec_imp _ _ _ h))
 (by kernel_rfl) (fun h => run_body (C := cods) rfl h)
theorem k83_3 (l0 : List Int) (most4 : Int) (v10 : List Int) (v11 v12 : Int) {r : ((List Int) × Int)}
 (h : (
 bif (decide (v12 < v11)) then (
 getK v10 v12 fun x201 =>
 bif (decide (x201 < 0)) then (
 some (([] : List Int), 2))
 else (
 bif (decide (x201 > 4095)) then (
 some (([] : List Int), 2))
 else (
 t83_3 l0 (if x201 > most4 then x201 else most4) v10 v11 (IntKind.wrap .i64 (v12 + 1)))))
 else (
 check (64 ≠ 0) (
 check (0 ≤ ((IntKind.wrap .i64 (Int.tdiv (IntKind.wrap .i64 (most4 + 64)) 64)) : Int) ∧ ((IntKind.wrap .i64 (Int.tdiv (IntKind.wrap .i64 (most4 + 64)) 64)) : Int) ≤ (IntKind.wrap .i64 (Int.tdiv (IntKind.wrap .i64 (most4 + 64)) 64)) ∧ 8 * Int.toNat (IntKind.wrap .i64 (Int.tdiv (IntKind.wrap .i64 (most4 + 64)) 64)) ≤ 281474976710656 ∧ ((IntKind.wrap .i64 (Int.tdiv (IntKind.wrap .i64 (most4 + 64)) 64)) : Int) ≤ 9223372036854775807) (
 t83_11 l0 (List.length l0 : Int) 0 (List.replicate (Int.toNat (IntKind.wrap .i64 (Int.tdiv (IntKind.wrap .i64 (most4 + 64)) 64))) 0)))) : Option ((List Int) × Int)) = some r) :
 t83_3 l0 most4 v10 v11 v12 = some r :=
 lift2 (E := (EN Q15)) h (
 Ic (
 Ig (eInt .i64) fun x201 =>
 Ic (
 Is) (
 Ic (
 Is) (
 Iz))) (
 Ih (
 Ih (
 (show Imp _ (headT P cods H prim 46 11 [] [(7, (.row 29)), (30, (.pv (.lst 1 (List.map (eInt .i64) l0)))), (31, (.pv (.int .i64 (List.length (List.map (eInt .i64) l0) : Int)))), (32, (.pv (.int .i64 0)))] [(29, (.row 65 1 (List.replicate (Int.toNat (IntKind.wrap .i64 (Int.tdiv (IntKind.wrap .i64 (most4 + 64)) 64))) ((eInt .u64) 0))))]) ( t83_11 l0 (List.length l0 : Int) 0 (List.replicate (Int.toNat (IntKind.wrap .i64 (Int.tdiv (IntKind.wrap .i64 (most4 + 64)) 64))) 0)) from fun _ h => by simpa only [List.length_map, List.map_replicate, List.length_replicate] using dec_imp _ _ _ h)))))
 (by kernel_rfl) (fun h => head_round h)
theorem k83_11 (v30 : List Int) (v31 v32 : Int) (o29 : List Int) {r : ((List Int) × Int)}
 (h : (
 bif (decide (v32 < v31)) then (
 getK v30 v32 fun x201 =>
 check (64 ≠ 0) (
 check (0 ≤ (IntKind.wrap .i64 (Int.tdiv x201 64)) ∧ Int.toNat (IntKind.wrap .i64 (Int.tdiv x201 64)) < List.length o29) (
 getN o29 (Int.toNat (IntKind.wrap .i64 (Int.tdiv x201 64))) fun x203 =>
 check (64 ≠ 0) (
 check (0 ≤ (Int.tmod x201 64)) (
 check (0 ≤ (IntKind.wrap .i64 (Int.tdiv x201 64)) ∧ Int.toNat (IntKind.wrap .i64 (Int.tdiv x201 64)) < List.length o29) (
 getN o29 (Int.toNat (IntKind.wrap .i64 (Int.tdiv x201 64))) fun x205 =>
 t83_11 v30 v31 (IntKind.wrap .i64 (v32 + 1)) (o29.set (Int.toNat (IntKind.wrap .i64 (Int.tdiv x201 64))) (IntKind.wrap .u64 ((BitVec.ofInt (IntKind.bits .u64) x203 ||| BitVec.ofInt (IntKind.bits .u64) (IntKind.wrap .u64 (1 * 2 ^ min (Int.toNat (Int.tmod x201 64)) (IntKind.bits .u64)))).toNat : Int)))))))))
 else (
 Option.bind (f68 o29) fun y207 =>
 Option.bind (f68 o29) fun y209 =>
 some (y209, 0)) : Option ((List Int) × Int)) = some r) :
 t83_11 v30 v31 v32 o29 = some r :=
 lift2 (E := (EN Q15)) h (
 Ic (
 Ig (eInt .i64) fun x201 =>
 Ih (
 I_check (p := 0 ≤ (IntKind.wrap .i64 (Int.tdiv x201 64)) ∧ Int.toNat (IntKind.wrap .i64 (Int.tdiv x201 64)) < List.length (List.map (eInt .u64) o29)) (by simp only [List.length_map]; exact id) (
 In (eInt .u64) fun x203 =>
 Ih (
 Ih (
 I_check (p := 0 ≤ (IntKind.wrap .i64 (Int.tdiv x201 64)) ∧ Int.toNat (IntKind.wrap .i64 (Int.tdiv x201 64)) < List.length (List.map (eInt .u64) o29)) (by simp only [List.length_map]; exact id) (
 In (eInt .u64) fun x205 =>
 (show Imp _ (headT P cods H prim 46 11 [] [(7, (.row 29)), (30, (.pv (.lst 1 (List.map (eInt .i64) v30)))), (31, (.pv (.int .i64 v31))), (32, (.pv (.int .i64 (IntKind.wrap .i64 (v32 + 1)))))] [(29, (.row 65 1 ((List.map (eInt .u64) o29).set (Int.toNat (IntKind.wrap .i64 (Int.tdiv x201 64))) ((eInt .u64) (IntKind.wrap .u64 ((BitVec.ofInt (IntKind.bits .u64) x203 ||| BitVec.ofInt (IntKind.bits .u64) (IntKind.wrap .u64 (1 * 2 ^ min (Int.toNat (Int.tmod x201 64)) (IntKind.bits .u64)))).toNat : Int))))))]) ( t83_11 v30 v31 (IntKind.wrap .i64 (v32 + 1)) (o29.set (Int.toNat (IntKind.wrap .i64 (Int.tdiv x201 64))) (IntKind.wrap .u64 ((BitVec.ofInt (IntKind.bits .u64) x203 ||| BitVec.ofInt (IntKind.bits .u64) (IntKind.wrap .u64 (1 * 2 ^ min (Int.toNat (Int.tmod x201 64)) (IntKind.bits .u64)))).toNat : Int)))) from fun _ h => by simpa only [List.map_set] using dec_imp _ _ _ h))))))) (
 Ik fun y207 =>
 Ik fun y209 =>
 Is))
 (by kernel_rfl) (fun h => head_round h)
theorem e84 (b0 : List Int) (w10002 : List ((List UInt8) × Bool)) (w20003 : List (List Int)) {r : (Unit × (List ((List UInt8) × Bool)) × (List (List Int)))}
 (h : (
 bif (decide ((List.length b0 : Int) > 0)) then (
 Option.bind (f85 b0) fun y201 =>
 lookT w10002 y201 (fun y204 =>
 bif (!y204) then (
 Option.bind (f85 b0) fun y205 =>
 letT (putM w10002 y205 true) fun m208 =>
 check ((List.length w20003 + List.length ([b0] : List (List Int))) * 24 ≤ 140737488355328 ∧ List.length w20003 + List.length ([b0] : List (List Int)) ≤ 4611686018427387904) (
 some ((), m208, (w20003 ++ ([b0] : List (List Int))))))
 else (
 some ((), w10002, w20003))) (
 Option.bind (f85 b0) fun y209 =>
 letT (putM w10002 y209 true) fun m212 =>
 check ((List.length w20003 + List.length ([b0] : List (List Int))) * 24 ≤ 140737488355328 ∧ List.length w20003 + List.length ([b0] : List (List Int)) ≤ 4611686018427387904) (
 some ((), m212, (w20003 ++ ([b0] : List (List Int)))))))
 else (
 some ((), w10002, w20003)) : Option (Unit × (List ((List UInt8) × Bool)) × (List (List Int)))) = some r) :
 f84 b0 w10002 w20003 = some r :=
 lift2 (E := E84r) h (
 I_cond (c := (decide ((List.length (List.map (eInt .u64) b0) : Int) > 0))) (by simp only [List.length_map]) (
 Ik fun y201 =>
 I_look (K := V9) (V := V4) (fun y204 =>
 Ic (
 Ik fun y205 =>
 I_put (K := V9) (V := V4) rfl fun m208 =>
 I_check (p := (List.length (List.map (eLst 1 (eInt .u64)) w20003) + List.length (List.map (eLst 1 (eInt .u64)) [b0])) * 24 ≤ 140737488355328 ∧ List.length (List.map (eLst 1 (eInt .u64)) w20003) + List.length (List.map (eLst 1 (eInt .u64)) [b0]) ≤ 4611686018427387904) (by simp only [List.length_map]; exact id) (
 I_some (c := ((.tup []), [(10000, (.box 97 [(.row 10002)])), (10001, (.box 43 [(.row 20003)])), (10002, (.mp 9 4 (encMap V9 V4 m208).1 (encMap V9 V4 m208).2)), (20003, (.row 49 1 ((List.map (eLst 1 (eInt .u64)) w20003) ++ (List.map (eLst 1 (eInt .u64)) [b0]))))])) (by simp only [E84r, Q8, List.map_append]))) (
 Is)) (
 Ik fun y209 =>
 I_put (K := V9) (V := V4) rfl fun m212 =>
 I_check (p := (List.length (List.map (eLst 1 (eInt .u64)) w20003) + List.length (List.map (eLst 1 (eInt .u64)) [b0])) * 24 ≤ 140737488355328 ∧ List.length (List.map (eLst 1 (eInt .u64)) w20003) + List.length (List.map (eLst 1 (eInt .u64)) [b0]) ≤ 4611686018427387904) (by simp only [List.length_map]; exact id) (
 I_some (c := ((.tup []), [(10000, (.box 97 [(.row 10002)])), (10001, (.box 43 [(.row 20003)])), (10002, (.mp 9 4 (encMap V9 V4 m212).1 (encMap V9 V4 m212).2)), (20003, (.row 49 1 ((List.map (eLst 1 (eInt .u64)) w20003) ++ (List.map (eLst 1 (eInt .u64)) [b0]))))])) (by simp only [E84r, Q8, List.map_append])))) (
 Is))
 (by kernel_rfl) (fun h => run_body (C := cods) rfl h)
theorem e85 (b0 : List Int) {r : (List UInt8)}
 (h : (
 check (0 ≤ (0 : Int) ∧ (0 : Int) ≤ (IntKind.wrap .i64 (8 * (List.length b0 : Int))) ∧ 1 * Int.toNat (IntKind.wrap .i64 (8 * (List.length b0 : Int))) ≤ 281474976710656 ∧ ((IntKind.wrap .i64 (8 * (List.length b0 : Int))) : Int) ≤ 9223372036854775807) (
 t85_3 b0 (List.length b0 : Int) 0 (List.replicate (Int.toNat 0) 0)) : Option (List UInt8)) = some r) :
 f85 b0 = some r :=
 lift2 (E := (EN Q12)) h (
 I_check (p := 0 ≤ (0 : Int) ∧ (0 : Int) ≤ (IntKind.wrap .i64 (8 * (List.length (List.map (eInt .u64) b0) : Int))) ∧ 1 * Int.toNat (IntKind.wrap .i64 (8 * (List.length (List.map (eInt .u64) b0) : Int))) ≤ 281474976710656 ∧ ((IntKind.wrap .i64 (8 * (List.length (List.map (eInt .u64) b0) : Int))) : Int) ≤ 9223372036854775807) (by simp only [List.length_map]; exact id) (
 (show Imp _ (headT P cods H prim 48 3 [] [(3, (.row 10)), (11, (.pv (.lst 1 (List.map (eInt .u64) b0)))), (12, (.pv (.int .i64 (List.length (List.map (eInt .u64) b0) : Int)))), (13, (.pv (.int .i64 0)))] [(10, (.row 5 1 (List.replicate (Int.toNat 0) ((eInt .u8) 0))))]) ( t85_3 b0 (List.length b0 : Int) 0 (List.replicate (Int.toNat 0) 0)) from fun _ h => by simpa only [List.length_map, List.map_replicate, List.length_replicate] using dec_imp _ _ _ h)))
 (by kernel_rfl) (fun h => run_body (C := cods) rfl h)
theorem k85_3 (v11 : List Int) (v12 v13 : Int) (o10 : List Int) {r : (List UInt8)}
 (h : (
 bif (decide (v13 < v12)) then (
 getK v11 v13 fun x201 =>
 t85_6 x201 0 v11 v12 v13 o10)
 else (
 bytesT o10 fun s203 =>
 some s203) : Option (List UInt8)) = some r) :
 t85_3 v11 v12 v13 o10 = some r :=
 lift2 (E := (EN Q12)) h (
 Ic (
 Ig (eInt .u64) fun x201 =>
 Iz) (
 I_bytes rfl fun s203 =>
 Is))
 (by kernel_rfl) (fun h => head_round h)
theorem k85_6 (w5 k6 : Int) (v11 : List Int) (v12 v13 : Int) (o10 : List Int) {r : (List UInt8)}
 (h : (
 bif (decide (k6 < 64)) then (
 check (0 ≤ k6) (
 check ((List.length o10 + List.length [(IntKind.wrap .u8 ((Int.fdiv w5 (2 ^ min (Int.toNat k6) (IntKind.bits .u64)))))]) * 1 ≤ 140737488355328 ∧ List.length o10 + List.length [(IntKind.wrap .u8 ((Int.fdiv w5 (2 ^ min (Int.toNat k6) (IntKind.bits .u64)))))] ≤ 4611686018427387904) (
 t85_6 w5 (IntKind.wrap .i64 (k6 + 8)) v11 v12 v13 (o10 ++ [(IntKind.wrap .u8 ((Int.fdiv w5 (2 ^ min (Int.toNat k6) (IntKind.bits .u64)))))]))))
 else (
 t85_3 v11 v12 (IntKind.wrap .i64 (v13 + 1)) o10) : Option (List UInt8)) = some r) :
 t85_6 w5 k6 v11 v12 v13 o10 = some r :=
 lift2 (E := (EN Q12)) h (
 Ic (
 Ih (
 I_check (p := (List.length (List.map (eInt .u8) o10) + List.length (List.map (eInt .u8) [(IntKind.wrap .u8 ((Int.fdiv w5 (2 ^ min (Int.toNat k6) (IntKind.bits .u64)))))])) * 1 ≤ 140737488355328 ∧ List.length (List.map (eInt .u8) o10) + List.length (List.map (eInt .u8) [(IntKind.wrap .u8 ((Int.fdiv w5 (2 ^ min (Int.toNat k6) (IntKind.bits .u64)))))]) ≤ 4611686018427387904) (by simp only [List.length_map]; exact id) (
 (show Imp _ (headT P cods H prim 48 6 [] [(3, (.row 10)), (5, (.pv (.int .u64 w5))), (6, (.pv (.int .i64 (IntKind.wrap .i64 (k6 + 8))))), (11, (.pv (.lst 1 (List.map (eInt .u64) v11)))), (12, (.pv (.int .i64 v12))), (13, (.pv (.int .i64 v13)))] [(10, (.row 5 1 ((List.map (eInt .u8) o10) ++ (List.map (eInt .u8) [(IntKind.wrap .u8 ((Int.fdiv w5 (2 ^ min (Int.toNat k6) (IntKind.bits .u64)))))]))))]) ( t85_6 w5 (IntKind.wrap .i64 (k6 + 8)) v11 v12 v13 (o10 ++ [(IntKind.wrap .u8 ((Int.fdiv w5 (2 ^ min (Int.toNat k6) (IntKind.bits .u64)))))])) from fun _ h => by simpa only [List.map_append] using dec_imp _ _ _ h)))) (
 Iz))
 (by kernel_rfl) (fun h => head_round h)
theorem e29 (a0 b1 : List Int) {r : (List Int)}
 (h : (
 check (0 ≤ ((if (List.length b1 : Int) < (List.length a0 : Int) then (List.length b1 : Int) else (List.length a0 : Int)) : Int) ∧ ((if (List.length b1 : Int) < (List.length a0 : Int) then (List.length b1 : Int) else (List.length a0 : Int)) : Int) ≤ (if (List.length b1 : Int) < (List.length a0 : Int) then (List.length b1 : Int) else (List.length a0 : Int)) ∧ 8 * Int.toNat (if (List.length b1 : Int) < (List.length a0 : Int) then (List.length b1 : Int) else (List.length a0 : Int)) ≤ 281474976710656 ∧ ((if (List.length b1 : Int) < (List.length a0 : Int) then (List.length b1 : Int) else (List.length a0 : Int)) : Int) ≤ 9223372036854775807) (
 t29_3 a0 b1 (List.length (List.replicate (Int.toNat (if (List.length b1 : Int) < (List.length a0 : Int) then (List.length b1 : Int) else (List.length a0 : Int))) 0) : Int) 0 (List.replicate (Int.toNat (if (List.length b1 : Int) < (List.length a0 : Int) then (List.length b1 : Int) else (List.length a0 : Int))) 0)) : Option (List Int)) = some r) :
 f29 a0 b1 = some r :=
 lift2 (E := (EN Q9)) h (
 I_check (p := 0 ≤ ((if (List.length (List.map (eInt .u64) b1) : Int) < (List.length (List.map (eInt .u64) a0) : Int) then (List.length (List.map (eInt .u64) b1) : Int) else (List.length (List.map (eInt .u64) a0) : Int)) : Int) ∧ ((if (List.length (List.map (eInt .u64) b1) : Int) < (List.length (List.map (eInt .u64) a0) : Int) then (List.length (List.map (eInt .u64) b1) : Int) else (List.length (List.map (eInt .u64) a0) : Int)) : Int) ≤ (if (List.length (List.map (eInt .u64) b1) : Int) < (List.length (List.map (eInt .u64) a0) : Int) then (List.length (List.map (eInt .u64) b1) : Int) else (List.length (List.map (eInt .u64) a0) : Int)) ∧ 8 * Int.toNat (if (List.length (List.map (eInt .u64) b1) : Int) < (List.length (List.map (eInt .u64) a0) : Int) then (List.length (List.map (eInt .u64) b1) : Int) else (List.length (List.map (eInt .u64) a0) : Int)) ≤ 281474976710656 ∧ ((if (List.length (List.map (eInt .u64) b1) : Int) < (List.length (List.map (eInt .u64) a0) : Int) then (List.length (List.map (eInt .u64) b1) : Int) else (List.length (List.map (eInt .u64) a0) : Int)) : Int) ≤ 9223372036854775807) (by simp only [List.length_map]; exact id) (
 (show Imp _ (headT P cods H prim 49 3 [] [(0, (.pv (.lst 1 (List.map (eInt .u64) a0)))), (1, (.pv (.lst 1 (List.map (eInt .u64) b1)))), (5, (.row 12)), (14, (.pv (.int .i64 (List.length (List.replicate (Int.toNat (if (List.length (List.map (eInt .u64) b1) : Int) < (List.length (List.map (eInt .u64) a0) : Int) then (List.length (List.map (eInt .u64) b1) : Int) else (List.length (List.map (eInt .u64) a0) : Int))) ((eInt .u64) 0)) : Int)))), (15, (.pv (.int .i64 0)))] [(12, (.row 65 1 (List.replicate (Int.toNat (if (List.length (List.map (eInt .u64) b1) : Int) < (List.length (List.map (eInt .u64) a0) : Int) then (List.length (List.map (eInt .u64) b1) : Int) else (List.length (List.map (eInt .u64) a0) : Int))) ((eInt .u64) 0))))]) ( t29_3 a0 b1 (List.length (List.replicate (Int.toNat (if (List.length b1 : Int) < (List.length a0 : Int) then (List.length b1 : Int) else (List.length a0 : Int))) 0) : Int) 0 (List.replicate (Int.toNat (if (List.length b1 : Int) < (List.length a0 : Int) then (List.length b1 : Int) else (List.length a0 : Int))) 0)) from fun _ h => by simpa only [List.length_map, List.map_replicate, List.length_replicate] using dec_imp _ _ _ h)))
 (by kernel_rfl) (fun h => run_body (C := cods) rfl h)
end Go.Proofs.YtfoddgpndoeeaaaGreatDoor.cl
