/-
  The bodies of the plain functions and loops, by program (decomp4.py).
-/
import Derived.Test.YtfoddgpndoeeaaaGreatDoorClD
set_option linter.unusedVariables false
set_option linter.unusedSimpArgs false
set_option maxRecDepth 100000
namespace Go.Proofs.YtfoddgpndoeeaaaGreatDoor.cl
open Go Go.AM
theorem e392 (which0 : Int) {r : Bool}
 (h : (
 check (7 ≠ 0) (
 Option.bind (f393 [116] ([] : List (List UInt8))) fun y201 =>
 t392_4 (IntKind.wrap .i64 (3 + (Int.tmod (IntKind.wrap .i64 (which0)) 7))) 0 [y201]) : Option Bool) = some r) :
 f392 which0 = some r :=
 lift2 (E := (EN Q1)) h (
 Ih (
 Ik fun y201 =>
 Iz))
 (by kernel_rfl) (fun h => run_body (C := cods) rfl h)
theorem k392_4 (n3 i5 : Int) (o16 : List TypeDecl) {r : Bool}
 (h : (
 bif (decide (i5 < n3)) then (
 bytesT [(IntKind.wrap .u8 ((IntKind.wrap .i64 (97 + i5))))] fun s201 =>
 check (List.length ([120] : List UInt8) + List.length s201 ≤ 9223372036854775807) (
 Option.bind (f393 ([120] ++ s201) ([[116]] : List (List UInt8))) fun y202 =>
 check ((List.length o16 + List.length [y202]) * 64 ≤ 140737488355328 ∧ List.length o16 + List.length [y202] ≤ 4611686018427387904) (
 t392_4 n3 (IntKind.wrap .i64 (i5 + 1)) (o16 ++ [y202]))))
 else (
 t392_8 n3 0 o16) : Option Bool) = some r) :
 t392_4 n3 i5 o16 = some r :=
 lift2 (E := (EN Q1)) h (
 Ic (
 I_bytes rfl fun s201 =>
 Ih (
 I_call (enc := Q0) (show Imp (EN Q0) (Rn 5 [(.pv (.str ([120] ++ s201))), (.pv (.lst 1 (List.map eStr [[116]])))] []) (f393 ([120] ++ s201) ([[116]] : List (List UInt8))) from fun _ h => by simpa only [List.map_append] using dec_imp _ _ _ h) fun y202 =>
 I_check (p := (List.length (List.map TypeDecl.enc o16) + List.length (List.map TypeDecl.enc [y202])) * 64 ≤ 140737488355328 ∧ List.length (List.map TypeDecl.enc o16) + List.length (List.map TypeDecl.enc [y202]) ≤ 4611686018427387904) (by simp only [List.length_map]; exact id) (
 (show Imp _ (headT P cods H prim 3 4 [] [(3, (.pv (.int .i64 n3))), (4, (.row 16)), (5, (.pv (.int .i64 (IntKind.wrap .i64 (i5 + 1)))))] [(16, (.row 25 3 ((List.map TypeDecl.enc o16) ++ (List.map TypeDecl.enc [y202]))))]) ( t392_4 n3 (IntKind.wrap .i64 (i5 + 1)) (o16 ++ [y202])) from fun _ h => by simpa only [List.map_append] using dec_imp _ _ _ h)))) (
 Iz))
 (by kernel_rfl) (fun h => head_round h)
theorem k392_8 (n3 i6 : Int) (o16 : List TypeDecl) {r : Bool}
 (h : (
 bif (decide (i6 < n3)) then (
 bytesT [(IntKind.wrap .u8 ((IntKind.wrap .i64 (97 + i6))))] fun s201 =>
 check (List.length ([121] : List UInt8) + List.length s201 ≤ 9223372036854775807) (
 Option.bind (f393a ([121] ++ s201)) fun y202 =>
 t392_12 n3 i6 0 y202.1 y202.2 o16 ([] : List (List UInt8)) ([] : List FeatDecl) ([] : List (List UInt8))))
 else (
 Option.bind (f14 o16) fun y204 =>
 Option.bind (f14 o16) fun y206 =>
 bif (n3 == 9) then (
 bif (y206.2 == 7) then (
 bif ((List.length y206.1 : Int) == 0) then (
 Option.bind (f13 ) fun y208 =>
 some y208)
 else (
 some false))
 else (
 some false))
 else (
 bif (y206.2 == 0) then (
 check (0 ≤ n3) (
 bif ((List.length y206.1 : Int) == (IntKind.wrap .i64 ((IntKind.wrap .i64 (1 * 2 ^ min (Int.toNat n3) (IntKind.bits .i64))) - 1))) then (
 Option.bind (f13 ) fun y210 =>
 some y210)
 else (
 some false)))
 else (
 some false))) : Option Bool) = some r) :
 t392_8 n3 i6 o16 = some r :=
 lift2 (E := (EN Q1)) h (
 Ic (
 I_bytes rfl fun s201 =>
 Ih (
 I_call (enc := Q2) (show Imp (EN Q2) (Rn 5 [(.pv (.str ([121] ++ s201))), (.pv .nils)] []) (f393a ([121] ++ s201)) from fun _ h => by simpa only [List.map_append] using dec_imp _ _ _ h) fun y202 =>
 Iz)) (
 Ik fun y204 =>
 Ik fun y206 =>
 Ic (
 Ic (
 I_cond (c := ((List.length (List.map Coded.enc y206.1) : Int) == 0)) (by simp only [List.length_map]) (
 Ik fun y208 =>
 Is) (
 Is)) (
 Is)) (
 Ic (
 Ih (
 I_cond (c := ((List.length (List.map Coded.enc y206.1) : Int) == (IntKind.wrap .i64 ((IntKind.wrap .i64 (1 * 2 ^ min (Int.toNat n3) (IntKind.bits .i64))) - 1)))) (by simp only [List.length_map]) (
 Ik fun y210 =>
 Is) (
 Is))) (
 Is))))
 (by kernel_rfl) (fun h => head_round h)
theorem k392_12 (n3 i6 k8 : Int) (o7_0 : List UInt8) (o7_2 : List FeatDecl) (o16 : List TypeDecl) (o5113 : List (List UInt8)) (o5114 : List FeatDecl) (o5704 : List (List UInt8)) {r : Bool}
 (h : (
 bif (decide (k8 < n3)) then (
 bif (k8 != i6) then (
 bytesT [(IntKind.wrap .u8 ((IntKind.wrap .i64 (97 + k8))))] fun s201 =>
 check (List.length ([120] : List UInt8) + List.length s201 ≤ 9223372036854775807) (
 check ((List.length o5704 + List.length ([([120] ++ s201)] : List (List UInt8))) * 16 ≤ 140737488355328 ∧ List.length o5704 + List.length ([([120] ++ s201)] : List (List UInt8)) ≤ 4611686018427387904) (
 t392_12 n3 i6 (IntKind.wrap .i64 (k8 + 1)) o7_0 o7_2 o16 o5113 o5114 (o5704 ++ ([([120] ++ s201)] : List (List UInt8))))))
 else (
 t392_12 n3 i6 (IntKind.wrap .i64 (k8 + 1)) o7_0 o7_2 o16 o5113 o5114 o5704))
 else (
 check ((List.length o16 + List.length [(TypeDecl.mk o7_0 o5704 o7_2)]) * 64 ≤ 140737488355328 ∧ List.length o16 + List.length [(TypeDecl.mk o7_0 o5704 o7_2)] ≤ 4611686018427387904) (
 t392_8 n3 (IntKind.wrap .i64 (i6 + 1)) (o16 ++ [(TypeDecl.mk o7_0 o5704 o7_2)]))) : Option Bool) = some r) :
 t392_12 n3 i6 k8 o7_0 o7_2 o16 o5113 o5114 o5704 = some r :=
 lift2 (E := (EN Q1)) h (
 Ic (
 Ic (
 I_bytes rfl fun s201 =>
 Ih (
 I_check (p := (List.length (List.map eStr o5704) + List.length (List.map eStr [([120] ++ s201)])) * 16 ≤ 140737488355328 ∧ List.length (List.map eStr o5704) + List.length (List.map eStr [([120] ++ s201)]) ≤ 4611686018427387904) (by simp only [List.length_map, List.map_append, List.length_append]; exact id) (
 (show Imp _ (headT P cods H prim 3 12 [] [(3, (.pv (.int .i64 n3))), (4, (.row 16)), (6, (.pv (.int .i64 i6))), (7, (.ptr 7 0)), (8, (.pv (.int .i64 (IntKind.wrap .i64 (k8 + 1)))))] [(7, (.box 25 [(.pv (.str o7_0)), (.row 5704), (.pv (.lst 2 (List.map FeatDecl.enc o7_2)))])), (16, (.row 25 3 (List.map TypeDecl.enc o16))), (5113, (.row 9 1 (List.map eStr o5113))), (5114, (.row 37 2 (List.map FeatDecl.enc o5114))), (5704, (.row 9 1 ((List.map eStr o5704) ++ (List.map eStr [([120] ++ s201)]))))]) ( t392_12 n3 i6 (IntKind.wrap .i64 (k8 + 1)) o7_0 o7_2 o16 o5113 o5114 (o5704 ++ ([([120] ++ s201)] : List (List UInt8)))) from fun _ h => by simpa only [List.map_append] using dec_imp _ _ _ h)))) (
 Iz)) (
 I_check (p := (List.length (List.map TypeDecl.enc o16) + List.length (List.map TypeDecl.enc [(TypeDecl.mk o7_0 o5704 o7_2)])) * 64 ≤ 140737488355328 ∧ List.length (List.map TypeDecl.enc o16) + List.length (List.map TypeDecl.enc [(TypeDecl.mk o7_0 o5704 o7_2)]) ≤ 4611686018427387904) (by simp only [List.length_map]; exact id) (
 (show Imp _ (headT P cods H prim 3 8 [] [(3, (.pv (.int .i64 n3))), (4, (.row 16)), (6, (.pv (.int .i64 (IntKind.wrap .i64 (i6 + 1)))))] [(16, (.row 25 3 ((List.map TypeDecl.enc o16) ++ (List.map TypeDecl.enc [(TypeDecl.mk o7_0 o5704 o7_2)]))))]) ( t392_8 n3 (IntKind.wrap .i64 (i6 + 1)) (o16 ++ [(TypeDecl.mk o7_0 o5704 o7_2)])) from fun _ h => by simpa only [List.map_append] using dec_imp _ _ _ h))))
 (by kernel_rfl) (fun h => head_round h)
theorem e393 (name0 : List UInt8) (supers1 : List (List UInt8)) {r : TypeDecl}
 (h : (
 some (TypeDecl.mk name0 supers1 ([] : List FeatDecl)) : Option TypeDecl) = some r) :
 f393 name0 supers1 = some r :=
 lift2 (E := (EN Q0)) h (
 Is)
 (by kernel_rfl) (fun h => run_body (C := cods) rfl h)
theorem e393a (name0 : List UInt8) {r : ((List UInt8) × (List FeatDecl))}
 (h : (
 some (name0, ([] : List FeatDecl)) : Option ((List UInt8) × (List FeatDecl))) = some r) :
 f393a name0 = some r :=
 lift2 (E := (EN Q2)) h (
 Is)
 (by kernel_rfl) (fun h => run_body (C := cods) rfl h)
theorem e14 (d0 : List TypeDecl) {r : ((List Coded) × Int)}
 (h : (
 Option.bind (f39 d0) fun y201 =>
 bif (y201 != 0) then (
 some (([] : List Coded), y201))
 else (
 Option.bind (f40 d0) fun y203 =>
 Option.bind (f41 y203.2) fun y205 =>
 bif (!y205.2) then (
 some (([] : List Coded), 7))
 else (
 t14_10 d0 y203.1 y203.2 y205.1 (List.length y205.1 : Int) 0 ([] : List Coded))) : Option ((List Coded) × Int)) = some r) :
 f14 d0 = some r :=
 lift2 (E := (EN Q3)) h (
 Ik fun y201 =>
 Ic (
 Is) (
 Ik fun y203 =>
 Ik fun y205 =>
 Ic (
 Is) (
 (show Imp _ (headT P cods H prim 6 10 [] [(0, (.pv (.lst 3 (List.map TypeDecl.enc d0)))), (5, (.pv (.lst 1 (List.map eStr y203.1)))), (6, (.pv (.lst 1 (List.map (eLst 1 (eInt .u64)) y203.2)))), (9, (.row 9)), (34, (.pv (.lst 1 (List.map (eLst 1 (eInt .u64)) y205.1)))), (35, (.pv (.int .i64 (List.length (List.map (eLst 1 (eInt .u64)) y205.1) : Int)))), (36, (.pv (.int .i64 0)))] [(9, (.row 51 2 (List.map Coded.enc [])))]) ( t14_10 d0 y203.1 y203.2 y205.1 (List.length y205.1 : Int) 0 ([] : List Coded)) from fun _ h => by simpa only [List.length_map] using dec_imp _ _ _ h))))
 (by kernel_rfl) (fun h => run_body (C := cods) rfl h)
theorem k14_10 (d0 : List TypeDecl) (names5 : List (List UInt8)) (codes6 v34 : List (List Int)) (v35 v36 : Int) (o9 : List Coded) {r : ((List Coded) × Int)}
 (h : (
 bif (decide (v36 < v35)) then (
 getK v34 v36 fun x201 =>
 Option.bind (f42 codes6 x201) fun y203 =>
 bif (decide (y203 ≥ 0)) then (
 getK names5 y203 fun x205 =>
 check ((List.length o9 + List.length [(Coded.mk x205 x201)]) * 40 ≤ 140737488355328 ∧ List.length o9 + List.length [(Coded.mk x205 x201)] ≤ 4611686018427387904) (
 t14_10 d0 names5 codes6 v34 v35 (IntKind.wrap .i64 (v36 + 1)) (o9 ++ [(Coded.mk x205 x201)])))
 else (
 Option.bind (f44 x201) fun y207 =>
 t14_18 d0 names5 codes6 v34 v35 v36 y207 (List.length y207 : Int) 0 o9 (Coded.mk [] x201) ([] : List (List UInt8))))
 else (
 bind2 (f47 o9) fun y209 l211 =>
 some (l211, 0)) : Option ((List Coded) × Int)) = some r) :
 t14_10 d0 names5 codes6 v34 v35 v36 o9 = some r :=
 lift2 (E := (EN Q3)) h (
 Ic (
 Ig (eLst 1 (eInt .u64)) fun x201 =>
 Ik fun y203 =>
 Ic (
 Ig eStr fun x205 =>
 I_check (p := (List.length (List.map Coded.enc o9) + List.length (List.map Coded.enc [(Coded.mk x205 x201)])) * 40 ≤ 140737488355328 ∧ List.length (List.map Coded.enc o9) + List.length (List.map Coded.enc [(Coded.mk x205 x201)]) ≤ 4611686018427387904) (by simp only [List.length_map]; exact id) (
 (show Imp _ (headT P cods H prim 6 10 [] [(0, (.pv (.lst 3 (List.map TypeDecl.enc d0)))), (5, (.pv (.lst 1 (List.map eStr names5)))), (6, (.pv (.lst 1 (List.map (eLst 1 (eInt .u64)) codes6)))), (9, (.row 9)), (34, (.pv (.lst 1 (List.map (eLst 1 (eInt .u64)) v34)))), (35, (.pv (.int .i64 v35))), (36, (.pv (.int .i64 (IntKind.wrap .i64 (v36 + 1)))))] [(9, (.row 51 2 ((List.map Coded.enc o9) ++ (List.map Coded.enc [(Coded.mk x205 x201)]))))]) ( t14_10 d0 names5 codes6 v34 v35 (IntKind.wrap .i64 (v36 + 1)) (o9 ++ [(Coded.mk x205 x201)])) from fun _ h => by simpa only [List.map_append] using dec_imp _ _ _ h))) (
 Ik fun y207 =>
 (show Imp _ (headT P cods H prim 6 18 [] [(0, (.pv (.lst 3 (List.map TypeDecl.enc d0)))), (5, (.pv (.lst 1 (List.map eStr names5)))), (6, (.pv (.lst 1 (List.map (eLst 1 (eInt .u64)) codes6)))), (9, (.row 9)), (12, (.ptr 12 0)), (14, (.row 14)), (34, (.pv (.lst 1 (List.map (eLst 1 (eInt .u64)) v34)))), (35, (.pv (.int .i64 v35))), (36, (.pv (.int .i64 v36))), (53, (.pv (.lst 1 (List.map (eInt .i64) y207)))), (54, (.pv (.int .i64 (List.length (List.map (eInt .i64) y207) : Int)))), (55, (.pv (.int .i64 0)))] [(9, (.row 51 2 (List.map Coded.enc o9))), (12, (.box 51 (List.map .pv (Coded.enc (Coded.mk [] x201))))), (14, (.row 9 1 (List.map eStr [])))]) ( t14_18 d0 names5 codes6 v34 v35 v36 y207 (List.length y207 : Int) 0 o9 (Coded.mk [] x201) ([] : List (List UInt8))) from fun _ h => by simpa only [List.length_map] using dec_imp _ _ _ h))) (
 I_callR (enc := Q8) (ee := Coded.enc) (nm := 10000) (e := 51) (sz := 2) Iz fun y209 l211 =>
 Is))
 (by kernel_rfl) (fun h => head_round h)
theorem k14_18 (d0 : List TypeDecl) (names5 : List (List UInt8)) (codes6 v34 : List (List Int)) (v35 v36 : Int) (v53 : List Int) (v54 v55 : Int) (o9 : List Coded) (o12 : Coded) (o14 : List (List UInt8)) {r : ((List Coded) × Int)}
 (h : (
 bif (decide (v55 < v54)) then (
 getK v53 v55 fun x201 =>
 getK names5 x201 fun x203 =>
 check ((List.length o14 + List.length ([x203] : List (List UInt8))) * 16 ≤ 140737488355328 ∧ List.length o14 + List.length ([x203] : List (List UInt8)) ≤ 4611686018427387904) (
 t14_18 d0 names5 codes6 v34 v35 v36 v53 v54 (IntKind.wrap .i64 (v55 + 1)) o9 o12 (o14 ++ ([x203] : List (List UInt8)))))
 else (
 Option.bind (f46 d0 o14) fun y205 =>
 Option.bind (f46 d0 o14) fun y207 =>
 Option.bind (f45 y207 [38]) fun y209 =>
 check ((List.length o9 + List.length [(Coded.mk y209 o12.Code)]) * 40 ≤ 140737488355328 ∧ List.length o9 + List.length [(Coded.mk y209 o12.Code)] ≤ 4611686018427387904) (
 t14_10 d0 names5 codes6 v34 v35 (IntKind.wrap .i64 (v36 + 1)) (o9 ++ [(Coded.mk y209 o12.Code)]))) : Option ((List Coded) × Int)) = some r) :
 t14_18 d0 names5 codes6 v34 v35 v36 v53 v54 v55 o9 o12 o14 = some r :=
 lift2 (E := (EN Q3)) h (
 Ic (
 Ig (eInt .i64) fun x201 =>
 Ig eStr fun x203 =>
 I_check (p := (List.length (List.map eStr o14) + List.length (List.map eStr [x203])) * 16 ≤ 140737488355328 ∧ List.length (List.map eStr o14) + List.length (List.map eStr [x203]) ≤ 4611686018427387904) (by simp only [List.length_map]; exact id) (
 (show Imp _ (headT P cods H prim 6 18 [] [(0, (.pv (.lst 3 (List.map TypeDecl.enc d0)))), (5, (.pv (.lst 1 (List.map eStr names5)))), (6, (.pv (.lst 1 (List.map (eLst 1 (eInt .u64)) codes6)))), (9, (.row 9)), (12, (.ptr 12 0)), (14, (.row 14)), (34, (.pv (.lst 1 (List.map (eLst 1 (eInt .u64)) v34)))), (35, (.pv (.int .i64 v35))), (36, (.pv (.int .i64 v36))), (53, (.pv (.lst 1 (List.map (eInt .i64) v53)))), (54, (.pv (.int .i64 v54))), (55, (.pv (.int .i64 (IntKind.wrap .i64 (v55 + 1)))))] [(9, (.row 51 2 (List.map Coded.enc o9))), (12, (.box 51 (List.map .pv (Coded.enc o12)))), (14, (.row 9 1 ((List.map eStr o14) ++ (List.map eStr [x203]))))]) ( t14_18 d0 names5 codes6 v34 v35 v36 v53 v54 (IntKind.wrap .i64 (v55 + 1)) o9 o12 (o14 ++ ([x203] : List (List UInt8)))) from fun _ h => by simpa only [List.map_append] using dec_imp _ _ _ h))) (
 Ik fun y205 =>
 Ik fun y207 =>
 Ik fun y209 =>
 I_check (p := (List.length (List.map Coded.enc o9) + List.length (List.map Coded.enc [(Coded.mk y209 o12.Code)])) * 40 ≤ 140737488355328 ∧ List.length (List.map Coded.enc o9) + List.length (List.map Coded.enc [(Coded.mk y209 o12.Code)]) ≤ 4611686018427387904) (by simp only [List.length_map]; exact id) (
 (show Imp _ (headT P cods H prim 6 10 [] [(0, (.pv (.lst 3 (List.map TypeDecl.enc d0)))), (5, (.pv (.lst 1 (List.map eStr names5)))), (6, (.pv (.lst 1 (List.map (eLst 1 (eInt .u64)) codes6)))), (9, (.row 9)), (34, (.pv (.lst 1 (List.map (eLst 1 (eInt .u64)) v34)))), (35, (.pv (.int .i64 v35))), (36, (.pv (.int .i64 (IntKind.wrap .i64 (v36 + 1)))))] [(9, (.row 51 2 ((List.map Coded.enc o9) ++ (List.map Coded.enc [(Coded.mk y209 o12.Code)]))))]) ( t14_10 d0 names5 codes6 v34 v35 (IntKind.wrap .i64 (v36 + 1)) (o9 ++ [(Coded.mk y209 o12.Code)])) from fun _ h => by simpa only [List.map_append] using dec_imp _ _ _ h))))
 (by kernel_rfl) (fun h => head_round h)
theorem e13  {r : Bool}
 (h : (
 Option.bind (f393 [116] ([] : List (List UInt8))) fun y201 =>
 Option.bind (f393 [97] ([[116]] : List (List UInt8))) fun y203 =>
 Option.bind (f393 [98] ([[116]] : List (List UInt8))) fun y205 =>
 Option.bind (f393 [99] ([[97], [98]] : List (List UInt8))) fun y207 =>
 Option.bind (f393 [100] ([[97], [98]] : List (List UInt8))) fun y209 =>
 Option.bind (f14 [y201, y203, y205, y207, y209]) fun y211 =>
 bif (y211.2 != 0) then (
 some false)
 else (
 Option.bind (f16 y211.1 [(Coded.mk [116] [31]), (Coded.mk [97] [13]), (Coded.mk [98] [14]), (Coded.mk [99, 38, 100] [12]), (Coded.mk [99] [4]), (Coded.mk [100] [8])]) fun y213 =>
 bif (!y213) then (
 some false)
 else (
 Option.bind (f20 y211.1 1 2) fun y215 =>
 bif (y215 == 3) then (
 Option.bind (f20 y211.1 4 5) fun y217 =>
 bif (y217 == (-1)) then (
 Option.bind (f22 y211.1 4 5) fun y219 =>
 bif (y219 == 3) then (
 Option.bind (f24 y211.1 1 4) fun y221 =>
 bif y221 then (
 Option.bind (f24 y211.1 4 1) fun y223 =>
 bif (!y223) then (
 Option.bind (f27 y211.1 3) fun y225 =>
 Option.bind (f26 y225 [1, 2]) fun y227 =>
 bif y227 then (
 Option.bind (f27 y211.1 4) fun y229 =>
 Option.bind (f26 y229 [3]) fun y231 =>
 bif y231 then (
 Option.bind (f18 y211.1 [12, 0]) fun y233 =>
 bif (y233 == 3) then (
 Option.bind (f18 y211.1 [1]) fun y235 =>
 some (y235 == (-1)))
 else (
 some false))
 else (
 some false))
 else (
 some false))
 else (
 some false))
 else (
 some false))
 else (
 some false))
 else (
 some false))
 else (
 some false))) : Option Bool) = some r) :
 f13  = some r :=
 lift2 (E := (EN Q1)) h (
 Ik fun y201 =>
 Ik fun y203 =>
 Ik fun y205 =>
 Ik fun y207 =>
 Ik fun y209 =>
 Ik fun y211 =>
 Ic (
 Is) (
 Ik fun y213 =>
 Ic (
 Is) (
 Ik fun y215 =>
 Ic (
 Ik fun y217 =>
 Ic (
 Ik fun y219 =>
 Ic (
 Ik fun y221 =>
 Ic (
 Ik fun y223 =>
 Ic (
 Ik fun y225 =>
 Ik fun y227 =>
 Ic (
 Ik fun y229 =>
 Ik fun y231 =>
 Ic (
 Ik fun y233 =>
 Ic (
 Ik fun y235 =>
 Is) (
 Is)) (
 Is)) (
 Is)) (
 Is)) (
 Is)) (
 Is)) (
 Is)) (
 Is))))
 (by kernel_rfl) (fun h => run_body (C := cods) rfl h)
theorem e39 (d0 : List TypeDecl) {r : Int}
 (h : (
 Option.bind (f76 d0) fun y201 =>
 bif y201 then (
 some 7)
 else (
 Option.bind (f77 d0) fun y203 =>
 bif (y203 != 0) then (
 some y203)
 else (
 Option.bind (f78 d0) fun y205 =>
 bif (y205 != 0) then (
 some y205)
 else (
 t39_11 d0 0 d0 (List.length d0 : Int) 0))) : Option Int) = some r) :
 f39 d0 = some r :=
 lift2 (E := (EN Q4)) h (
 Ik fun y201 =>
 Ic (
 Is) (
 Ik fun y203 =>
 Ic (
 Is) (
 Ik fun y205 =>
 Ic (
 Is) (
 (show Imp _ (headT P cods H prim 12 11 [] [(0, (.pv (.lst 3 (List.map TypeDecl.enc d0)))), (5, (.pv (.int .i64 0))), (20, (.pv (.lst 3 (List.map TypeDecl.enc d0)))), (21, (.pv (.int .i64 (List.length (List.map TypeDecl.enc d0) : Int)))), (22, (.pv (.int .i64 0)))] []) ( t39_11 d0 0 d0 (List.length d0 : Int) 0) from fun _ h => by simpa only [List.length_map] using dec_imp _ _ _ h)))))
 (by kernel_rfl) (fun h => run_body (C := cods) rfl h)
theorem k39_11 (d0 : List TypeDecl) (tops5 : Int) (v20 : List TypeDecl) (v21 v22 : Int) {r : Int}
 (h : (
 bif (decide (v22 < v21)) then (
 getK v20 v22 fun x201 =>
 bif ((List.length x201.Supers : Int) == 0) then (
 t39_11 d0 (IntKind.wrap .i64 (tops5 + 1)) v20 v21 (IntKind.wrap .i64 (v22 + 1)))
 else (
 t39_11 d0 tops5 v20 v21 (IntKind.wrap .i64 (v22 + 1))))
 else (
 bif (tops5 != 1) then (
 some 1)
 else (
 Option.bind (f79 d0) fun y203 =>
 bif (decide ((List.length y203 : Int) < (List.length d0 : Int))) then (
 some 6)
 else (
 some 0))) : Option Int) = some r) :
 t39_11 d0 tops5 v20 v21 v22 = some r :=
 lift2 (E := (EN Q4)) h (
 Ic (
 Ig TypeDecl.enc fun x201 =>
 I_cond (c := ((List.length (List.map eStr x201.Supers) : Int) == 0)) (by simp only [List.length_map]) (
 Iz) (
 Iz)) (
 Ic (
 Is) (
 Ik fun y203 =>
 I_cond (c := (decide ((List.length (List.map eStr y203) : Int) < (List.length (List.map TypeDecl.enc d0) : Int)))) (by simp only [List.length_map]) (
 Is) (
 Is))))
 (by kernel_rfl) (fun h => head_round h)
theorem e40 (d0 : List TypeDecl) {r : ((List (List UInt8)) × (List (List Int)))}
 (h : (
 t40_3 d0 d0 (List.length d0 : Int) 0 ([] : List (List UInt8)) : Option ((List (List UInt8)) × (List (List Int)))) = some r) :
 f40 d0 = some r :=
 lift2 (E := (EN Q5)) h (
 (show Imp _ (headT P cods H prim 13 3 [] [(0, (.pv (.lst 3 (List.map TypeDecl.enc d0)))), (4, (.row 4)), (15, (.pv (.lst 3 (List.map TypeDecl.enc d0)))), (16, (.pv (.int .i64 (List.length (List.map TypeDecl.enc d0) : Int)))), (17, (.pv (.int .i64 0)))] [(4, (.row 9 1 (List.map eStr [])))]) ( t40_3 d0 d0 (List.length d0 : Int) 0 ([] : List (List UInt8))) from fun _ h => by simpa only [List.length_map] using dec_imp _ _ _ h))
 (by kernel_rfl) (fun h => run_body (C := cods) rfl h)
theorem k40_3 (d0 v15 : List TypeDecl) (v16 v17 : Int) (o4 : List (List UInt8)) {r : ((List (List UInt8)) × (List (List Int)))}
 (h : (
 bif (decide (v17 < v16)) then (
 getK v15 v17 fun x201 =>
 check ((List.length o4 + List.length ([x201.Name] : List (List UInt8))) * 16 ≤ 140737488355328 ∧ List.length o4 + List.length ([x201.Name] : List (List UInt8)) ≤ 4611686018427387904) (
 t40_3 d0 v15 v16 (IntKind.wrap .i64 (v17 + 1)) (o4 ++ ([x201.Name] : List (List UInt8)))))
 else (
 bind2 (f80 o4) fun y203 l205 =>
 check (0 ≤ ((List.length l205 : Int) : Int) ∧ ((List.length l205 : Int) : Int) ≤ (List.length l205 : Int) ∧ 24 * Int.toNat (List.length l205 : Int) ≤ 281474976710656 ∧ ((List.length l205 : Int) : Int) ≤ 9223372036854775807) (
 t40_10 d0 (List.length l205 : Int) 0 l205 (List.replicate (Int.toNat (List.length l205 : Int)) ([] : List Int)))) : Option ((List (List UInt8)) × (List (List Int)))) = some r) :
 t40_3 d0 v15 v16 v17 o4 = some r :=
 lift2 (E := (EN Q5)) h (
 Ic (
 Ig TypeDecl.enc fun x201 =>
 I_check (p := (List.length (List.map eStr o4) + List.length (List.map eStr [x201.Name])) * 16 ≤ 140737488355328 ∧ List.length (List.map eStr o4) + List.length (List.map eStr [x201.Name]) ≤ 4611686018427387904) (by simp only [List.length_map]; exact id) (
 (show Imp _ (headT P cods H prim 13 3 [] [(0, (.pv (.lst 3 (List.map TypeDecl.enc d0)))), (4, (.row 4)), (15, (.pv (.lst 3 (List.map TypeDecl.enc v15)))), (16, (.pv (.int .i64 v16))), (17, (.pv (.int .i64 (IntKind.wrap .i64 (v17 + 1)))))] [(4, (.row 9 1 ((List.map eStr o4) ++ (List.map eStr [x201.Name]))))]) ( t40_3 d0 v15 v16 (IntKind.wrap .i64 (v17 + 1)) (o4 ++ ([x201.Name] : List (List UInt8)))) from fun _ h => by simpa only [List.map_append] using dec_imp _ _ _ h))) (
 I_callR (enc := Q8) (ee := eStr) (nm := 10000) (e := 9) (sz := 1) Iz fun y203 l205 =>
 I_check (p := 0 ≤ ((List.length (List.map eStr l205) : Int) : Int) ∧ ((List.length (List.map eStr l205) : Int) : Int) ≤ (List.length (List.map eStr l205) : Int) ∧ 24 * Int.toNat (List.length (List.map eStr l205) : Int) ≤ 281474976710656 ∧ ((List.length (List.map eStr l205) : Int) : Int) ≤ 9223372036854775807) (by simp only [List.length_map]; exact id) (
 (show Imp _ (headT P cods H prim 13 10 [] [(0, (.pv (.lst 3 (List.map TypeDecl.enc d0)))), (4, (.row 4)), (7, (.row 31)), (32, (.row 4)), (33, (.pv (.int .i64 (List.length (List.map eStr l205) : Int)))), (34, (.pv (.int .i64 0)))] [(4, (.row 9 1 (List.map eStr l205))), (31, (.row 49 1 (List.replicate (Int.toNat (List.length (List.map eStr l205) : Int)) ((eLst 1 (eInt .u64)) ([] : List Int)))))]) ( t40_10 d0 (List.length l205 : Int) 0 l205 (List.replicate (Int.toNat (List.length l205 : Int)) ([] : List Int))) from fun _ h => by simpa only [List.length_map, List.map_replicate, List.length_replicate] using dec_imp _ _ _ h))))
 (by kernel_rfl) (fun h => head_round h)
theorem k40_10 (d0 : List TypeDecl) (v33 v34 : Int) (o4 : List (List UInt8)) (o31 : List (List Int)) {r : ((List (List UInt8)) × (List (List Int)))}
 (h : (
 bif (decide (v34 < v33)) then (
 check (0 ≤ v34 ∧ Int.toNat v34 < List.length o4) (
 getN o4 (Int.toNat v34) fun x201 =>
 Option.bind (f81 d0 x201) fun y203 =>
 t40_14 d0 v34 v33 v34 y203 (List.length y203 : Int) 0 o4 ([] : List Int) o31))
 else (
 some (o4, o31)) : Option ((List (List UInt8)) × (List (List Int)))) = some r) :
 t40_10 d0 v33 v34 o4 o31 = some r :=
 lift2 (E := (EN Q5)) h (
 Ic (
 I_check (p := 0 ≤ v34 ∧ Int.toNat v34 < List.length (List.map eStr o4)) (by simp only [List.length_map]; exact id) (
 In eStr fun x201 =>
 Ik fun y203 =>
 (show Imp _ (headT P cods H prim 13 14 [] [(0, (.pv (.lst 3 (List.map TypeDecl.enc d0)))), (4, (.row 4)), (7, (.row 31)), (8, (.pv (.int .i64 v34))), (10, (.row 10)), (32, (.row 4)), (33, (.pv (.int .i64 v33))), (34, (.pv (.int .i64 v34))), (41, (.pv (.lst 1 (List.map eStr y203)))), (42, (.pv (.int .i64 (List.length (List.map eStr y203) : Int)))), (43, (.pv (.int .i64 0)))] [(4, (.row 9 1 (List.map eStr o4))), (10, (.row 3 1 (List.map (eInt .i64) []))), (31, (.row 49 1 (List.map (eLst 1 (eInt .u64)) o31)))]) ( t40_14 d0 v34 v33 v34 y203 (List.length y203 : Int) 0 o4 ([] : List Int) o31) from fun _ h => by simpa only [List.length_map] using dec_imp _ _ _ h))) (
 Is))
 (by kernel_rfl) (fun h => head_round h)
theorem k40_14 (d0 : List TypeDecl) (i8 v33 v34 : Int) (v41 : List (List UInt8)) (v42 v43 : Int) (o4 : List (List UInt8)) (o10 : List Int) (o31 : List (List Int)) {r : ((List (List UInt8)) × (List (List Int)))}
 (h : (
 bif (decide (v43 < v42)) then (
 getK v41 v43 fun x201 =>
 Option.bind (f82 o4 x201) fun y203 =>
 check ((List.length o10 + List.length [y203.1]) * 8 ≤ 140737488355328 ∧ List.length o10 + List.length [y203.1] ≤ 4611686018427387904) (
 t40_14 d0 i8 v33 v34 v41 v42 (IntKind.wrap .i64 (v43 + 1)) o4 (o10 ++ [y203.1]) o31))
 else (
 Option.bind (f83 o10) fun y205 =>
 Option.bind (f83 o10) fun y207 =>
 check (0 ≤ i8 ∧ Int.toNat i8 < List.length o31) (
 getN o31 (Int.toNat i8) fun x209 =>
 t40_10 d0 v33 (IntKind.wrap .i64 (v34 + 1)) o4 (o31.set (Int.toNat i8) y207.1))) : Option ((List (List UInt8)) × (List (List Int)))) = some r) :
 t40_14 d0 i8 v33 v34 v41 v42 v43 o4 o10 o31 = some r :=
 lift2 (E := (EN Q5)) h (
 Ic (
 Ig eStr fun x201 =>
 Ik fun y203 =>
 I_check (p := (List.length (List.map (eInt .i64) o10) + List.length (List.map (eInt .i64) [y203.1])) * 8 ≤ 140737488355328 ∧ List.length (List.map (eInt .i64) o10) + List.length (List.map (eInt .i64) [y203.1]) ≤ 4611686018427387904) (by simp only [List.length_map]; exact id) (
 (show Imp _ (headT P cods H prim 13 14 [] [(0, (.pv (.lst 3 (List.map TypeDecl.enc d0)))), (4, (.row 4)), (7, (.row 31)), (8, (.pv (.int .i64 i8))), (10, (.row 10)), (32, (.row 4)), (33, (.pv (.int .i64 v33))), (34, (.pv (.int .i64 v34))), (41, (.pv (.lst 1 (List.map eStr v41)))), (42, (.pv (.int .i64 v42))), (43, (.pv (.int .i64 (IntKind.wrap .i64 (v43 + 1)))))] [(4, (.row 9 1 (List.map eStr o4))), (10, (.row 3 1 ((List.map (eInt .i64) o10) ++ (List.map (eInt .i64) [y203.1])))), (31, (.row 49 1 (List.map (eLst 1 (eInt .u64)) o31)))]) ( t40_14 d0 i8 v33 v34 v41 v42 (IntKind.wrap .i64 (v43 + 1)) o4 (o10 ++ [y203.1]) o31) from fun _ h => by simpa only [List.map_append] using dec_imp _ _ _ h))) (
 Ik fun y205 =>
 Ik fun y207 =>
 I_check (p := 0 ≤ i8 ∧ Int.toNat i8 < List.length (List.map (eLst 1 (eInt .u64)) o31)) (by simp only [List.length_map]; exact id) (
 In (eLst 1 (eInt .u64)) fun x209 =>
 (show Imp _ (headT P cods H prim 13 10 [] [(0, (.pv (.lst 3 (List.map TypeDecl.enc d0)))), (4, (.row 4)), (7, (.row 31)), (32, (.row 4)), (33, (.pv (.int .i64 v33))), (34, (.pv (.int .i64 (IntKind.wrap .i64 (v34 + 1)))))] [(4, (.row 9 1 (List.map eStr o4))), (31, (.row 49 1 ((List.map (eLst 1 (eInt .u64)) o31).set (Int.toNat i8) ((eLst 1 (eInt .u64)) y207.1))))]) ( t40_10 d0 v33 (IntKind.wrap .i64 (v34 + 1)) o4 (o31.set (Int.toNat i8) y207.1)) from fun _ h => by simpa only [List.map_set] using dec_imp _ _ _ h))))
 (by kernel_rfl) (fun h => head_round h)
theorem e41 (codes0 : List (List Int)) {r : ((List (List Int)) × Bool)}
 (h : (
 t41_5 codes0 (List.length codes0 : Int) 0 ([] : List ((List UInt8) × Bool)) ([] : List (List Int)) : Option ((List (List Int)) × Bool)) = some r) :
 f41 codes0 = some r :=
 lift2 (E := (EN Q6)) h (
 (show Imp _ (headT P cods H prim 14 5 [] [(5, (.ptr 5 0)), (6, (.cl 47 [.p 4, .p 5])), (13, (.pv (.lst 1 (List.map (eLst 1 (eInt .u64)) codes0)))), (14, (.pv (.int .i64 (List.length (List.map (eLst 1 (eInt .u64)) codes0) : Int)))), (15, (.pv (.int .i64 0)))] [(4, (.box 97 [(.row 11)])), (5, (.box 43 [(.row 5080)])), (11, (.mp 9 4 (encMap V9 V4 ([] : List ((List UInt8) × Bool))).1 (encMap V9 V4 ([] : List ((List UInt8) × Bool))).2)), (5080, (.row 49 1 (List.map (eLst 1 (eInt .u64)) [])))]) ( t41_5 codes0 (List.length codes0 : Int) 0 ([] : List ((List UInt8) × Bool)) ([] : List (List Int))) from fun _ h => by simpa only [List.length_map, encMap, List.length_map] using dec_imp _ _ _ h))
 (by kernel_rfl) (fun h => run_body (C := cods) rfl h)
theorem k41_5 (v13 : List (List Int)) (v14 v15 : Int) (o11 : List ((List UInt8) × Bool)) (o5080 : List (List Int)) {r : ((List (List Int)) × Bool)}
 (h : (
 bif (decide (v15 < v14)) then (
 getK v13 v15 fun x201 =>
 bind3 (f84 x201 o11 o5080) fun y203 w206 w207 =>
 t41_5 v13 v14 (IntKind.wrap .i64 (v15 + 1)) w206 w207)
 else (
 t41_10 0 o11 o5080) : Option ((List (List Int)) × Bool)) = some r) :
 t41_5 v13 v14 v15 o11 o5080 = some r :=
 lift2 (E := (EN Q6)) h (
 Ic (
 Ig (eLst 1 (eInt .u64)) fun x201 =>
 I_callM3 (kk := fun r204 l205 => unconsK 10000 l205 fun ol205_0 l205_0 => sameK ol205_0 (.box 97 [(.row 10002)]) <| unconsK 10001 l205_0 fun ol205_1 l205_1 => sameK ol205_1 (.box 43 [(.row 20003)]) <| unconsK 10002 l205_1 fun ol205_2 l205_2 => asMap 9 4 ol205_2 fun ol205_2_c => asE (encMap V9 V4) ol205_2_c fun w206 => unconsK 20003 l205_2 fun ol205_3 l205_3 => asRow 49 1 ol205_3 fun ol205_3_c => asE (List.map (eLst 1 (eInt .u64))) ol205_3_c fun w207 => nilK l205_3 <| asE Q8 r204 fun y203 =>
 headT P cods H prim 14 5 [] [(5, (.ptr 5 0)), (6, (.cl 47 [.p 4, .p 5])), (13, (.pv (.lst 1 (List.map (eLst 1 (eInt .u64)) v13)))), (14, (.pv (.int .i64 v14))), (15, (.pv (.int .i64 (IntKind.wrap .i64 (v15 + 1)))))] [(4, (.box 97 [(.row 11)])), (5, (.box 43 [(.row 5080)])), (11, (.mp 9 4 (encMap V9 V4 w206).1 (encMap V9 V4 w206).2)), (5080, (.row 49 1 (List.map (eLst 1 (eInt .u64)) w207)))]) Iz fun y203 w206 w207 => I_uncons (I_same (I_uncons (I_same (I_uncons (I_asMap (K := V9) (V := V4) (l := w206) (I_uncons (I_asRow (enc := (eLst 1 (eInt .u64))) (xs := w207) (I_nil (I_res (enc := Q8) (y := y203) (
 Iz))))))))))) (
 Iz))
 (by kernel_rfl) (fun h => head_round h)
theorem k41_10 (i9 : Int) (o11 : List ((List UInt8) × Bool)) (o5080 : List (List Int)) {r : ((List (List Int)) × Bool)}
 (h : (
 bif (decide (i9 < (List.length o5080 : Int))) then (
 t41_13 i9 0 o11 o5080)
 else (
 some (o5080, (decide ((List.length o5080 : Int) ≤ 256)))) : Option ((List (List Int)) × Bool)) = some r) :
 t41_10 i9 o11 o5080 = some r :=
 lift2 (E := (EN Q6)) h (
 I_cond (c := (decide (i9 < (List.length (List.map (eLst 1 (eInt .u64)) o5080) : Int)))) (by simp only [List.length_map]) (
 Iz) (
 I_some (c := ((.tup [(.lst 1 (List.map (eLst 1 (eInt .u64)) o5080)), (.bool (decide ((List.length (List.map (eLst 1 (eInt .u64)) o5080) : Int) ≤ 256)))]), [])) (by simp only [EN, Q6, List.length_map])))
 (by kernel_rfl) (fun h => head_round h)
theorem k41_13 (i9 k10 : Int) (o11 : List ((List UInt8) × Bool)) (o5080 : List (List Int)) {r : ((List (List Int)) × Bool)}
 (h : (
 bif (decide (k10 < i9)) then (
 check (0 ≤ i9 ∧ Int.toNat i9 < List.length o5080) (
 getN o5080 (Int.toNat i9) fun x201 =>
 check (0 ≤ k10 ∧ Int.toNat k10 < List.length o5080) (
 getN o5080 (Int.toNat k10) fun x203 =>
 Option.bind (f29 x201 x203) fun y205 =>
 bind3 (f84 y205 o11 o5080) fun y207 w210 w211 =>
 bif (decide ((List.length w211 : Int) > 256)) then (
 some (([] : List (List Int)), false))
 else (
 t41_13 i9 (IntKind.wrap .i64 (k10 + 1)) w210 w211))))
 else (
 t41_10 (IntKind.wrap .i64 (i9 + 1)) o11 o5080) : Option ((List (List Int)) × Bool)) = some r) :
 t41_13 i9 k10 o11 o5080 = some r :=
 lift2 (E := (EN Q6)) h (
 Ic (
 I_check (p := 0 ≤ i9 ∧ Int.toNat i9 < List.length (List.map (eLst 1 (eInt .u64)) o5080)) (by simp only [List.length_map]; exact id) (
 In (eLst 1 (eInt .u64)) fun x201 =>
 I_check (p := 0 ≤ k10 ∧ Int.toNat k10 < List.length (List.map (eLst 1 (eInt .u64)) o5080)) (by simp only [List.length_map]; exact id) (
 In (eLst 1 (eInt .u64)) fun x203 =>
 Ik fun y205 =>
 I_callM3 (kk := fun r208 l209 => unconsK 10000 l209 fun ol209_0 l209_0 => sameK ol209_0 (.box 97 [(.row 10002)]) <| unconsK 10001 l209_0 fun ol209_1 l209_1 => sameK ol209_1 (.box 43 [(.row 20003)]) <| unconsK 10002 l209_1 fun ol209_2 l209_2 => asMap 9 4 ol209_2 fun ol209_2_c => asE (encMap V9 V4) ol209_2_c fun w210 => unconsK 20003 l209_2 fun ol209_3 l209_3 => asRow 49 1 ol209_3 fun ol209_3_c => asE (List.map (eLst 1 (eInt .u64))) ol209_3_c fun w211 => nilK l209_3 <| asE Q8 r208 fun y207 =>
 bif (decide ((List.length (List.map (eLst 1 (eInt .u64)) w211) : Int) > 256)) then (
 some ((.tup [(.lst 1 (List.map (eLst 1 (eInt .u64)) [])), (.bool false)]), []))
 else (
 headT P cods H prim 14 13 [] [(5, (.ptr 5 0)), (6, (.cl 47 [.p 4, .p 5])), (9, (.pv (.int .i64 i9))), (10, (.pv (.int .i64 (IntKind.wrap .i64 (k10 + 1)))))] [(4, (.box 97 [(.row 11)])), (5, (.box 43 [(.row 5080)])), (11, (.mp 9 4 (encMap V9 V4 w210).1 (encMap V9 V4 w210).2)), (5080, (.row 49 1 (List.map (eLst 1 (eInt .u64)) w211)))])) Iz fun y207 w210 w211 => I_uncons (I_same (I_uncons (I_same (I_uncons (I_asMap (K := V9) (V := V4) (l := w210) (I_uncons (I_asRow (enc := (eLst 1 (eInt .u64))) (xs := w211) (I_nil (I_res (enc := Q8) (y := y207) (
 I_cond (c := (decide ((List.length (List.map (eLst 1 (eInt .u64)) w211) : Int) > 256))) (by simp only [List.length_map]) (
 I_some rfl) (
 Iz)))))))))))))) (
 Iz))
 (by kernel_rfl) (fun h => head_round h)
theorem e42 (l0 : List (List Int)) (is1_0 : List Int) {r : Int}
 (h : (
 t42_2 is1_0 l0 (List.length l0 : Int) 0 : Option Int) = some r) :
 f42 l0 is1_0 = some r :=
 lift2 (E := (EN Q4)) h (
 (show Imp _ (headT P cods H prim 15 2 [] [(1, (.pv (.fn 16 [(.ref [(.lst 1 (List.map (eInt .u64) is1_0))])]))), (7, (.pv (.lst 1 (List.map (eLst 1 (eInt .u64)) l0)))), (8, (.pv (.int .i64 (List.length (List.map (eLst 1 (eInt .u64)) l0) : Int)))), (9, (.pv (.int .i64 0)))] []) ( t42_2 is1_0 l0 (List.length l0 : Int) 0) from fun _ h => by simpa only [List.length_map] using dec_imp _ _ _ h))
 (by kernel_rfl) (fun h => run_body (C := cods) rfl h)
theorem k42_2 (is1_0 : List Int) (v7 : List (List Int)) (v8 v9 : Int) {r : Int}
 (h : (
 bif (decide (v9 < v8)) then (
 getK v7 v9 fun x201 =>
 Option.bind (f43 x201 is1_0) fun y203 =>
 bif y203 then (
 some v9)
 else (
 t42_2 is1_0 v7 v8 (IntKind.wrap .i64 (v9 + 1))))
 else (
 some (-1)) : Option Int) = some r) :
 t42_2 is1_0 v7 v8 v9 = some r :=
 lift2 (E := (EN Q4)) h (
 Ic (
 Ig (eLst 1 (eInt .u64)) fun x201 =>
 Ik fun y203 =>
 Ic (
 Is) (
 Iz)) (
 Is))
 (by kernel_rfl) (fun h => head_round h)
theorem e43 (c0 a1 : List Int) {r : Bool}
 (h : (
 Option.bind (f31 a1 c0) fun y201 =>
 some y201 : Option Bool) = some r) :
 f43 c0 a1 = some r :=
 lift2 (E := (EN Q1)) h (
 Ik fun y201 =>
 Is)
 (by kernel_rfl) (fun h => run_body (C := cods) rfl h)
theorem e31 (a0 b1 : List Int) {r : Bool}
 (h : (
 Option.bind (f63 a0 b1) fun y201 =>
 bif y201 then (
 Option.bind (f63 b1 a0) fun y203 =>
 some y203)
 else (
 some false) : Option Bool) = some r) :
 f31 a0 b1 = some r :=
 lift2 (E := (EN Q1)) h (
 Ik fun y201 =>
 Ic (
 Ik fun y203 =>
 Is) (
 Is))
 (by kernel_rfl) (fun h => run_body (C := cods) rfl h)
theorem e44 (b0 : List Int) {r : (List Int)}
 (h : (
 t44_3 b0 (List.length b0 : Int) 0 ([] : List Int) : Option (List Int)) = some r) :
 f44 b0 = some r :=
 lift2 (E := (EN Q7)) h (
 (show Imp _ (headT P cods H prim 18 3 [] [(3, (.row 3)), (6, (.pv (.lst 1 (List.map (eInt .u64) b0)))), (7, (.pv (.int .i64 (List.length (List.map (eInt .u64) b0) : Int)))), (8, (.pv (.int .i64 0)))] [(3, (.row 3 1 (List.map (eInt .i64) [])))]) ( t44_3 b0 (List.length b0 : Int) 0 ([] : List Int)) from fun _ h => by simpa only [List.length_map] using dec_imp _ _ _ h))
 (by kernel_rfl) (fun h => run_body (C := cods) rfl h)
theorem k44_3 (v6 : List Int) (v7 v8 : Int) (o3 : List Int) {r : (List Int)}
 (h : (
 bif (decide (v8 < v7)) then (
 getK v6 v8 fun x201 =>
 t44_5 v8 x201 v6 v7 v8 o3)
 else (
 some o3) : Option (List Int)) = some r) :
 t44_3 v6 v7 v8 o3 = some r :=
 lift2 (E := (EN Q7)) h (
 Ic (
 Ig (eInt .u64) fun x201 =>
 Iz) (
 Is))
 (by kernel_rfl) (fun h => head_round h)
theorem k44_5 (i4 w5 : Int) (v6 : List Int) (v7 v8 : Int) (o3 : List Int) {r : (List Int)}
 (h : (
 bif (w5 != 0) then (
 Option.bind (f86 w5) fun y201 =>
 check ((List.length o3 + List.length [(IntKind.wrap .i64 ((IntKind.wrap .i64 (64 * i4)) + y201))]) * 8 ≤ 140737488355328 ∧ List.length o3 + List.length [(IntKind.wrap .i64 ((IntKind.wrap .i64 (64 * i4)) + y201))] ≤ 4611686018427387904) (
 t44_5 i4 (IntKind.wrap .u64 ((BitVec.ofInt (IntKind.bits .u64) w5 &&& BitVec.ofInt (IntKind.bits .u64) (IntKind.wrap .u64 (w5 - 1))).toNat : Int)) v6 v7 v8 (o3 ++ [(IntKind.wrap .i64 ((IntKind.wrap .i64 (64 * i4)) + y201))])))
 else (
 t44_3 v6 v7 (IntKind.wrap .i64 (v8 + 1)) o3) : Option (List Int)) = some r) :
 t44_5 i4 w5 v6 v7 v8 o3 = some r :=
 lift2 (E := (EN Q7)) h (
 Ic (
 Ik fun y201 =>
 I_check (p := (List.length (List.map (eInt .i64) o3) + List.length (List.map (eInt .i64) [(IntKind.wrap .i64 ((IntKind.wrap .i64 (64 * i4)) + y201))])) * 8 ≤ 140737488355328 ∧ List.length (List.map (eInt .i64) o3) + List.length (List.map (eInt .i64) [(IntKind.wrap .i64 ((IntKind.wrap .i64 (64 * i4)) + y201))]) ≤ 4611686018427387904) (by simp only [List.length_map]; exact id) (
 (show Imp _ (headT P cods H prim 18 5 [] [(3, (.row 3)), (4, (.pv (.int .i64 i4))), (5, (.pv (.int .u64 (IntKind.wrap .u64 ((BitVec.ofInt (IntKind.bits .u64) w5 &&& BitVec.ofInt (IntKind.bits .u64) (IntKind.wrap .u64 (w5 - 1))).toNat : Int))))), (6, (.pv (.lst 1 (List.map (eInt .u64) v6)))), (7, (.pv (.int .i64 v7))), (8, (.pv (.int .i64 v8)))] [(3, (.row 3 1 ((List.map (eInt .i64) o3) ++ (List.map (eInt .i64) [(IntKind.wrap .i64 ((IntKind.wrap .i64 (64 * i4)) + y201))]))))]) ( t44_5 i4 (IntKind.wrap .u64 ((BitVec.ofInt (IntKind.bits .u64) w5 &&& BitVec.ofInt (IntKind.bits .u64) (IntKind.wrap .u64 (w5 - 1))).toNat : Int)) v6 v7 v8 (o3 ++ [(IntKind.wrap .i64 ((IntKind.wrap .i64 (64 * i4)) + y201))])) from fun _ h => by simpa only [List.map_append] using dec_imp _ _ _ h))) (
 Iz))
 (by kernel_rfl) (fun h => head_round h)
theorem e46 (d0 : List TypeDecl) (names1 : List (List UInt8)) {r : (List (List UInt8))}
 (h : (
 Option.bind (f90 d0 names1) fun y201 =>
 Option.bind (f75 d0) fun y203 =>
 t46_5 y201 y203 y201 (List.length y201 : Int) 0 ([] : List (List UInt8)) : Option (List (List UInt8))) = some r) :
 f46 d0 names1 = some r :=
 lift2 (E := (EN Q11)) h (
 Ik fun y201 =>
 Ik fun y203 =>
 (show Imp _ (headT P cods H prim 20 5 [] [(5, (.pv (.lst 1 (List.map eStr y201)))), (6, (.pv (.mp (encMap V9 V22 y203).1 (encMap V9 V22 y203).2))), (7, (.row 7)), (17, (.pv (.lst 1 (List.map eStr y201)))), (18, (.pv (.int .i64 (List.length (List.map eStr y201) : Int)))), (19, (.pv (.int .i64 0)))] [(7, (.row 9 1 (List.map eStr [])))]) ( t46_5 y201 y203 y201 (List.length y201 : Int) 0 ([] : List (List UInt8))) from fun _ h => by simpa only [List.length_map, encMap, List.length_map] using dec_imp _ _ _ h))
 (by kernel_rfl) (fun h => run_body (C := cods) rfl h)
theorem k46_5 (l5 : List (List UInt8)) (to6 : List ((List UInt8) × (List (List UInt8)))) (v17 : List (List UInt8)) (v18 v19 : Int) (o7 : List (List UInt8)) {r : (List (List UInt8))}
 (h : (
 bif (decide (v19 < v18)) then (
 getK v17 v19 fun x201 =>
 Option.bind (f74 to6 x201) fun y203 =>
 Option.bind (f93 l5 x201 y203) fun y205 =>
 bif (!y205) then (
 check ((List.length o7 + List.length ([x201] : List (List UInt8))) * 16 ≤ 140737488355328 ∧ List.length o7 + List.length ([x201] : List (List UInt8)) ≤ 4611686018427387904) (
 t46_5 l5 to6 v17 v18 (IntKind.wrap .i64 (v19 + 1)) (o7 ++ ([x201] : List (List UInt8)))))
 else (
 t46_5 l5 to6 v17 v18 (IntKind.wrap .i64 (v19 + 1)) o7))
 else (
 some o7) : Option (List (List UInt8))) = some r) :
 t46_5 l5 to6 v17 v18 v19 o7 = some r :=
 lift2 (E := (EN Q11)) h (
 Ic (
 Ig eStr fun x201 =>
 Ik fun y203 =>
 Ik fun y205 =>
 Ic (
 I_check (p := (List.length (List.map eStr o7) + List.length (List.map eStr [x201])) * 16 ≤ 140737488355328 ∧ List.length (List.map eStr o7) + List.length (List.map eStr [x201]) ≤ 4611686018427387904) (by simp only [List.length_map]; exact id) (
 (show Imp _ (headT P cods H prim 20 5 [] [(5, (.pv (.lst 1 (List.map eStr l5)))), (6, (.pv (.mp (encMap V9 V22 to6).1 (encMap V9 V22 to6).2))), (7, (.row 7)), (17, (.pv (.lst 1 (List.map eStr v17)))), (18, (.pv (.int .i64 v18))), (19, (.pv (.int .i64 (IntKind.wrap .i64 (v19 + 1)))))] [(7, (.row 9 1 ((List.map eStr o7) ++ (List.map eStr [x201]))))]) ( t46_5 l5 to6 v17 v18 (IntKind.wrap .i64 (v19 + 1)) (o7 ++ ([x201] : List (List UInt8)))) from fun _ h => by simpa only [List.map_append] using dec_imp _ _ _ h))) (
 Iz)) (
 Is))
 (by kernel_rfl) (fun h => head_round h)
theorem e16 (a0 b1 : List Coded) {r : Bool}
 (h : (
 bif ((List.length a0 : Int) != (List.length b1 : Int)) then (
 some false)
 else (
 t16_4 a0 b1 0) : Option Bool) = some r) :
 f16 a0 b1 = some r :=
 lift2 (E := (EN Q1)) h (
 I_cond (c := ((List.length (List.map Coded.enc a0) : Int) != (List.length (List.map Coded.enc b1) : Int))) (by simp only [List.length_map]) (
 Is) (
 Iz))
 (by kernel_rfl) (fun h => run_body (C := cods) rfl h)
theorem k16_4 (a0 b1 : List Coded) (i5 : Int) {r : Bool}
 (h : (
 bif (decide (i5 < (List.length a0 : Int))) then (
 getK a0 i5 fun x201 =>
 getK b1 i5 fun x203 =>
 bif (!(x201.Name == x203.Name)) then (
 some false)
 else (
 getK a0 i5 fun x205 =>
 getK b1 i5 fun x207 =>
 Option.bind (f57 x205.Code x207.Code) fun y209 =>
 bif (!y209) then (
 some false)
 else (
 t16_4 a0 b1 (IntKind.wrap .i64 (i5 + 1)))))
 else (
 some true) : Option Bool) = some r) :
 t16_4 a0 b1 i5 = some r :=
 lift2 (E := (EN Q1)) h (
 I_cond (c := (decide (i5 < (List.length (List.map Coded.enc a0) : Int)))) (by simp only [List.length_map]) (
 Ig Coded.enc fun x201 =>
 Ig Coded.enc fun x203 =>
 Ic (
 Is) (
 Ig Coded.enc fun x205 =>
 Ig Coded.enc fun x207 =>
 Ik fun y209 =>
 Ic (
 Is) (
 Iz))) (
 Is))
 (by kernel_rfl) (fun h => head_round h)
theorem e20 (l0 : List Coded) (i1 j2 : Int) {r : Int}
 (h : (
 getK l0 i1 fun x201 =>
 getK l0 j2 fun x203 =>
 Option.bind (f29 x201.Code x203.Code) fun y205 =>
 Option.bind (f18 l0 y205) fun y207 =>
 some y207 : Option Int) = some r) :
 f20 l0 i1 j2 = some r :=
 lift2 (E := (EN Q4)) h (
 Ig Coded.enc fun x201 =>
 Ig Coded.enc fun x203 =>
 Ik fun y205 =>
 Ik fun y207 =>
 Is)
 (by kernel_rfl) (fun h => run_body (C := cods) rfl h)
theorem e22 (l0 : List Coded) (i1 j2 : Int) {r : Int}
 (h : (
 getK l0 i1 fun x201 =>
 getK l0 j2 fun x203 =>
 Option.bind (f62 x201.Code x203.Code) fun y205 =>
 getK l0 0 fun x207 =>
 t22_4 l0 y205 x207.Code l0 (List.length l0 : Int) 0 : Option Int) = some r) :
 f22 l0 i1 j2 = some r :=
 lift2 (E := (EN Q4)) h (
 Ig Coded.enc fun x201 =>
 Ig Coded.enc fun x203 =>
 Ik fun y205 =>
 Ig Coded.enc fun x207 =>
 (show Imp _ (headT P cods H prim 29 4 [] [(0, (.pv (.lst 2 (List.map Coded.enc l0)))), (7, (.pv (.lst 1 (List.map (eInt .u64) y205)))), (8, (.pv (.lst 1 (List.map (eInt .u64) x207.Code)))), (26, (.pv (.lst 2 (List.map Coded.enc l0)))), (27, (.pv (.int .i64 (List.length (List.map Coded.enc l0) : Int)))), (28, (.pv (.int .i64 0)))] []) ( t22_4 l0 y205 x207.Code l0 (List.length l0 : Int) 0) from fun _ h => by simpa only [List.length_map] using dec_imp _ _ _ h))
 (by kernel_rfl) (fun h => run_body (C := cods) rfl h)
theorem k22_4 (l0 : List Coded) (both7 out8 : List Int) (v26 : List Coded) (v27 v28 : Int) {r : Int}
 (h : (
 bif (decide (v28 < v27)) then (
 getK v26 v28 fun x201 =>
 Option.bind (f63 both7 x201.Code) fun y203 =>
 bif y203 then (
 Option.bind (f29 out8 x201.Code) fun y205 =>
 t22_4 l0 both7 y205 v26 v27 (IntKind.wrap .i64 (v28 + 1)))
 else (
 t22_4 l0 both7 out8 v26 v27 (IntKind.wrap .i64 (v28 + 1))))
 else (
 Option.bind (f18 l0 out8) fun y207 =>
 some y207) : Option Int) = some r) :
 t22_4 l0 both7 out8 v26 v27 v28 = some r :=
 lift2 (E := (EN Q4)) h (
 Ic (
 Ig Coded.enc fun x201 =>
 Ik fun y203 =>
 Ic (
 Ik fun y205 =>
 Iz) (
 Iz)) (
 Ik fun y207 =>
 Is))
 (by kernel_rfl) (fun h => head_round h)
theorem e24 (l0 : List Coded) (i1 j2 : Int) {r : Bool}
 (h : (
 getK l0 j2 fun x201 =>
 getK l0 i1 fun x203 =>
 Option.bind (f63 x201.Code x203.Code) fun y205 =>
 some y205 : Option Bool) = some r) :
 f24 l0 i1 j2 = some r :=
 lift2 (E := (EN Q1)) h (
 Ig Coded.enc fun x201 =>
 Ig Coded.enc fun x203 =>
 Ik fun y205 =>
 Is)
 (by kernel_rfl) (fun h => run_body (C := cods) rfl h)
theorem e26 (a0 b1 : List Int) {r : Bool}
 (h : (
 bif ((List.length a0 : Int) != (List.length b1 : Int)) then (
 some false)
 else (
 t26_4 a0 b1 0) : Option Bool) = some r) :
 f26 a0 b1 = some r :=
 lift2 (E := (EN Q1)) h (
 I_cond (c := ((List.length (List.map (eInt .i64) a0) : Int) != (List.length (List.map (eInt .i64) b1) : Int))) (by simp only [List.length_map]) (
 Is) (
 Iz))
 (by kernel_rfl) (fun h => run_body (C := cods) rfl h)
theorem k26_4 (a0 b1 : List Int) (i5 : Int) {r : Bool}
 (h : (
 bif (decide (i5 < (List.length a0 : Int))) then (
 getK a0 i5 fun x201 =>
 getK b1 i5 fun x203 =>
 bif (x201 != x203) then (
 some false)
 else (
 t26_4 a0 b1 (IntKind.wrap .i64 (i5 + 1))))
 else (
 some true) : Option Bool) = some r) :
 t26_4 a0 b1 i5 = some r :=
 lift2 (E := (EN Q1)) h (
 I_cond (c := (decide (i5 < (List.length (List.map (eInt .i64) a0) : Int)))) (by simp only [List.length_map]) (
 Ig (eInt .i64) fun x201 =>
 Ig (eInt .i64) fun x203 =>
 Ic (
 Is) (
 Iz)) (
 Is))
 (by kernel_rfl) (fun h => head_round h)
theorem e27 (l0 : List Coded) (i1 : Int) {r : (List Int)}
 (h : (
 t27_3 i1 (List.length l0 : Int) 0 l0 ([] : List Int) ([] : List Int) : Option (List Int)) = some r) :
 f27 l0 i1 = some r :=
 lift2 (E := (EN Q7)) h (
 (show Imp _ (headT P cods H prim 32 3 [] [(1, (.pv (.int .i64 i1))), (2, (.ptr 2 0)), (5, (.row 5)), (6, (.row 6)), (12, (.pv (.int .i64 (List.length (List.map Coded.enc l0) : Int)))), (13, (.pv (.int .i64 0)))] [(2, (.box 29 [(.pv (.lst 2 (List.map Coded.enc l0)))])), (5, (.row 3 1 (List.map (eInt .i64) []))), (6, (.row 3 1 (List.map (eInt .i64) [])))]) ( t27_3 i1 (List.length l0 : Int) 0 l0 ([] : List Int) ([] : List Int)) from fun _ h => by simpa only [List.length_map] using dec_imp _ _ _ h))
 (by kernel_rfl) (fun h => run_body (C := cods) rfl h)
end Go.Proofs.YtfoddgpndoeeaaaGreatDoor.cl
