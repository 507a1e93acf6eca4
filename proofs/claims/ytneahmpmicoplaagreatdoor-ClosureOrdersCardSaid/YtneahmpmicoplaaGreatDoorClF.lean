/-
 The Closure laws: the bodies of the plain functions and loops, by program (decomp2.py).
-/
import Derived.Test.YtneahmpmicoplaaGreatDoorClD
set_option linter.unusedVariables false
set_option linter.unusedSimpArgs false
set_option maxRecDepth 100000
namespace Go.Proofs.YtneahmpmicoplaaGreatDoor.cl
open Go Go.AM
theorem e3 (d0 : List TypeDecl) {r : Bool}
 (h : (
 Option.bind (f12 d0) fun y201 =>
 bif (!y201) then (
 Option.bind (f13 ) fun y203 =>
 some y203)
 else (
 Option.bind (f14 d0) fun y205 =>
 Option.bind (f15 d0) fun y207 =>
 bif (y205.2 == y207.2) then (
 Option.bind (f16 y205.1 y207.1) fun y209 =>
 bif y209 then (
 Option.bind (f13 ) fun y211 =>
 some y211)
 else (
 some false))
 else (
 some false)) : Option Bool) = some r) :
 f3 d0 = some r :=
 lift2 (E := E3) h (
 I_call (enc := R12.enc) s12 fun y201 =>
 I_cond rfl (
 I_call (enc := R13.enc) s13 fun y203 =>
 I_some rfl) (
 I_call (enc := R14.enc) s14 fun y205 =>
 I_call (enc := R15.enc) s15 fun y207 =>
 I_cond rfl (
 I_call (enc := R16.enc) s16 fun y209 =>
 I_cond rfl (
 I_call (enc := R13.enc) s13 fun y211 =>
 I_some rfl) (
 I_some rfl)) (
 I_some rfl)))
 (by kernel_rfl) (fun h => run_body (C := cods) rfl h)
theorem e4 (d0 : List TypeDecl) (code1 : List Int) (i2 : Int) {r : Bool}
 (h : (
 Option.bind (f17 d0 i2 0) fun y201 =>
 bif (!y201.2.2.2) then (
 Option.bind (f13 ) fun y203 =>
 some y203)
 else (
 bif (decide ((List.length code1 : Int) > 70)) then (
 Option.bind (f13 ) fun y205 =>
 some y205)
 else (
 Option.bind (f18 y201.1 code1) fun y207 =>
 Option.bind (f19 y201.1 code1) fun y209 =>
 bif (y207 == y209) then (
 getK y201.1 y201.2.1 fun x211 =>
 check ((List.length ([] : List Int) + List.length x211.Code) * 8 ≤ 140737488355328 ∧ List.length ([] : List Int) + List.length x211.Code ≤ 4611686018427387904) (
 check ((List.length (([] : List Int) ++ x211.Code) + List.length [0]) * 8 ≤ 140737488355328 ∧ List.length (([] : List Int) ++ x211.Code) + List.length [0] ≤ 4611686018427387904) (
 Option.bind (f18 y201.1 ((([] : List Int) ++ x211.Code) ++ [0])) fun y213 =>
 bif (y213 == y201.2.1) then (
 Option.bind (f13 ) fun y215 =>
 some y215)
 else (
 some false))))
 else (
 some false))) : Option Bool) = some r) :
 f4 d0 code1 i2 = some r :=
 lift2 (E := E4) h (
 I_call (enc := R17.enc) s17 fun y201 =>
 I_cond rfl (
 I_call (enc := R13.enc) s13 fun y203 =>
 I_some rfl) (
 I_cond (c := (decide ((List.length (List.map (eInt .u64) code1) : Int) > 70))) (by simp only [List.length_map]) (
 I_call (enc := R13.enc) s13 fun y205 =>
 I_some rfl) (
 I_call (enc := R18.enc) s18 fun y207 =>
 I_call (enc := R19.enc) s19 fun y209 =>
 I_cond rfl (
 I_getK (enc := Coded.enc) rfl fun x211 =>
 I_check (p := (List.length (List.map (eInt .u64) []) + List.length (List.map (eInt .u64) x211.Code)) * 8 ≤ 140737488355328 ∧ List.length (List.map (eInt .u64) []) + List.length (List.map (eInt .u64) x211.Code) ≤ 4611686018427387904) (by simp only [List.length_map]; exact id) (
 I_check (p := (List.length ((List.map (eInt .u64) []) ++ (List.map (eInt .u64) x211.Code)) + List.length (List.map (eInt .u64) [0])) * 8 ≤ 140737488355328 ∧ List.length ((List.map (eInt .u64) []) ++ (List.map (eInt .u64) x211.Code)) + List.length (List.map (eInt .u64) [0]) ≤ 4611686018427387904) (by simp only [List.length_map, List.map_append, List.length_append]; exact id) (
 I_call (enc := R18.enc) (show Imp E18 (Rn 18 [(.pv (.lst 2 (List.map Coded.enc y201.1))), (.pv (.lst 1 (((List.map (eInt .u64) []) ++ (List.map (eInt .u64) x211.Code)) ++ (List.map (eInt .u64) [0]))))] []) (f18 y201.1 ((([] : List Int) ++ x211.Code) ++ [0])) from fun _ h => by simpa only [r18, List.map_append] using s18 _ h) fun y213 =>
 I_cond rfl (
 I_call (enc := R13.enc) s13 fun y215 =>
 I_some rfl) (
 I_some rfl)))) (
 I_some rfl))))
 (by kernel_rfl) (fun h => run_body (C := cods) rfl h)
theorem e5 (d0 : List TypeDecl) (i1 : Int) (j2 : Int) {r : Bool}
 (h : (
 Option.bind (f17 d0 i1 j2) fun y201 =>
 bif (!y201.2.2.2) then (
 Option.bind (f13 ) fun y203 =>
 some y203)
 else (
 Option.bind (f20 y201.1 y201.2.1 y201.2.2.1) fun y205 =>
 Option.bind (f21 y201.1 y201.2.1 y201.2.2.1) fun y207 =>
 bif (y205 == y207) then (
 Option.bind (f22 y201.1 y201.2.1 y201.2.2.1) fun y209 =>
 Option.bind (f23 y201.1 y201.2.1 y201.2.2.1) fun y211 =>
 bif (y209 == y211) then (
 Option.bind (f24 y201.1 y201.2.1 y201.2.2.1) fun y213 =>
 Option.bind (f25 y201.1 y201.2.1 y201.2.2.1) fun y215 =>
 bif (y213 == y215) then (
 Option.bind (f27 y201.1 y201.2.1) fun y217 =>
 Option.bind (f28 y201.1 y201.2.1) fun y219 =>
 Option.bind (f26 y217 y219) fun y221 =>
 bif y221 then (
 Option.bind (f13 ) fun y223 =>
 some y223)
 else (
 some false))
 else (
 some false))
 else (
 some false))
 else (
 some false)) : Option Bool) = some r) :
 f5 d0 i1 j2 = some r :=
 lift2 (E := E5) h (
 I_call (enc := R17.enc) s17 fun y201 =>
 I_cond rfl (
 I_call (enc := R13.enc) s13 fun y203 =>
 I_some rfl) (
 I_call (enc := R20.enc) s20 fun y205 =>
 I_call (enc := R21.enc) s21 fun y207 =>
 I_cond rfl (
 I_call (enc := R22.enc) s22 fun y209 =>
 I_call (enc := R23.enc) s23 fun y211 =>
 I_cond rfl (
 I_call (enc := R24.enc) s24 fun y213 =>
 I_call (enc := R25.enc) s25 fun y215 =>
 I_cond rfl (
 I_call (enc := R27.enc) s27 fun y217 =>
 I_call (enc := R28.enc) s28 fun y219 =>
 I_call (enc := R26.enc) s26 fun y221 =>
 I_cond rfl (
 I_call (enc := R13.enc) s13 fun y223 =>
 I_some rfl) (
 I_some rfl)) (
 I_some rfl)) (
 I_some rfl)) (
 I_some rfl)))
 (by kernel_rfl) (fun h => run_body (C := cods) rfl h)
theorem e6 (d0 : List TypeDecl) (i1 : Int) (j2 : Int) {r : Bool}
 (h : (
 Option.bind (f17 d0 i1 j2) fun y201 =>
 bif (!y201.2.2.2) then (
 Option.bind (f13 ) fun y203 =>
 some y203)
 else (
 Option.bind (f14 d0) fun y205 =>
 bif (y205.2 != 0) then (
 some false)
 else (
 bif (decide (y201.2.1 ≥ (List.length y205.1 : Int))) then (
 some false)
 else (
 bif (decide (y201.2.2.1 ≥ (List.length y205.1 : Int))) then (
 some false)
 else (
 Option.bind (f20 y205.1 y201.2.1 y201.2.2.1) fun y207 =>
 Option.bind (f22 y205.1 y201.2.1 y201.2.2.1) fun y209 =>
 bif (decide (y207 ≥ (List.length y205.1 : Int))) then (
 some false)
 else (
 bif (decide (y209 < 0)) then (
 some false)
 else (
 bif (decide (y209 ≥ (List.length y205.1 : Int))) then (
 some false)
 else (
 Option.bind (f24 y205.1 y209 y201.2.1) fun y211 =>
 bif (!y211) then (
 some false)
 else (
 Option.bind (f24 y205.1 y209 y201.2.2.1) fun y213 =>
 bif (!y213) then (
 some false)
 else (
 getK y205.1 y201.2.1 fun x215 =>
 getK y205.1 y201.2.2.1 fun x217 =>
 Option.bind (f29 x215.Code x217.Code) fun y219 =>
 Option.bind (f30 y219) fun y221 =>
 bif (!((decide (y207 < 0)) == (y221 == 0))) then (
 some false)
 else (
 bif (decide (y207 ≥ 0)) then (
 getK y205.1 y207 fun x223 =>
 Option.bind (f31 x223.Code y219) fun y225 =>
 bif (!y225) then (
 some false)
 else (
 Option.bind (f24 y205.1 y201.2.1 y207) fun y227 =>
 bif (!y227) then (
 some false)
 else (
 Option.bind (f24 y205.1 y201.2.2.1 y207) fun y229 =>
 bif (!y229) then (
 some false)
 else (
 t6_14 y201.2.1 y201.2.2.1 y205.1 y207 y209 (List.length y205.1 : Int) 0))))
 else (
 t6_14 y201.2.1 y201.2.2.1 y205.1 y207 y209 (List.length y205.1 : Int) 0))))))))))) : Option Bool) = some r) :
 f6 d0 i1 j2 = some r :=
 lift2 (E := E6) h (
 I_call (enc := R17.enc) s17 fun y201 =>
 I_cond rfl (
 I_call (enc := R13.enc) s13 fun y203 =>
 I_some rfl) (
 I_call (enc := R14.enc) s14 fun y205 =>
 I_cond rfl (
 I_some rfl) (
 I_cond (c := (decide (y201.2.1 ≥ (List.length (List.map Coded.enc y205.1) : Int)))) (by simp only [List.length_map]) (
 I_some rfl) (
 I_cond (c := (decide (y201.2.2.1 ≥ (List.length (List.map Coded.enc y205.1) : Int)))) (by simp only [List.length_map]) (
 I_some rfl) (
 I_call (enc := R20.enc) s20 fun y207 =>
 I_call (enc := R22.enc) s22 fun y209 =>
 I_cond (c := (decide (y207 ≥ (List.length (List.map Coded.enc y205.1) : Int)))) (by simp only [List.length_map]) (
 I_some rfl) (
 I_cond rfl (
 I_some rfl) (
 I_cond (c := (decide (y209 ≥ (List.length (List.map Coded.enc y205.1) : Int)))) (by simp only [List.length_map]) (
 I_some rfl) (
 I_call (enc := R24.enc) s24 fun y211 =>
 I_cond rfl (
 I_some rfl) (
 I_call (enc := R24.enc) s24 fun y213 =>
 I_cond rfl (
 I_some rfl) (
 I_getK (enc := Coded.enc) rfl fun x215 =>
 I_getK (enc := Coded.enc) rfl fun x217 =>
 I_call (enc := R29.enc) s29 fun y219 =>
 I_call (enc := R30.enc) s30 fun y221 =>
 I_cond rfl (
 I_some rfl) (
 I_cond rfl (
 I_getK (enc := Coded.enc) rfl fun x223 =>
 I_call (enc := R31.enc) s31 fun y225 =>
 I_cond rfl (
 I_some rfl) (
 I_call (enc := R24.enc) s24 fun y227 =>
 I_cond rfl (
 I_some rfl) (
 I_call (enc := R24.enc) s24 fun y229 =>
 I_cond rfl (
 I_some rfl) (
 (show Imp E6 (headT P cods H prim 6 14 [] [(8, (.pv (.int .i64 y201.2.1))), (9, (.pv (.int .i64 y201.2.2.1))), (11, (.pv (.lst 2 (List.map Coded.enc y205.1)))), (13, (.pv (.int .i64 y207))), (14, (.pv (.int .i64 y209))), (130, (.pv (.int .i64 (List.length (List.map Coded.enc y205.1) : Int)))), (131, (.pv (.int .i64 0)))] []) (t6_14 y201.2.1 y201.2.2.1 y205.1 y207 y209 (List.length y205.1 : Int) 0) from fun _ h => by simpa only [h6_14, List.length_map] using q6_14 _ h))))) (
 (show Imp E6 (headT P cods H prim 6 14 [] [(8, (.pv (.int .i64 y201.2.1))), (9, (.pv (.int .i64 y201.2.2.1))), (11, (.pv (.lst 2 (List.map Coded.enc y205.1)))), (13, (.pv (.int .i64 y207))), (14, (.pv (.int .i64 y209))), (130, (.pv (.int .i64 (List.length (List.map Coded.enc y205.1) : Int)))), (131, (.pv (.int .i64 0)))] []) (t6_14 y201.2.1 y201.2.2.1 y205.1 y207 y209 (List.length y205.1 : Int) 0) from fun _ h => by simpa only [h6_14, List.length_map] using q6_14 _ h)))))))))))))
 (by kernel_rfl) (fun h => run_body (C := cods) rfl h)
theorem k6_14 (a8 : Int) (b9 : Int) (l11 : List Coded) (m13 : Int) (n14 : Int) (v130 : Int) (v131 : Int) {r : Bool}
 (h : (
 bif (decide (v131 < v130)) then (
 Option.bind (f24 l11 a8 v131) fun y201 =>
 bif y201 then (
 Option.bind (f24 l11 b9 v131) fun y203 =>
 bif y203 then (
 bif (decide (m13 < 0)) then (
 some false)
 else (
 Option.bind (f24 l11 m13 v131) fun y205 =>
 bif (!y205) then (
 some false)
 else (
 Option.bind (f24 l11 v131 a8) fun y207 =>
 bif y207 then (
 Option.bind (f24 l11 v131 b9) fun y209 =>
 bif y209 then (
 Option.bind (f24 l11 v131 n14) fun y211 =>
 bif (!y211) then (
 some false)
 else (
 t6_14 a8 b9 l11 m13 n14 v130 (IntKind.wrap .i64 (v131 + 1))))
 else (
 t6_14 a8 b9 l11 m13 n14 v130 (IntKind.wrap .i64 (v131 + 1))))
 else (
 t6_14 a8 b9 l11 m13 n14 v130 (IntKind.wrap .i64 (v131 + 1))))))
 else (
 Option.bind (f24 l11 v131 a8) fun y213 =>
 bif y213 then (
 Option.bind (f24 l11 v131 b9) fun y215 =>
 bif y215 then (
 Option.bind (f24 l11 v131 n14) fun y217 =>
 bif (!y217) then (
 some false)
 else (
 t6_14 a8 b9 l11 m13 n14 v130 (IntKind.wrap .i64 (v131 + 1))))
 else (
 t6_14 a8 b9 l11 m13 n14 v130 (IntKind.wrap .i64 (v131 + 1))))
 else (
 t6_14 a8 b9 l11 m13 n14 v130 (IntKind.wrap .i64 (v131 + 1)))))
 else (
 Option.bind (f24 l11 v131 a8) fun y219 =>
 bif y219 then (
 Option.bind (f24 l11 v131 b9) fun y221 =>
 bif y221 then (
 Option.bind (f24 l11 v131 n14) fun y223 =>
 bif (!y223) then (
 some false)
 else (
 t6_14 a8 b9 l11 m13 n14 v130 (IntKind.wrap .i64 (v131 + 1))))
 else (
 t6_14 a8 b9 l11 m13 n14 v130 (IntKind.wrap .i64 (v131 + 1))))
 else (
 t6_14 a8 b9 l11 m13 n14 v130 (IntKind.wrap .i64 (v131 + 1)))))
 else (
 Option.bind (f13 ) fun y225 =>
 some y225) : Option Bool) = some r) :
 t6_14 a8 b9 l11 m13 n14 v130 v131 = some r :=
 lift2 (E := E6) h (
 I_cond rfl (
 I_call (enc := R24.enc) s24 fun y201 =>
 I_cond rfl (
 I_call (enc := R24.enc) s24 fun y203 =>
 I_cond rfl (
 I_cond rfl (
 I_some rfl) (
 I_call (enc := R24.enc) s24 fun y205 =>
 I_cond rfl (
 I_some rfl) (
 I_call (enc := R24.enc) s24 fun y207 =>
 I_cond rfl (
 I_call (enc := R24.enc) s24 fun y209 =>
 I_cond rfl (
 I_call (enc := R24.enc) s24 fun y211 =>
 I_cond rfl (
 I_some rfl) (
 q6_14)) (
 q6_14)) (
 q6_14)))) (
 I_call (enc := R24.enc) s24 fun y213 =>
 I_cond rfl (
 I_call (enc := R24.enc) s24 fun y215 =>
 I_cond rfl (
 I_call (enc := R24.enc) s24 fun y217 =>
 I_cond rfl (
 I_some rfl) (
 q6_14)) (
 q6_14)) (
 q6_14))) (
 I_call (enc := R24.enc) s24 fun y219 =>
 I_cond rfl (
 I_call (enc := R24.enc) s24 fun y221 =>
 I_cond rfl (
 I_call (enc := R24.enc) s24 fun y223 =>
 I_cond rfl (
 I_some rfl) (
 q6_14)) (
 q6_14)) (
 q6_14))) (
 I_call (enc := R13.enc) s13 fun y225 =>
 I_some rfl))
 (by kernel_rfl) (fun h => head_round h)
theorem e7 (d0 : List TypeDecl) {r : Bool}
 (h : (
 Option.bind (f12 d0) fun y201 =>
 bif (!y201) then (
 Option.bind (f13 ) fun y203 =>
 some y203)
 else (
 Option.bind (f32 d0) fun y205 =>
 bif (y205 != 0) then (
 Option.bind (f13 ) fun y207 =>
 some y207)
 else (
 Option.bind (f14 d0) fun y209 =>
 bif (y209.2 != 0) then (
 bif (y209.2 == 7) then (
 Option.bind (f13 ) fun y211 =>
 some y211)
 else (
 some false))
 else (
 t7_7 y209.1 (List.length y209.1 : Int) 0))) : Option Bool) = some r) :
 f7 d0 = some r :=
 lift2 (E := E7) h (
 I_call (enc := R12.enc) s12 fun y201 =>
 I_cond rfl (
 I_call (enc := R13.enc) s13 fun y203 =>
 I_some rfl) (
 I_call (enc := R32.enc) s32 fun y205 =>
 I_cond rfl (
 I_call (enc := R13.enc) s13 fun y207 =>
 I_some rfl) (
 I_call (enc := R14.enc) s14 fun y209 =>
 I_cond rfl (
 I_cond rfl (
 I_call (enc := R13.enc) s13 fun y211 =>
 I_some rfl) (
 I_some rfl)) (
 (show Imp E7 (headT P cods H prim 7 7 [] [(3, (.pv (.lst 2 (List.map Coded.enc y209.1)))), (29, (.pv (.int .i64 (List.length (List.map Coded.enc y209.1) : Int)))), (30, (.pv (.int .i64 0)))] []) (t7_7 y209.1 (List.length y209.1 : Int) 0) from fun _ h => by simpa only [h7_7, List.length_map] using q7_7 _ h)))))
 (by kernel_rfl) (fun h => run_body (C := cods) rfl h)
theorem k7_7 (l3 : List Coded) (v29 : Int) (v30 : Int) {r : Bool}
 (h : (
 bif (decide (v30 < v29)) then (
 getK l3 v30 fun x201 =>
 Option.bind (f30 x201.Code) fun y203 =>
 bif (y203 == 0) then (
 some false)
 else (
 Option.bind (f24 l3 0 v30) fun y205 =>
 bif (!y205) then (
 some false)
 else (
 t7_12 l3 v30 v29 v30 (List.length l3 : Int) 0)))
 else (
 Option.bind (f13 ) fun y207 =>
 some y207) : Option Bool) = some r) :
 t7_7 l3 v29 v30 = some r :=
 lift2 (E := E7) h (
 I_cond rfl (
 I_getK (enc := Coded.enc) rfl fun x201 =>
 I_call (enc := R30.enc) s30 fun y203 =>
 I_cond rfl (
 I_some rfl) (
 I_call (enc := R24.enc) s24 fun y205 =>
 I_cond rfl (
 I_some rfl) (
 (show Imp E7 (headT P cods H prim 7 12 [] [(3, (.pv (.lst 2 (List.map Coded.enc l3)))), (5, (.pv (.int .i64 v30))), (29, (.pv (.int .i64 v29))), (30, (.pv (.int .i64 v30))), (47, (.pv (.int .i64 (List.length (List.map Coded.enc l3) : Int)))), (48, (.pv (.int .i64 0)))] []) (t7_12 l3 v30 v29 v30 (List.length l3 : Int) 0) from fun _ h => by simpa only [h7_12, List.length_map] using q7_12 _ h)))) (
 I_call (enc := R13.enc) s13 fun y207 =>
 I_some rfl))
 (by kernel_rfl) (fun h => head_round h)
theorem k7_12 (l3 : List Coded) (i5 : Int) (v29 : Int) (v30 : Int) (v47 : Int) (v48 : Int) {r : Bool}
 (h : (
 bif (decide (v48 < v47)) then (
 bif (v48 != i5) then (
 getK l3 i5 fun x201 =>
 getK l3 v48 fun x203 =>
 Option.bind (f31 x201.Code x203.Code) fun y205 =>
 bif y205 then (
 some false)
 else (
 getK l3 i5 fun x207 =>
 getK l3 v48 fun x209 =>
 bif (x207.Name == x209.Name) then (
 some false)
 else (
 Option.bind (f24 l3 i5 v48) fun y211 =>
 bif y211 then (
 bif (decide (v48 < i5)) then (
 some false)
 else (
 t7_12 l3 i5 v29 v30 v47 (IntKind.wrap .i64 (v48 + 1))))
 else (
 t7_12 l3 i5 v29 v30 v47 (IntKind.wrap .i64 (v48 + 1))))))
 else (
 t7_12 l3 i5 v29 v30 v47 (IntKind.wrap .i64 (v48 + 1))))
 else (
 t7_7 l3 v29 (IntKind.wrap .i64 (v30 + 1))) : Option Bool) = some r) :
 t7_12 l3 i5 v29 v30 v47 v48 = some r :=
 lift2 (E := E7) h (
 I_cond rfl (
 I_cond rfl (
 I_getK (enc := Coded.enc) rfl fun x201 =>
 I_getK (enc := Coded.enc) rfl fun x203 =>
 I_call (enc := R31.enc) s31 fun y205 =>
 I_cond rfl (
 I_some rfl) (
 I_getK (enc := Coded.enc) rfl fun x207 =>
 I_getK (enc := Coded.enc) rfl fun x209 =>
 I_cond rfl (
 I_some rfl) (
 I_call (enc := R24.enc) s24 fun y211 =>
 I_cond rfl (
 I_cond rfl (
 I_some rfl) (
 q7_12)) (
 q7_12)))) (
 q7_12)) (
 q7_7))
 (by kernel_rfl) (fun h => head_round h)
theorem e8 (d0 : List TypeDecl) (a1_0 : Int) (a1_1 : Int) (a1_2 : Int) {r : Bool}
 (h : (
 Option.bind (f17 d0 a1_0 a1_1) fun y201 =>
 bif (!y201.2.2.2) then (
 Option.bind (f13 ) fun y203 =>
 some y203)
 else (
 check ((List.length y201.1 : Int) ≠ 0) (
 Option.bind (f20 y201.1 y201.2.1 y201.2.2.1) fun y205 =>
 Option.bind (f22 y201.1 y201.2.1 y201.2.2.1) fun y207 =>
 Option.bind (f22 y201.1 y201.2.2.1 (Int.tmod (IntKind.wrap .i64 (a1_2)) (List.length y201.1 : Int))) fun y209 =>
 bif (decide (y207 < 0)) then (
 some false)
 else (
 bif (decide (y207 ≥ (List.length y201.1 : Int))) then (
 some false)
 else (
 bif (decide (y209 < 0)) then (
 some false)
 else (
 bif (decide (y209 ≥ (List.length y201.1 : Int))) then (
 some false)
 else (
 Option.bind (f20 y201.1 y201.2.2.1 y201.2.1) fun y211 =>
 bif (y205 != y211) then (
 some false)
 else (
 Option.bind (f22 y201.1 y201.2.2.1 y201.2.1) fun y213 =>
 bif (y207 != y213) then (
 some false)
 else (
 Option.bind (f20 y201.1 y201.2.1 y201.2.1) fun y215 =>
 bif (y215 != y201.2.1) then (
 some false)
 else (
 Option.bind (f22 y201.1 y201.2.1 y201.2.1) fun y217 =>
 bif (y217 != y201.2.1) then (
 some false)
 else (
 Option.bind (f22 y201.1 y207 (Int.tmod (IntKind.wrap .i64 (a1_2)) (List.length y201.1 : Int))) fun y219 =>
 Option.bind (f22 y201.1 y201.2.1 y209) fun y221 =>
 bif (y219 != y221) then (
 some false)
 else (
 Option.bind (f33 y201.1 y201.2.1 y201.2.2.1 (Int.tmod (IntKind.wrap .i64 (a1_2)) (List.length y201.1 : Int))) fun y223 =>
 Option.bind (f33 y201.1 y201.2.2.1 (Int.tmod (IntKind.wrap .i64 (a1_2)) (List.length y201.1 : Int)) y201.2.1) fun y225 =>
 bif (y223 != y225) then (
 some false)
 else (
 Option.bind (f24 y201.1 y201.2.1 y201.2.2.1) fun y227 =>
 bif (y227 == (y205 == y201.2.2.1)) then (
 bif (y227 == (y207 == y201.2.1)) then (
 Option.bind (f13 ) fun y229 =>
 some y229)
 else (
 some false))
 else (
 some false))))))))))))) : Option Bool) = some r) :
 f8 d0 a1_0 a1_1 a1_2 = some r :=
 lift2 (E := E8) h (
 I_call (enc := R17.enc) s17 fun y201 =>
 I_cond rfl (
 I_call (enc := R13.enc) s13 fun y203 =>
 I_some rfl) (
 I_check (p := (List.length (List.map Coded.enc y201.1) : Int) ≠ 0) (by simp only [List.length_map]; exact id) (
 I_call (enc := R20.enc) s20 fun y205 =>
 I_call (enc := R22.enc) s22 fun y207 =>
 I_call (enc := R22.enc) (show Imp E22 (Rn 22 [(.pv (.lst 2 (List.map Coded.enc y201.1))), (.pv (.int .i64 y201.2.2.1)), (.pv (.int .i64 (Int.tmod (IntKind.wrap .i64 (a1_2)) (List.length (List.map Coded.enc y201.1) : Int))))] []) (f22 y201.1 y201.2.2.1 (Int.tmod (IntKind.wrap .i64 (a1_2)) (List.length y201.1 : Int))) from fun _ h => by simpa only [r22, List.length_map] using s22 _ h) fun y209 =>
 I_cond rfl (
 I_some rfl) (
 I_cond (c := (decide (y207 ≥ (List.length (List.map Coded.enc y201.1) : Int)))) (by simp only [List.length_map]) (
 I_some rfl) (
 I_cond rfl (
 I_some rfl) (
 I_cond (c := (decide (y209 ≥ (List.length (List.map Coded.enc y201.1) : Int)))) (by simp only [List.length_map]) (
 I_some rfl) (
 I_call (enc := R20.enc) s20 fun y211 =>
 I_cond rfl (
 I_some rfl) (
 I_call (enc := R22.enc) s22 fun y213 =>
 I_cond rfl (
 I_some rfl) (
 I_call (enc := R20.enc) s20 fun y215 =>
 I_cond rfl (
 I_some rfl) (
 I_call (enc := R22.enc) s22 fun y217 =>
 I_cond rfl (
 I_some rfl) (
 I_call (enc := R22.enc) (show Imp E22 (Rn 22 [(.pv (.lst 2 (List.map Coded.enc y201.1))), (.pv (.int .i64 y207)), (.pv (.int .i64 (Int.tmod (IntKind.wrap .i64 (a1_2)) (List.length (List.map Coded.enc y201.1) : Int))))] []) (f22 y201.1 y207 (Int.tmod (IntKind.wrap .i64 (a1_2)) (List.length y201.1 : Int))) from fun _ h => by simpa only [r22, List.length_map] using s22 _ h) fun y219 =>
 I_call (enc := R22.enc) s22 fun y221 =>
 I_cond rfl (
 I_some rfl) (
 I_call (enc := R33.enc) (show Imp E33 (Rn 33 [(.pv (.lst 2 (List.map Coded.enc y201.1))), (.pv (.int .i64 y201.2.1)), (.pv (.int .i64 y201.2.2.1)), (.pv (.int .i64 (Int.tmod (IntKind.wrap .i64 (a1_2)) (List.length (List.map Coded.enc y201.1) : Int))))] []) (f33 y201.1 y201.2.1 y201.2.2.1 (Int.tmod (IntKind.wrap .i64 (a1_2)) (List.length y201.1 : Int))) from fun _ h => by simpa only [r33, List.length_map] using s33 _ h) fun y223 =>
 I_call (enc := R33.enc) (show Imp E33 (Rn 33 [(.pv (.lst 2 (List.map Coded.enc y201.1))), (.pv (.int .i64 y201.2.2.1)), (.pv (.int .i64 (Int.tmod (IntKind.wrap .i64 (a1_2)) (List.length (List.map Coded.enc y201.1) : Int)))), (.pv (.int .i64 y201.2.1))] []) (f33 y201.1 y201.2.2.1 (Int.tmod (IntKind.wrap .i64 (a1_2)) (List.length y201.1 : Int)) y201.2.1) from fun _ h => by simpa only [r33, List.length_map] using s33 _ h) fun y225 =>
 I_cond rfl (
 I_some rfl) (
 I_call (enc := R24.enc) s24 fun y227 =>
 I_cond rfl (
 I_cond rfl (
 I_call (enc := R13.enc) s13 fun y229 =>
 I_some rfl) (
 I_some rfl)) (
 I_some rfl))))))))))))))
 (by kernel_rfl) (fun h => run_body (C := cods) rfl h)
theorem k11_7 (d0 : List TypeDecl) (l3 : List Coded) (v32 : Int) (v33 : Int) {r : Bool}
 (h : (
 bif (decide (v33 < v32)) then (
 getK d0 v33 fun x201 =>
 Option.bind (f35 d0 x201.Name) fun y203 =>
 getK d0 v33 fun x205 =>
 Option.bind (f36 l3 x205.Name) fun y207 =>
 t11_12 d0 l3 y203 y207 v32 v33 (List.length d0 : Int) 0)
 else (
 Option.bind (f13 ) fun y209 =>
 some y209) : Option Bool) = some r) :
 t11_7 d0 l3 v32 v33 = some r :=
 lift2 (E := E11) h (
 I_cond rfl (
 I_getK (enc := TypeDecl.enc) rfl fun x201 =>
 I_call (enc := R35.enc) s35 fun y203 =>
 I_getK (enc := TypeDecl.enc) rfl fun x205 =>
 I_call (enc := R36.enc) s36 fun y207 =>
 (show Imp E11 (headT P cods H prim 11 12 [] [(0, (.pv (.lst 3 (List.map TypeDecl.enc d0)))), (3, (.pv (.lst 2 (List.map Coded.enc l3)))), (6, (.pv (.lst 1 (List.map eStr y203)))), (7, (.pv (.int .i64 y207))), (32, (.pv (.int .i64 v32))), (33, (.pv (.int .i64 v33))), (51, (.pv (.int .i64 (List.length (List.map TypeDecl.enc d0) : Int)))), (52, (.pv (.int .i64 0)))] []) (t11_12 d0 l3 y203 y207 v32 v33 (List.length d0 : Int) 0) from fun _ h => by simpa only [h11_12, List.length_map] using q11_12 _ h)) (
 I_call (enc := R13.enc) s13 fun y209 =>
 I_some rfl))
 (by kernel_rfl) (fun h => head_round h)
theorem k11_12 (d0 : List TypeDecl) (l3 : List Coded) (up6 : List (List UInt8)) (a7 : Int) (v32 : Int) (v33 : Int) (v51 : Int) (v52 : Int) {r : Bool}
 (h : (
 bif (decide (v52 < v51)) then (
 getK d0 v52 fun x201 =>
 Option.bind (f36 l3 x201.Name) fun y203 =>
 bif (decide (a7 < 0)) then (
 some false)
 else (
 bif (decide (y203 < 0)) then (
 some false)
 else (
 Option.bind (f24 l3 y203 a7) fun y205 =>
 getK d0 v52 fun x207 =>
 Option.bind (f37 up6 x207.Name) fun y209 =>
 bif (!(y205 == y209)) then (
 some false)
 else (
 t11_12 d0 l3 up6 a7 v32 v33 v51 (IntKind.wrap .i64 (v52 + 1))))))
 else (
 t11_7 d0 l3 v32 (IntKind.wrap .i64 (v33 + 1))) : Option Bool) = some r) :
 t11_12 d0 l3 up6 a7 v32 v33 v51 v52 = some r :=
 lift2 (E := E11) h (
 I_cond rfl (
 I_getK (enc := TypeDecl.enc) rfl fun x201 =>
 I_call (enc := R36.enc) s36 fun y203 =>
 I_cond rfl (
 I_some rfl) (
 I_cond rfl (
 I_some rfl) (
 I_call (enc := R24.enc) s24 fun y205 =>
 I_getK (enc := TypeDecl.enc) rfl fun x207 =>
 I_call (enc := R37.enc) s37 fun y209 =>
 I_cond rfl (
 I_some rfl) (
 q11_12)))) (
 q11_7))
 (by kernel_rfl) (fun h => head_round h)
theorem e12 (d0 : List TypeDecl) {r : Bool}
 (h : (
 Option.bind (f38 d0) fun y201 =>
 bif y201 then (
 some (decide ((List.length d0 : Int) ≤ 12)))
 else (
 some false) : Option Bool) = some r) :
 f12 d0 = some r :=
 lift2 (E := E12) h (
 I_call (enc := R38.enc) s38 fun y201 =>
 I_cond rfl (
 I_some (c := ((.bool (decide ((List.length (List.map TypeDecl.enc d0) : Int) ≤ 12))), [])) (by simp only [E12, R12.enc, List.length_map])) (
 I_some rfl))
 (by kernel_rfl) (fun h => run_body (C := cods) rfl h)
theorem e14 (d0 : List TypeDecl) {r : ((List Coded) × Int)}
 (h : (
 Option.bind (f39 d0) fun y201 =>
 bif (y201 != 0) then (
 some (([] : List Coded), y201))
 else (
 Option.bind (f40 d0) fun y203 =>
 Option.bind (f41 y203.2) fun y205 =>
 bif (!y205.2) then (
 some (([] : List Coded), 7))
 else (
 t14_10 d0 y203.1 y203.2 y205.1 (List.length y205.1 : Int) 0 ([] : List Coded))) : Option ((List Coded) × Int)) = some r) :
 f14 d0 = some r :=
 lift2 (E := E14) h (
 I_call (enc := R39.enc) s39 fun y201 =>
 I_cond rfl (
 I_some rfl) (
 I_call (enc := R40.enc) s40 fun y203 =>
 I_call (enc := R41.enc) s41 fun y205 =>
 I_cond rfl (
 I_some rfl) (
 (show Imp E14 (headT P cods H prim 14 10 [] [(0, (.pv (.lst 3 (List.map TypeDecl.enc d0)))), (5, (.pv (.lst 1 (List.map eStr y203.1)))), (6, (.pv (.lst 1 (List.map (eLst 1 (eInt .u64)) y203.2)))), (9, (.row 9)), (34, (.pv (.lst 1 (List.map (eLst 1 (eInt .u64)) y205.1)))), (35, (.pv (.int .i64 (List.length (List.map (eLst 1 (eInt .u64)) y205.1) : Int)))), (36, (.pv (.int .i64 0)))] [(9, (.row 36 2 (List.map Coded.enc [])))]) (t14_10 d0 y203.1 y203.2 y205.1 (List.length y205.1 : Int) 0 ([] : List Coded)) from fun _ h => by simpa only [h14_10, List.length_map] using q14_10 _ h))))
 (by kernel_rfl) (fun h => run_body (C := cods) rfl h)
theorem k14_10 (d0 : List TypeDecl) (names5 : List (List UInt8)) (codes6 : List (List Int)) (v34 : List (List Int)) (v35 : Int) (v36 : Int) (o9 : List Coded) {r : ((List Coded) × Int)}
 (h : (
 bif (decide (v36 < v35)) then (
 getK v34 v36 fun x201 =>
 Option.bind (f42 codes6 x201) fun y203 =>
 bif (decide (y203 ≥ 0)) then (
 getK names5 y203 fun x205 =>
 check ((List.length o9 + List.length [(Coded.mk x205 x201)]) * 40 ≤ 140737488355328 ∧ List.length o9 + List.length [(Coded.mk x205 x201)] ≤ 4611686018427387904) (
 t14_10 d0 names5 codes6 v34 v35 (IntKind.wrap .i64 (v36 + 1)) (o9 ++ [(Coded.mk x205 x201)])))
 else (
 Option.bind (f44 x201) fun y207 =>
 t14_18 d0 names5 codes6 v34 v35 v36 y207 (List.length y207 : Int) 0 o9 (Coded.mk [] x201) ([] : List (List UInt8))))
 else (
 bind2 (f47 o9) fun y209 l211 =>
 some (l211, 0)) : Option ((List Coded) × Int)) = some r) :
 t14_10 d0 names5 codes6 v34 v35 v36 o9 = some r :=
 lift2 (E := E14) h (
 I_cond rfl (
 I_getK (enc := (eLst 1 (eInt .u64))) rfl fun x201 =>
 I_call (enc := R42.enc) s42 fun y203 =>
 I_cond rfl (
 I_getK (enc := eStr) rfl fun x205 =>
 I_check (p := (List.length (List.map Coded.enc o9) + List.length (List.map Coded.enc [(Coded.mk x205 x201)])) * 40 ≤ 140737488355328 ∧ List.length (List.map Coded.enc o9) + List.length (List.map Coded.enc [(Coded.mk x205 x201)]) ≤ 4611686018427387904) (by simp only [List.length_map]; exact id) (
 (show Imp E14 (headT P cods H prim 14 10 [] [(0, (.pv (.lst 3 (List.map TypeDecl.enc d0)))), (5, (.pv (.lst 1 (List.map eStr names5)))), (6, (.pv (.lst 1 (List.map (eLst 1 (eInt .u64)) codes6)))), (9, (.row 9)), (34, (.pv (.lst 1 (List.map (eLst 1 (eInt .u64)) v34)))), (35, (.pv (.int .i64 v35))), (36, (.pv (.int .i64 (IntKind.wrap .i64 (v36 + 1)))))] [(9, (.row 36 2 ((List.map Coded.enc o9) ++ (List.map Coded.enc [(Coded.mk x205 x201)]))))]) (t14_10 d0 names5 codes6 v34 v35 (IntKind.wrap .i64 (v36 + 1)) (o9 ++ [(Coded.mk x205 x201)])) from fun _ h => by simpa only [h14_10, List.map_append] using q14_10 _ h))) (
 I_call (enc := R44.enc) s44 fun y207 =>
 (show Imp E14 (headT P cods H prim 14 18 [] [(0, (.pv (.lst 3 (List.map TypeDecl.enc d0)))), (5, (.pv (.lst 1 (List.map eStr names5)))), (6, (.pv (.lst 1 (List.map (eLst 1 (eInt .u64)) codes6)))), (9, (.row 9)), (12, (.ptr 12 0)), (14, (.row 14)), (34, (.pv (.lst 1 (List.map (eLst 1 (eInt .u64)) v34)))), (35, (.pv (.int .i64 v35))), (36, (.pv (.int .i64 v36))), (53, (.pv (.lst 1 (List.map (eInt .i64) y207)))), (54, (.pv (.int .i64 (List.length (List.map (eInt .i64) y207) : Int)))), (55, (.pv (.int .i64 0)))] [(9, (.row 36 2 (List.map Coded.enc o9))), (12, (.box 36 (List.map .pv (Coded.enc (Coded.mk [] x201))))), (14, (.row 9 1 (List.map eStr [])))]) (t14_18 d0 names5 codes6 v34 v35 v36 y207 (List.length y207 : Int) 0 o9 (Coded.mk [] x201) ([] : List (List UInt8))) from fun _ h => by simpa only [h14_18, List.length_map] using q14_18 _ h))) (
 I_callR (enc := R47.enc) (ee := Coded.enc) (nm := 10000) (e := 36) (sz := 2) s47 fun y209 l211 =>
 I_some rfl))
 (by kernel_rfl) (fun h => head_round h)
theorem k14_18 (d0 : List TypeDecl) (names5 : List (List UInt8)) (codes6 : List (List Int)) (v34 : List (List Int)) (v35 : Int) (v36 : Int) (v53 : List Int) (v54 : Int) (v55 : Int) (o9 : List Coded) (o12 : Coded) (o14 : List (List UInt8)) {r : ((List Coded) × Int)}
 (h : (
 bif (decide (v55 < v54)) then (
 getK v53 v55 fun x201 =>
 getK names5 x201 fun x203 =>
 check ((List.length o14 + List.length [x203]) * 16 ≤ 140737488355328 ∧ List.length o14 + List.length [x203] ≤ 4611686018427387904) (
 t14_18 d0 names5 codes6 v34 v35 v36 v53 v54 (IntKind.wrap .i64 (v55 + 1)) o9 o12 (o14 ++ [x203])))
 else (
 Option.bind (f46 d0 o14) fun y205 =>
 Option.bind (f46 d0 o14) fun y207 =>
 Option.bind (f45 y207 [38]) fun y209 =>
 check ((List.length o9 + List.length [(Coded.mk y209 o12.Code)]) * 40 ≤ 140737488355328 ∧ List.length o9 + List.length [(Coded.mk y209 o12.Code)] ≤ 4611686018427387904) (
 t14_10 d0 names5 codes6 v34 v35 (IntKind.wrap .i64 (v36 + 1)) (o9 ++ [(Coded.mk y209 o12.Code)]))) : Option ((List Coded) × Int)) = some r) :
 t14_18 d0 names5 codes6 v34 v35 v36 v53 v54 v55 o9 o12 o14 = some r :=
 lift2 (E := E14) h (
 I_cond rfl (
 I_getK (enc := (eInt .i64)) rfl fun x201 =>
 I_getK (enc := eStr) rfl fun x203 =>
 I_check (p := (List.length (List.map eStr o14) + List.length (List.map eStr [x203])) * 16 ≤ 140737488355328 ∧ List.length (List.map eStr o14) + List.length (List.map eStr [x203]) ≤ 4611686018427387904) (by simp only [List.length_map]; exact id) (
 (show Imp E14 (headT P cods H prim 14 18 [] [(0, (.pv (.lst 3 (List.map TypeDecl.enc d0)))), (5, (.pv (.lst 1 (List.map eStr names5)))), (6, (.pv (.lst 1 (List.map (eLst 1 (eInt .u64)) codes6)))), (9, (.row 9)), (12, (.ptr 12 0)), (14, (.row 14)), (34, (.pv (.lst 1 (List.map (eLst 1 (eInt .u64)) v34)))), (35, (.pv (.int .i64 v35))), (36, (.pv (.int .i64 v36))), (53, (.pv (.lst 1 (List.map (eInt .i64) v53)))), (54, (.pv (.int .i64 v54))), (55, (.pv (.int .i64 (IntKind.wrap .i64 (v55 + 1)))))] [(9, (.row 36 2 (List.map Coded.enc o9))), (12, (.box 36 (List.map .pv (Coded.enc o12)))), (14, (.row 9 1 ((List.map eStr o14) ++ (List.map eStr [x203]))))]) (t14_18 d0 names5 codes6 v34 v35 v36 v53 v54 (IntKind.wrap .i64 (v55 + 1)) o9 o12 (o14 ++ [x203])) from fun _ h => by simpa only [h14_18, List.map_append] using q14_18 _ h))) (
 I_call (enc := R46.enc) s46 fun y205 =>
 I_call (enc := R46.enc) s46 fun y207 =>
 I_call (enc := R45.enc) s45 fun y209 =>
 I_check (p := (List.length (List.map Coded.enc o9) + List.length (List.map Coded.enc [(Coded.mk y209 o12.Code)])) * 40 ≤ 140737488355328 ∧ List.length (List.map Coded.enc o9) + List.length (List.map Coded.enc [(Coded.mk y209 o12.Code)]) ≤ 4611686018427387904) (by simp only [List.length_map]; exact id) (
 (show Imp E14 (headT P cods H prim 14 10 [] [(0, (.pv (.lst 3 (List.map TypeDecl.enc d0)))), (5, (.pv (.lst 1 (List.map eStr names5)))), (6, (.pv (.lst 1 (List.map (eLst 1 (eInt .u64)) codes6)))), (9, (.row 9)), (34, (.pv (.lst 1 (List.map (eLst 1 (eInt .u64)) v34)))), (35, (.pv (.int .i64 v35))), (36, (.pv (.int .i64 (IntKind.wrap .i64 (v36 + 1)))))] [(9, (.row 36 2 ((List.map Coded.enc o9) ++ (List.map Coded.enc [(Coded.mk y209 o12.Code)]))))]) (t14_10 d0 names5 codes6 v34 v35 (IntKind.wrap .i64 (v36 + 1)) (o9 ++ [(Coded.mk y209 o12.Code)])) from fun _ h => by simpa only [h14_10, List.map_append] using q14_10 _ h))))
 (by kernel_rfl) (fun h => head_round h)
theorem e15 (d0 : List TypeDecl) {r : ((List Coded) × Int)}
 (h : (
 Option.bind (f32 d0) fun y201 =>
 bif (y201 != 0) then (
 some (([] : List Coded), y201))
 else (
 Option.bind (f52 d0) fun y203 =>
 t15_7 d0 y203 0 ([] : List (List Int))) : Option ((List Coded) × Int)) = some r) :
 f15 d0 = some r :=
 lift2 (E := E15) h (
 I_call (enc := R32.enc) s32 fun y201 =>
 I_cond rfl (
 I_some rfl) (
 I_call (enc := R52.enc) s52 fun y203 =>
 q15_7))
 (by kernel_rfl) (fun h => run_body (C := cods) rfl h)
theorem k15_7 (d0 : List TypeDecl) (all5 : List (List UInt8)) (i7 : Int) (o6 : List (List Int)) {r : ((List Coded) × Int)}
 (h : (
 bif (decide (i7 < (List.length all5 : Int))) then (
 getK all5 i7 fun x201 =>
 Option.bind (f53 d0 all5 x201) fun y203 =>
 check ((List.length o6 + List.length [y203]) * 24 ≤ 140737488355328 ∧ List.length o6 + List.length [y203] ≤ 4611686018427387904) (
 t15_7 d0 all5 (IntKind.wrap .i64 (i7 + 1)) (o6 ++ [y203])))
 else (
 Option.bind (f54 o6) fun y205 =>
 Option.bind (f54 o6) fun y207 =>
 bif (decide ((List.length y207 : Int) > 256)) then (
 some (([] : List Coded), 7))
 else (
 t15_15 d0 all5 o6 y207 ([] : List Coded) 0)) : Option ((List Coded) × Int)) = some r) :
 t15_7 d0 all5 i7 o6 = some r :=
 lift2 (E := E15) h (
 I_cond (c := (decide (i7 < (List.length (List.map eStr all5) : Int)))) (by simp only [List.length_map]) (
 I_getK (enc := eStr) rfl fun x201 =>
 I_call (enc := R53.enc) s53 fun y203 =>
 I_check (p := (List.length (List.map (eLst 1 (eInt .u64)) o6) + List.length (List.map (eLst 1 (eInt .u64)) [y203])) * 24 ≤ 140737488355328 ∧ List.length (List.map (eLst 1 (eInt .u64)) o6) + List.length (List.map (eLst 1 (eInt .u64)) [y203]) ≤ 4611686018427387904) (by simp only [List.length_map]; exact id) (
 (show Imp E15 (headT P cods H prim 15 7 [] [(0, (.pv (.lst 3 (List.map TypeDecl.enc d0)))), (5, (.pv (.lst 1 (List.map eStr all5)))), (6, (.row 6)), (7, (.pv (.int .i64 (IntKind.wrap .i64 (i7 + 1)))))] [(6, (.row 31 1 ((List.map (eLst 1 (eInt .u64)) o6) ++ (List.map (eLst 1 (eInt .u64)) [y203]))))]) (t15_7 d0 all5 (IntKind.wrap .i64 (i7 + 1)) (o6 ++ [y203])) from fun _ h => by simpa only [h15_7, List.map_append] using q15_7 _ h))) (
 I_call (enc := R54.enc) s54 fun y205 =>
 I_call (enc := R54.enc) s54 fun y207 =>
 I_cond (c := (decide ((List.length (List.map (eLst 1 (eInt .u64)) y207) : Int) > 256))) (by simp only [List.length_map]) (
 I_some rfl) (
 q15_15)))
 (by kernel_rfl) (fun h => head_round h)
theorem k15_15 (d0 : List TypeDecl) (all5 : List (List UInt8)) (codes6 : List (List Int)) (f8 : List (List Int)) (out9 : List Coded) (i10 : Int) {r : ((List Coded) × Int)}
 (h : (
 bif (decide (i10 < (List.length f8 : Int))) then (
 getK f8 i10 fun x201 =>
 Option.bind (f55 d0 all5 codes6 x201) fun y203 =>
 getK f8 i10 fun x205 =>
 t15_19 d0 all5 codes6 f8 out9 i10 (List.length out9 : Int) (Coded.mk y203 x205))
 else (
 some (out9, 0)) : Option ((List Coded) × Int)) = some r) :
 t15_15 d0 all5 codes6 f8 out9 i10 = some r :=
 lift2 (E := E15) h (
 I_cond (c := (decide (i10 < (List.length (List.map (eLst 1 (eInt .u64)) f8) : Int)))) (by simp only [List.length_map]) (
 I_getK (enc := (eLst 1 (eInt .u64))) rfl fun x201 =>
 I_call (enc := R55.enc) s55 fun y203 =>
 I_getK (enc := (eLst 1 (eInt .u64))) rfl fun x205 =>
 (show Imp E15 (headT P cods H prim 15 19 [] [(0, (.pv (.lst 3 (List.map TypeDecl.enc d0)))), (5, (.pv (.lst 1 (List.map eStr all5)))), (6, (.pv (.lst 1 (List.map (eLst 1 (eInt .u64)) codes6)))), (8, (.pv (.lst 1 (List.map (eLst 1 (eInt .u64)) f8)))), (9, (.pv (.lst 2 (List.map Coded.enc out9)))), (10, (.pv (.int .i64 i10))), (11, (.ptr 11 0)), (12, (.pv (.int .i64 (List.length (List.map Coded.enc out9) : Int))))] [(11, (.box 36 (List.map .pv (Coded.enc (Coded.mk y203 x205)))))]) (t15_19 d0 all5 codes6 f8 out9 i10 (List.length out9 : Int) (Coded.mk y203 x205)) from fun _ h => by simpa only [h15_19, List.length_map] using q15_19 _ h)) (
 I_some rfl))
 (by kernel_rfl) (fun h => head_round h)
theorem k15_19 (d0 : List TypeDecl) (all5 : List (List UInt8)) (codes6 : List (List Int)) (f8 : List (List Int)) (out9 : List Coded) (i10 : Int) (v12 : Int) (o11 : Coded) {r : ((List Coded) × Int)}
 (h : (
 bif (decide (v12 > 0)) then (
 getK out9 (IntKind.wrap .i64 (v12 - 1)) fun x201 =>
 Option.bind (f56 o11 x201) fun y203 =>
 bif y203 then (
 t15_19 d0 all5 codes6 f8 out9 i10 (IntKind.wrap .i64 (v12 - 1)) o11)
 else (
 check (0 ≤ v12 ∧ v12 ≤ (List.length out9 : Nat)) (
 check ((List.length ([] : List Coded) + List.length ((out9.take (Int.toNat v12)).drop 0)) * 40 ≤ 140737488355328 ∧ List.length ([] : List Coded) + List.length ((out9.take (Int.toNat v12)).drop 0) ≤ 4611686018427387904) (
 check ((List.length (([] : List Coded) ++ ((out9.take (Int.toNat v12)).drop 0)) + List.length [o11]) * 40 ≤ 140737488355328 ∧ List.length (([] : List Coded) ++ ((out9.take (Int.toNat v12)).drop 0)) + List.length [o11] ≤ 4611686018427387904) (
 check (0 ≤ v12 ∧ v12 ≤ (List.length out9 : Nat)) (
 check ((List.length ((([] : List Coded) ++ ((out9.take (Int.toNat v12)).drop 0)) ++ [o11]) + List.length ((out9.take (List.length out9)).drop (Int.toNat v12))) * 40 ≤ 140737488355328 ∧ List.length ((([] : List Coded) ++ ((out9.take (Int.toNat v12)).drop 0)) ++ [o11]) + List.length ((out9.take (List.length out9)).drop (Int.toNat v12)) ≤ 4611686018427387904) (
 t15_15 d0 all5 codes6 f8 (((([] : List Coded) ++ ((out9.take (Int.toNat v12)).drop 0)) ++ [o11]) ++ ((out9.take (List.length out9)).drop (Int.toNat v12))) (IntKind.wrap .i64 (i10 + 1)))))))))
 else (
 check (0 ≤ v12 ∧ v12 ≤ (List.length out9 : Nat)) (
 check ((List.length ([] : List Coded) + List.length ((out9.take (Int.toNat v12)).drop 0)) * 40 ≤ 140737488355328 ∧ List.length ([] : List Coded) + List.length ((out9.take (Int.toNat v12)).drop 0) ≤ 4611686018427387904) (
 check ((List.length (([] : List Coded) ++ ((out9.take (Int.toNat v12)).drop 0)) + List.length [o11]) * 40 ≤ 140737488355328 ∧ List.length (([] : List Coded) ++ ((out9.take (Int.toNat v12)).drop 0)) + List.length [o11] ≤ 4611686018427387904) (
 check (0 ≤ v12 ∧ v12 ≤ (List.length out9 : Nat)) (
 check ((List.length ((([] : List Coded) ++ ((out9.take (Int.toNat v12)).drop 0)) ++ [o11]) + List.length ((out9.take (List.length out9)).drop (Int.toNat v12))) * 40 ≤ 140737488355328 ∧ List.length ((([] : List Coded) ++ ((out9.take (Int.toNat v12)).drop 0)) ++ [o11]) + List.length ((out9.take (List.length out9)).drop (Int.toNat v12)) ≤ 4611686018427387904) (
 t15_15 d0 all5 codes6 f8 (((([] : List Coded) ++ ((out9.take (Int.toNat v12)).drop 0)) ++ [o11]) ++ ((out9.take (List.length out9)).drop (Int.toNat v12))) (IntKind.wrap .i64 (i10 + 1)))))))) : Option ((List Coded) × Int)) = some r) :
 t15_19 d0 all5 codes6 f8 out9 i10 v12 o11 = some r :=
 lift2 (E := E15) h (
 I_cond rfl (
 I_getK (enc := Coded.enc) rfl fun x201 =>
 I_call (enc := R56.enc) s56 fun y203 =>
 I_cond rfl (
 q15_19) (
 I_check (p := 0 ≤ v12 ∧ v12 ≤ (List.length (List.map Coded.enc out9) : Nat)) (by simp only [List.length_map]; exact id) (
 I_check (p := (List.length (List.map Coded.enc []) + List.length (((List.map Coded.enc out9).take (Int.toNat v12)).drop 0)) * 40 ≤ 140737488355328 ∧ List.length (List.map Coded.enc []) + List.length (((List.map Coded.enc out9).take (Int.toNat v12)).drop 0) ≤ 4611686018427387904) (by simp only [List.length_map, List.map_take, List.map_drop, List.length_take, List.length_drop]; exact id) (
 I_check (p := (List.length ((List.map Coded.enc []) ++ (((List.map Coded.enc out9).take (Int.toNat v12)).drop 0)) + List.length (List.map Coded.enc [o11])) * 40 ≤ 140737488355328 ∧ List.length ((List.map Coded.enc []) ++ (((List.map Coded.enc out9).take (Int.toNat v12)).drop 0)) + List.length (List.map Coded.enc [o11]) ≤ 4611686018427387904) (by simp only [List.length_map, List.map_append, List.length_append, List.map_take, List.map_drop, List.length_take, List.length_drop]; exact id) (
 I_check (p := 0 ≤ v12 ∧ v12 ≤ (List.length (List.map Coded.enc out9) : Nat)) (by simp only [List.length_map]; exact id) (
 I_check (p := (List.length (((List.map Coded.enc []) ++ (((List.map Coded.enc out9).take (Int.toNat v12)).drop 0)) ++ (List.map Coded.enc [o11])) + List.length (((List.map Coded.enc out9).take (List.length (List.map Coded.enc out9))).drop (Int.toNat v12))) * 40 ≤ 140737488355328 ∧ List.length (((List.map Coded.enc []) ++ (((List.map Coded.enc out9).take (Int.toNat v12)).drop 0)) ++ (List.map Coded.enc [o11])) + List.length (((List.map Coded.enc out9).take (List.length (List.map Coded.enc out9))).drop (Int.toNat v12)) ≤ 4611686018427387904) (by simp only [List.length_map, List.map_append, List.length_append, List.map_take, List.map_drop, List.length_take, List.length_drop]; exact id) (
 (show Imp E15 (headT P cods H prim 15 15 [] [(0, (.pv (.lst 3 (List.map TypeDecl.enc d0)))), (5, (.pv (.lst 1 (List.map eStr all5)))), (6, (.pv (.lst 1 (List.map (eLst 1 (eInt .u64)) codes6)))), (8, (.pv (.lst 1 (List.map (eLst 1 (eInt .u64)) f8)))), (9, (.pv (.lst 2 ((((List.map Coded.enc []) ++ (((List.map Coded.enc out9).take (Int.toNat v12)).drop 0)) ++ (List.map Coded.enc [o11])) ++ (((List.map Coded.enc out9).take (List.length (List.map Coded.enc out9))).drop (Int.toNat v12)))))), (10, (.pv (.int .i64 (IntKind.wrap .i64 (i10 + 1)))))] []) (t15_15 d0 all5 codes6 f8 (((([] : List Coded) ++ ((out9.take (Int.toNat v12)).drop 0)) ++ [o11]) ++ ((out9.take (List.length out9)).drop (Int.toNat v12))) (IntKind.wrap .i64 (i10 + 1))) from fun _ h => by simpa only [h15_15, List.length_map, List.map_append, List.length_append, List.map_take, List.map_drop, List.length_take, List.length_drop] using q15_15 _ h)))))))) (
 I_check (p := 0 ≤ v12 ∧ v12 ≤ (List.length (List.map Coded.enc out9) : Nat)) (by simp only [List.length_map]; exact id) (
 I_check (p := (List.length (List.map Coded.enc []) + List.length (((List.map Coded.enc out9).take (Int.toNat v12)).drop 0)) * 40 ≤ 140737488355328 ∧ List.length (List.map Coded.enc []) + List.length (((List.map Coded.enc out9).take (Int.toNat v12)).drop 0) ≤ 4611686018427387904) (by simp only [List.length_map, List.map_take, List.map_drop, List.length_take, List.length_drop]; exact id) (
 I_check (p := (List.length ((List.map Coded.enc []) ++ (((List.map Coded.enc out9).take (Int.toNat v12)).drop 0)) + List.length (List.map Coded.enc [o11])) * 40 ≤ 140737488355328 ∧ List.length ((List.map Coded.enc []) ++ (((List.map Coded.enc out9).take (Int.toNat v12)).drop 0)) + List.length (List.map Coded.enc [o11]) ≤ 4611686018427387904) (by simp only [List.length_map, List.map_append, List.length_append, List.map_take, List.map_drop, List.length_take, List.length_drop]; exact id) (
 I_check (p := 0 ≤ v12 ∧ v12 ≤ (List.length (List.map Coded.enc out9) : Nat)) (by simp only [List.length_map]; exact id) (
 I_check (p := (List.length (((List.map Coded.enc []) ++ (((List.map Coded.enc out9).take (Int.toNat v12)).drop 0)) ++ (List.map Coded.enc [o11])) + List.length (((List.map Coded.enc out9).take (List.length (List.map Coded.enc out9))).drop (Int.toNat v12))) * 40 ≤ 140737488355328 ∧ List.length (((List.map Coded.enc []) ++ (((List.map Coded.enc out9).take (Int.toNat v12)).drop 0)) ++ (List.map Coded.enc [o11])) + List.length (((List.map Coded.enc out9).take (List.length (List.map Coded.enc out9))).drop (Int.toNat v12)) ≤ 4611686018427387904) (by simp only [List.length_map, List.map_append, List.length_append, List.map_take, List.map_drop, List.length_take, List.length_drop]; exact id) (
 (show Imp E15 (headT P cods H prim 15 15 [] [(0, (.pv (.lst 3 (List.map TypeDecl.enc d0)))), (5, (.pv (.lst 1 (List.map eStr all5)))), (6, (.pv (.lst 1 (List.map (eLst 1 (eInt .u64)) codes6)))), (8, (.pv (.lst 1 (List.map (eLst 1 (eInt .u64)) f8)))), (9, (.pv (.lst 2 ((((List.map Coded.enc []) ++ (((List.map Coded.enc out9).take (Int.toNat v12)).drop 0)) ++ (List.map Coded.enc [o11])) ++ (((List.map Coded.enc out9).take (List.length (List.map Coded.enc out9))).drop (Int.toNat v12)))))), (10, (.pv (.int .i64 (IntKind.wrap .i64 (i10 + 1)))))] []) (t15_15 d0 all5 codes6 f8 (((([] : List Coded) ++ ((out9.take (Int.toNat v12)).drop 0)) ++ [o11]) ++ ((out9.take (List.length out9)).drop (Int.toNat v12))) (IntKind.wrap .i64 (i10 + 1))) from fun _ h => by simpa only [h15_15, List.length_map, List.map_append, List.length_append, List.map_take, List.map_drop, List.length_take, List.length_drop] using q15_15 _ h))))))))
 (by kernel_rfl) (fun h => head_round h)
theorem e18 (l0 : List Coded) (code1 : List Int) {r : Int}
 (h : (
 Option.bind (f58 l0 code1) fun y201 =>
 some y201 : Option Int) = some r) :
 f18 l0 code1 = some r :=
 lift2 (E := E18) h (
 I_call (enc := R58.enc) s58 fun y201 =>
 I_some rfl)
 (by kernel_rfl) (fun h => run_body (C := cods) rfl h)
theorem e20 (l0 : List Coded) (i1 : Int) (j2 : Int) {r : Int}
 (h : (
 getK l0 i1 fun x201 =>
 getK l0 j2 fun x203 =>
 Option.bind (f29 x201.Code x203.Code) fun y205 =>
 Option.bind (f18 l0 y205) fun y207 =>
 some y207 : Option Int) = some r) :
 f20 l0 i1 j2 = some r :=
 lift2 (E := E20) h (
 I_getK (enc := Coded.enc) rfl fun x201 =>
 I_getK (enc := Coded.enc) rfl fun x203 =>
 I_call (enc := R29.enc) s29 fun y205 =>
 I_call (enc := R18.enc) s18 fun y207 =>
 I_some rfl)
 (by kernel_rfl) (fun h => run_body (C := cods) rfl h)
theorem e24 (l0 : List Coded) (i1 : Int) (j2 : Int) {r : Bool}
 (h : (
 getK l0 j2 fun x201 =>
 getK l0 i1 fun x203 =>
 Option.bind (f63 x201.Code x203.Code) fun y205 =>
 some y205 : Option Bool) = some r) :
 f24 l0 i1 j2 = some r :=
 lift2 (E := E24) h (
 I_getK (enc := Coded.enc) rfl fun x201 =>
 I_getK (enc := Coded.enc) rfl fun x203 =>
 I_call (enc := R63.enc) s63 fun y205 =>
 I_some rfl)
 (by kernel_rfl) (fun h => run_body (C := cods) rfl h)
theorem e29 (a0 : List Int) (b1 : List Int) {r : (List Int)}
 (h : (
 check (0 ≤ ((if (List.length b1 : Int) < (List.length a0 : Int) then (List.length b1 : Int) else (List.length a0 : Int)) : Int) ∧ ((if (List.length b1 : Int) < (List.length a0 : Int) then (List.length b1 : Int) else (List.length a0 : Int)) : Int) ≤ (if (List.length b1 : Int) < (List.length a0 : Int) then (List.length b1 : Int) else (List.length a0 : Int)) ∧ 8 * Int.toNat (if (List.length b1 : Int) < (List.length a0 : Int) then (List.length b1 : Int) else (List.length a0 : Int)) ≤ 281474976710656 ∧ ((if (List.length b1 : Int) < (List.length a0 : Int) then (List.length b1 : Int) else (List.length a0 : Int)) : Int) ≤ 9223372036854775807) (
 t29_3 a0 b1 (List.length (List.replicate (Int.toNat (if (List.length b1 : Int) < (List.length a0 : Int) then (List.length b1 : Int) else (List.length a0 : Int))) 0) : Int) 0 (List.replicate (Int.toNat (if (List.length b1 : Int) < (List.length a0 : Int) then (List.length b1 : Int) else (List.length a0 : Int))) 0)) : Option (List Int)) = some r) :
 f29 a0 b1 = some r :=
 lift2 (E := E29) h (
 I_check (p := 0 ≤ ((if (List.length (List.map (eInt .u64) b1) : Int) < (List.length (List.map (eInt .u64) a0) : Int) then (List.length (List.map (eInt .u64) b1) : Int) else (List.length (List.map (eInt .u64) a0) : Int)) : Int) ∧ ((if (List.length (List.map (eInt .u64) b1) : Int) < (List.length (List.map (eInt .u64) a0) : Int) then (List.length (List.map (eInt .u64) b1) : Int) else (List.length (List.map (eInt .u64) a0) : Int)) : Int) ≤ (if (List.length (List.map (eInt .u64) b1) : Int) < (List.length (List.map (eInt .u64) a0) : Int) then (List.length (List.map (eInt .u64) b1) : Int) else (List.length (List.map (eInt .u64) a0) : Int)) ∧ 8 * Int.toNat (if (List.length (List.map (eInt .u64) b1) : Int) < (List.length (List.map (eInt .u64) a0) : Int) then (List.length (List.map (eInt .u64) b1) : Int) else (List.length (List.map (eInt .u64) a0) : Int)) ≤ 281474976710656 ∧ ((if (List.length (List.map (eInt .u64) b1) : Int) < (List.length (List.map (eInt .u64) a0) : Int) then (List.length (List.map (eInt .u64) b1) : Int) else (List.length (List.map (eInt .u64) a0) : Int)) : Int) ≤ 9223372036854775807) (by simp only [List.length_map]; exact id) (
 (show Imp E29 (headT P cods H prim 29 3 [] [(0, (.pv (.lst 1 (List.map (eInt .u64) a0)))), (1, (.pv (.lst 1 (List.map (eInt .u64) b1)))), (5, (.row 12)), (14, (.pv (.int .i64 (List.length (List.replicate (Int.toNat (if (List.length (List.map (eInt .u64) b1) : Int) < (List.length (List.map (eInt .u64) a0) : Int) then (List.length (List.map (eInt .u64) b1) : Int) else (List.length (List.map (eInt .u64) a0) : Int))) ((eInt .u64) 0)) : Int)))), (15, (.pv (.int .i64 0)))] [(12, (.row 37 1 (List.replicate (Int.toNat (if (List.length (List.map (eInt .u64) b1) : Int) < (List.length (List.map (eInt .u64) a0) : Int) then (List.length (List.map (eInt .u64) b1) : Int) else (List.length (List.map (eInt .u64) a0) : Int))) ((eInt .u64) 0))))]) (t29_3 a0 b1 (List.length (List.replicate (Int.toNat (if (List.length b1 : Int) < (List.length a0 : Int) then (List.length b1 : Int) else (List.length a0 : Int))) 0) : Int) 0 (List.replicate (Int.toNat (if (List.length b1 : Int) < (List.length a0 : Int) then (List.length b1 : Int) else (List.length a0 : Int))) 0)) from fun _ h => by simpa only [h29_3, List.length_map, List.map_replicate, List.length_replicate] using q29_3 _ h)))
 (by kernel_rfl) (fun h => run_body (C := cods) rfl h)
theorem k29_3 (a0 : List Int) (b1 : List Int) (v14 : Int) (v15 : Int) (o12 : List Int) {r : (List Int)}
 (h : (
 bif (decide (v15 < v14)) then (
 getK a0 v15 fun x201 =>
 getK b1 v15 fun x203 =>
 check (0 ≤ v15 ∧ Int.toNat v15 < List.length o12) (
 getN o12 (Int.toNat v15) fun x205 =>
 t29_3 a0 b1 v14 (IntKind.wrap .i64 (v15 + 1)) (o12.set (Int.toNat v15) (IntKind.wrap .u64 ((BitVec.ofInt (IntKind.bits .u64) x201 &&& BitVec.ofInt (IntKind.bits .u64) x203).toNat : Int)))))
 else (
 Option.bind (f68 o12) fun y207 =>
 Option.bind (f68 o12) fun y209 =>
 some y209) : Option (List Int)) = some r) :
 t29_3 a0 b1 v14 v15 o12 = some r :=
 lift2 (E := E29) h (
 I_cond rfl (
 I_getK (enc := (eInt .u64)) rfl fun x201 =>
 I_getK (enc := (eInt .u64)) rfl fun x203 =>
 I_check (p := 0 ≤ v15 ∧ Int.toNat v15 < List.length (List.map (eInt .u64) o12)) (by simp only [List.length_map]; exact id) (
 I_getN (enc := (eInt .u64)) rfl fun x205 =>
 (show Imp E29 (headT P cods H prim 29 3 [] [(0, (.pv (.lst 1 (List.map (eInt .u64) a0)))), (1, (.pv (.lst 1 (List.map (eInt .u64) b1)))), (5, (.row 12)), (14, (.pv (.int .i64 v14))), (15, (.pv (.int .i64 (IntKind.wrap .i64 (v15 + 1)))))] [(12, (.row 37 1 ((List.map (eInt .u64) o12).set (Int.toNat v15) ((eInt .u64) (IntKind.wrap .u64 ((BitVec.ofInt (IntKind.bits .u64) x201 &&& BitVec.ofInt (IntKind.bits .u64) x203).toNat : Int))))))]) (t29_3 a0 b1 v14 (IntKind.wrap .i64 (v15 + 1)) (o12.set (Int.toNat v15) (IntKind.wrap .u64 ((BitVec.ofInt (IntKind.bits .u64) x201 &&& BitVec.ofInt (IntKind.bits .u64) x203).toNat : Int)))) from fun _ h => by simpa only [h29_3, List.map_set] using q29_3 _ h))) (
 I_call (enc := R68.enc) s68 fun y207 =>
 I_call (enc := R68.enc) s68 fun y209 =>
 I_some rfl))
 (by kernel_rfl) (fun h => head_round h)
theorem e30 (b0 : List Int) {r : Int}
 (h : (
 t30_3 0 b0 (List.length b0 : Int) 0 : Option Int) = some r) :
 f30 b0 = some r :=
 lift2 (E := E30) h (
 (show Imp E30 (headT P cods H prim 30 3 [] [(3, (.pv (.int .i64 0))), (6, (.pv (.lst 1 (List.map (eInt .u64) b0)))), (7, (.pv (.int .i64 (List.length (List.map (eInt .u64) b0) : Int)))), (8, (.pv (.int .i64 0)))] []) (t30_3 0 b0 (List.length b0 : Int) 0) from fun _ h => by simpa only [h30_3, List.length_map] using q30_3 _ h))
 (by kernel_rfl) (fun h => run_body (C := cods) rfl h)
theorem k30_3 (n3 : Int) (v6 : List Int) (v7 : Int) (v8 : Int) {r : Int}
 (h : (
 bif (decide (v8 < v7)) then (
 getK v6 v8 fun x201 =>
 Option.bind (f69 x201) fun y203 =>
 t30_3 (IntKind.wrap .i64 (n3 + y203)) v6 v7 (IntKind.wrap .i64 (v8 + 1)))
 else (
 some n3) : Option Int) = some r) :
 t30_3 n3 v6 v7 v8 = some r :=
 lift2 (E := E30) h (
 I_cond rfl (
 I_getK (enc := (eInt .u64)) rfl fun x201 =>
 I_call (enc := R69.enc) s69 fun y203 =>
 q30_3) (
 I_some rfl))
 (by kernel_rfl) (fun h => head_round h)
theorem e31 (a0 : List Int) (b1 : List Int) {r : Bool}
 (h : (
 Option.bind (f63 a0 b1) fun y201 =>
 bif y201 then (
 Option.bind (f63 b1 a0) fun y203 =>
 some y203)
 else (
 some false) : Option Bool) = some r) :
 f31 a0 b1 = some r :=
 lift2 (E := E31) h (
 I_call (enc := R63.enc) s63 fun y201 =>
 I_cond rfl (
 I_call (enc := R63.enc) s63 fun y203 =>
 I_some rfl) (
 I_some rfl))
 (by kernel_rfl) (fun h => run_body (C := cods) rfl h)
theorem e32 (d0 : List TypeDecl) {r : Int}
 (h : (
 Option.bind (f70 d0) fun y201 =>
 bif (y201 != 0) then (
 some y201)
 else (
 Option.bind (f71 d0) fun y203 =>
 bif (y203 != 0) then (
 some y203)
 else (
 Option.bind (f72 d0) fun y205 =>
 bif (y205 != 0) then (
 some y205)
 else (
 t32_12 d0 0 0))) : Option Int) = some r) :
 f32 d0 = some r :=
 lift2 (E := E32) h (
 I_call (enc := R70.enc) s70 fun y201 =>
 I_cond rfl (
 I_some rfl) (
 I_call (enc := R71.enc) s71 fun y203 =>
 I_cond rfl (
 I_some rfl) (
 I_call (enc := R72.enc) s72 fun y205 =>
 I_cond rfl (
 I_some rfl) (
 q32_12))))
 (by kernel_rfl) (fun h => run_body (C := cods) rfl h)
theorem k32_12 (d0 : List TypeDecl) (n6 : Int) (i7 : Int) {r : Int}
 (h : (
 bif (decide (i7 < (List.length d0 : Int))) then (
 getK d0 i7 fun x201 =>
 bif ((List.length x201.Supers : Int) == 0) then (
 t32_12 d0 (IntKind.wrap .i64 (n6 + 1)) (IntKind.wrap .i64 (i7 + 1)))
 else (
 t32_12 d0 n6 (IntKind.wrap .i64 (i7 + 1))))
 else (
 bif (n6 != 1) then (
 some 1)
 else (
 Option.bind (f73 d0) fun y203 =>
 bif (decide ((List.length y203 : Int) < (List.length d0 : Int))) then (
 some 6)
 else (
 some 0))) : Option Int) = some r) :
 t32_12 d0 n6 i7 = some r :=
 lift2 (E := E32) h (
 I_cond (c := (decide (i7 < (List.length (List.map TypeDecl.enc d0) : Int)))) (by simp only [List.length_map]) (
 I_getK (enc := TypeDecl.enc) rfl fun x201 =>
 I_cond (c := ((List.length (List.map eStr x201.Supers) : Int) == 0)) (by simp only [List.length_map]) (
 q32_12) (
 q32_12)) (
 I_cond rfl (
 I_some rfl) (
 I_call (enc := R73.enc) s73 fun y203 =>
 I_cond (c := (decide ((List.length (List.map eStr y203) : Int) < (List.length (List.map TypeDecl.enc d0) : Int)))) (by simp only [List.length_map]) (
 I_some rfl) (
 I_some rfl))))
 (by kernel_rfl) (fun h => head_round h)
theorem e35 (d0 : List TypeDecl) (name1 : List UInt8) {r : (List (List UInt8))}
 (h : (
 Option.bind (f75 d0) fun y201 =>
 Option.bind (f74 y201 name1) fun y203 =>
 some y203 : Option (List (List UInt8))) = some r) :
 f35 d0 name1 = some r :=
 lift2 (E := E35) h (
 I_call (enc := R75.enc) s75 fun y201 =>
 I_call (enc := R74.enc) s74 fun y203 =>
 I_some rfl)
 (by kernel_rfl) (fun h => run_body (C := cods) rfl h)
theorem e36 (l0 : List Coded) (name1 : List UInt8) {r : Int}
 (h : (
 t36_2 l0 name1 (List.length l0 : Int) 0 : Option Int) = some r) :
 f36 l0 name1 = some r :=
 lift2 (E := E36) h (
 (show Imp E36 (headT P cods H prim 36 2 [] [(0, (.pv (.lst 2 (List.map Coded.enc l0)))), (1, (.pv (.str name1))), (7, (.pv (.int .i64 (List.length (List.map Coded.enc l0) : Int)))), (8, (.pv (.int .i64 0)))] []) (t36_2 l0 name1 (List.length l0 : Int) 0) from fun _ h => by simpa only [h36_2, List.length_map] using q36_2 _ h))
 (by kernel_rfl) (fun h => run_body (C := cods) rfl h)
theorem k36_2 (l0 : List Coded) (name1 : List UInt8) (v7 : Int) (v8 : Int) {r : Int}
 (h : (
 bif (decide (v8 < v7)) then (
 getK l0 v8 fun x201 =>
 bif (x201.Name == name1) then (
 some v8)
 else (
 t36_2 l0 name1 v7 (IntKind.wrap .i64 (v8 + 1))))
 else (
 some (-1)) : Option Int) = some r) :
 t36_2 l0 name1 v7 v8 = some r :=
 lift2 (E := E36) h (
 I_cond rfl (
 I_getK (enc := Coded.enc) rfl fun x201 =>
 I_cond rfl (
 I_some rfl) (
 q36_2)) (
 I_some rfl))
 (by kernel_rfl) (fun h => head_round h)
theorem e37 (l0 : List (List UInt8)) (s1 : List UInt8) {r : Bool}
 (h : (
 t37_2 l0 s1 0 : Option Bool) = some r) :
 f37 l0 s1 = some r :=
 lift2 (E := E37) h (
 q37_2)
 (by kernel_rfl) (fun h => run_body (C := cods) rfl h)
theorem k37_2 (l0 : List (List UInt8)) (s1 : List UInt8) (i5 : Int) {r : Bool}
 (h : (
 bif (decide (i5 < (List.length l0 : Int))) then (
 getK l0 i5 fun x201 =>
 bif (x201 == s1) then (
 some true)
 else (
 t37_2 l0 s1 (IntKind.wrap .i64 (i5 + 1))))
 else (
 some false) : Option Bool) = some r) :
 t37_2 l0 s1 i5 = some r :=
 lift2 (E := E37) h (
 I_cond (c := (decide (i5 < (List.length (List.map eStr l0) : Int)))) (by simp only [List.length_map]) (
 I_getK (enc := eStr) rfl fun x201 =>
 I_cond rfl (
 I_some rfl) (
 q37_2)) (
 I_some rfl))
 (by kernel_rfl) (fun h => head_round h)
theorem e38 (d0 : List TypeDecl) {r : Bool}
 (h : (
 bif (decide ((List.length d0 : Int) > 16)) then (
 some false)
 else (
 t38_4 d0 0) : Option Bool) = some r) :
 f38 d0 = some r :=
 lift2 (E := E38) h (
 I_cond (c := (decide ((List.length (List.map TypeDecl.enc d0) : Int) > 16))) (by simp only [List.length_map]) (
 I_some rfl) (
 q38_4))
 (by kernel_rfl) (fun h => run_body (C := cods) rfl h)
theorem k38_4 (d0 : List TypeDecl) (i3 : Int) {r : Bool}
 (h : (
 bif (decide (i3 < (List.length d0 : Int))) then (
 getK d0 i3 fun x201 =>
 bif (decide ((List.length x201.Supers : Int) > 20)) then (
 some false)
 else (
 getK d0 i3 fun x203 =>
 bif (decide ((List.length x203.Feats : Int) > 20)) then (
 some false)
 else (
 t38_4 d0 (IntKind.wrap .i64 (i3 + 1)))))
 else (
 some true) : Option Bool) = some r) :
 t38_4 d0 i3 = some r :=
 lift2 (E := E38) h (
 I_cond (c := (decide (i3 < (List.length (List.map TypeDecl.enc d0) : Int)))) (by simp only [List.length_map]) (
 I_getK (enc := TypeDecl.enc) rfl fun x201 =>
 I_cond (c := (decide ((List.length (List.map eStr x201.Supers) : Int) > 20))) (by simp only [List.length_map]) (
 I_some rfl) (
 I_getK (enc := TypeDecl.enc) rfl fun x203 =>
 I_cond (c := (decide ((List.length (List.map FeatDecl.enc x203.Feats) : Int) > 20))) (by simp only [List.length_map]) (
 I_some rfl) (
 q38_4))) (
 I_some rfl))
 (by kernel_rfl) (fun h => head_round h)
theorem e39 (d0 : List TypeDecl) {r : Int}
 (h : (
 Option.bind (f76 d0) fun y201 =>
 bif y201 then (
 some 7)
 else (
 Option.bind (f77 d0) fun y203 =>
 bif (y203 != 0) then (
 some y203)
 else (
 Option.bind (f78 d0) fun y205 =>
 bif (y205 != 0) then (
 some y205)
 else (
 t39_11 d0 0 d0 (List.length d0 : Int) 0))) : Option Int) = some r) :
 f39 d0 = some r :=
 lift2 (E := E39) h (
 I_call (enc := R76.enc) s76 fun y201 =>
 I_cond rfl (
 I_some rfl) (
 I_call (enc := R77.enc) s77 fun y203 =>
 I_cond rfl (
 I_some rfl) (
 I_call (enc := R78.enc) s78 fun y205 =>
 I_cond rfl (
 I_some rfl) (
 (show Imp E39 (headT P cods H prim 39 11 [] [(0, (.pv (.lst 3 (List.map TypeDecl.enc d0)))), (5, (.pv (.int .i64 0))), (20, (.pv (.lst 3 (List.map TypeDecl.enc d0)))), (21, (.pv (.int .i64 (List.length (List.map TypeDecl.enc d0) : Int)))), (22, (.pv (.int .i64 0)))] []) (t39_11 d0 0 d0 (List.length d0 : Int) 0) from fun _ h => by simpa only [h39_11, List.length_map] using q39_11 _ h)))))
 (by kernel_rfl) (fun h => run_body (C := cods) rfl h)
theorem k39_11 (d0 : List TypeDecl) (tops5 : Int) (v20 : List TypeDecl) (v21 : Int) (v22 : Int) {r : Int}
 (h : (
 bif (decide (v22 < v21)) then (
 getK v20 v22 fun x201 =>
 bif ((List.length x201.Supers : Int) == 0) then (
 t39_11 d0 (IntKind.wrap .i64 (tops5 + 1)) v20 v21 (IntKind.wrap .i64 (v22 + 1)))
 else (
 t39_11 d0 tops5 v20 v21 (IntKind.wrap .i64 (v22 + 1))))
 else (
 bif (tops5 != 1) then (
 some 1)
 else (
 Option.bind (f79 d0) fun y203 =>
 bif (decide ((List.length y203 : Int) < (List.length d0 : Int))) then (
 some 6)
 else (
 some 0))) : Option Int) = some r) :
 t39_11 d0 tops5 v20 v21 v22 = some r :=
 lift2 (E := E39) h (
 I_cond rfl (
 I_getK (enc := TypeDecl.enc) rfl fun x201 =>
 I_cond (c := ((List.length (List.map eStr x201.Supers) : Int) == 0)) (by simp only [List.length_map]) (
 q39_11) (
 q39_11)) (
 I_cond rfl (
 I_some rfl) (
 I_call (enc := R79.enc) s79 fun y203 =>
 I_cond (c := (decide ((List.length (List.map eStr y203) : Int) < (List.length (List.map TypeDecl.enc d0) : Int)))) (by simp only [List.length_map]) (
 I_some rfl) (
 I_some rfl))))
 (by kernel_rfl) (fun h => head_round h)
theorem e40 (d0 : List TypeDecl) {r : ((List (List UInt8)) × (List (List Int)))}
 (h : (
 t40_3 d0 d0 (List.length d0 : Int) 0 ([] : List (List UInt8)) : Option ((List (List UInt8)) × (List (List Int)))) = some r) :
 f40 d0 = some r :=
 lift2 (E := E40) h (
 (show Imp E40 (headT P cods H prim 40 3 [] [(0, (.pv (.lst 3 (List.map TypeDecl.enc d0)))), (4, (.row 4)), (15, (.pv (.lst 3 (List.map TypeDecl.enc d0)))), (16, (.pv (.int .i64 (List.length (List.map TypeDecl.enc d0) : Int)))), (17, (.pv (.int .i64 0)))] [(4, (.row 9 1 (List.map eStr [])))]) (t40_3 d0 d0 (List.length d0 : Int) 0 ([] : List (List UInt8))) from fun _ h => by simpa only [h40_3, List.length_map] using q40_3 _ h))
 (by kernel_rfl) (fun h => run_body (C := cods) rfl h)
theorem k40_3 (d0 : List TypeDecl) (v15 : List TypeDecl) (v16 : Int) (v17 : Int) (o4 : List (List UInt8)) {r : ((List (List UInt8)) × (List (List Int)))}
 (h : (
 bif (decide (v17 < v16)) then (
 getK v15 v17 fun x201 =>
 check ((List.length o4 + List.length [x201.Name]) * 16 ≤ 140737488355328 ∧ List.length o4 + List.length [x201.Name] ≤ 4611686018427387904) (
 t40_3 d0 v15 v16 (IntKind.wrap .i64 (v17 + 1)) (o4 ++ [x201.Name])))
 else (
 bind2 (f80 o4) fun y203 l205 =>
 check (0 ≤ ((List.length l205 : Int) : Int) ∧ ((List.length l205 : Int) : Int) ≤ (List.length l205 : Int) ∧ 24 * Int.toNat (List.length l205 : Int) ≤ 281474976710656 ∧ ((List.length l205 : Int) : Int) ≤ 9223372036854775807) (
 t40_10 d0 (List.length l205 : Int) 0 l205 (List.replicate (Int.toNat (List.length l205 : Int)) ([] : List Int)))) : Option ((List (List UInt8)) × (List (List Int)))) = some r) :
 t40_3 d0 v15 v16 v17 o4 = some r :=
 lift2 (E := E40) h (
 I_cond rfl (
 I_getK (enc := TypeDecl.enc) rfl fun x201 =>
 I_check (p := (List.length (List.map eStr o4) + List.length (List.map eStr [x201.Name])) * 16 ≤ 140737488355328 ∧ List.length (List.map eStr o4) + List.length (List.map eStr [x201.Name]) ≤ 4611686018427387904) (by simp only [List.length_map]; exact id) (
 (show Imp E40 (headT P cods H prim 40 3 [] [(0, (.pv (.lst 3 (List.map TypeDecl.enc d0)))), (4, (.row 4)), (15, (.pv (.lst 3 (List.map TypeDecl.enc v15)))), (16, (.pv (.int .i64 v16))), (17, (.pv (.int .i64 (IntKind.wrap .i64 (v17 + 1)))))] [(4, (.row 9 1 ((List.map eStr o4) ++ (List.map eStr [x201.Name]))))]) (t40_3 d0 v15 v16 (IntKind.wrap .i64 (v17 + 1)) (o4 ++ [x201.Name])) from fun _ h => by simpa only [h40_3, List.map_append] using q40_3 _ h))) (
 I_callR (enc := R80.enc) (ee := eStr) (nm := 10000) (e := 9) (sz := 1) s80 fun y203 l205 =>
 I_check (p := 0 ≤ ((List.length (List.map eStr l205) : Int) : Int) ∧ ((List.length (List.map eStr l205) : Int) : Int) ≤ (List.length (List.map eStr l205) : Int) ∧ 24 * Int.toNat (List.length (List.map eStr l205) : Int) ≤ 281474976710656 ∧ ((List.length (List.map eStr l205) : Int) : Int) ≤ 9223372036854775807) (by simp only [List.length_map]; exact id) (
 (show Imp E40 (headT P cods H prim 40 10 [] [(0, (.pv (.lst 3 (List.map TypeDecl.enc d0)))), (4, (.row 4)), (7, (.row 31)), (32, (.row 4)), (33, (.pv (.int .i64 (List.length (List.map eStr l205) : Int)))), (34, (.pv (.int .i64 0)))] [(4, (.row 9 1 (List.map eStr l205))), (31, (.row 31 1 (List.replicate (Int.toNat (List.length (List.map eStr l205) : Int)) ((eLst 1 (eInt .u64)) ([] : List Int)))))]) (t40_10 d0 (List.length l205 : Int) 0 l205 (List.replicate (Int.toNat (List.length l205 : Int)) ([] : List Int))) from fun _ h => by simpa only [h40_10, List.length_map, List.map_replicate, List.length_replicate] using q40_10 _ h))))
 (by kernel_rfl) (fun h => head_round h)
theorem k40_10 (d0 : List TypeDecl) (v33 : Int) (v34 : Int) (o4 : List (List UInt8)) (o31 : List (List Int)) {r : ((List (List UInt8)) × (List (List Int)))}
 (h : (
 bif (decide (v34 < v33)) then (
 check (0 ≤ v34 ∧ Int.toNat v34 < List.length o4) (
 getN o4 (Int.toNat v34) fun x201 =>
 Option.bind (f81 d0 x201) fun y203 =>
 t40_14 d0 v34 v33 v34 y203 (List.length y203 : Int) 0 o4 ([] : List Int) o31))
 else (
 some (o4, o31)) : Option ((List (List UInt8)) × (List (List Int)))) = some r) :
 t40_10 d0 v33 v34 o4 o31 = some r :=
 lift2 (E := E40) h (
 I_cond rfl (
 I_check (p := 0 ≤ v34 ∧ Int.toNat v34 < List.length (List.map eStr o4)) (by simp only [List.length_map]; exact id) (
 I_getN (enc := eStr) rfl fun x201 =>
 I_call (enc := R81.enc) s81 fun y203 =>
 (show Imp E40 (headT P cods H prim 40 14 [] [(0, (.pv (.lst 3 (List.map TypeDecl.enc d0)))), (4, (.row 4)), (7, (.row 31)), (8, (.pv (.int .i64 v34))), (10, (.row 10)), (32, (.row 4)), (33, (.pv (.int .i64 v33))), (34, (.pv (.int .i64 v34))), (41, (.pv (.lst 1 (List.map eStr y203)))), (42, (.pv (.int .i64 (List.length (List.map eStr y203) : Int)))), (43, (.pv (.int .i64 0)))] [(4, (.row 9 1 (List.map eStr o4))), (10, (.row 3 1 (List.map (eInt .i64) []))), (31, (.row 31 1 (List.map (eLst 1 (eInt .u64)) o31)))]) (t40_14 d0 v34 v33 v34 y203 (List.length y203 : Int) 0 o4 ([] : List Int) o31) from fun _ h => by simpa only [h40_14, List.length_map] using q40_14 _ h))) (
 I_some rfl))
 (by kernel_rfl) (fun h => head_round h)
theorem k40_14 (d0 : List TypeDecl) (i8 : Int) (v33 : Int) (v34 : Int) (v41 : List (List UInt8)) (v42 : Int) (v43 : Int) (o4 : List (List UInt8)) (o10 : List Int) (o31 : List (List Int)) {r : ((List (List UInt8)) × (List (List Int)))}
 (h : (
 bif (decide (v43 < v42)) then (
 getK v41 v43 fun x201 =>
 Option.bind (f82 o4 x201) fun y203 =>
 check ((List.length o10 + List.length [y203.1]) * 8 ≤ 140737488355328 ∧ List.length o10 + List.length [y203.1] ≤ 4611686018427387904) (
 t40_14 d0 i8 v33 v34 v41 v42 (IntKind.wrap .i64 (v43 + 1)) o4 (o10 ++ [y203.1]) o31))
 else (
 Option.bind (f83 o10) fun y205 =>
 Option.bind (f83 o10) fun y207 =>
 check (0 ≤ i8 ∧ Int.toNat i8 < List.length o31) (
 getN o31 (Int.toNat i8) fun x209 =>
 t40_10 d0 v33 (IntKind.wrap .i64 (v34 + 1)) o4 (o31.set (Int.toNat i8) y207.1))) : Option ((List (List UInt8)) × (List (List Int)))) = some r) :
 t40_14 d0 i8 v33 v34 v41 v42 v43 o4 o10 o31 = some r :=
 lift2 (E := E40) h (
 I_cond rfl (
 I_getK (enc := eStr) rfl fun x201 =>
 I_call (enc := R82.enc) s82 fun y203 =>
 I_check (p := (List.length (List.map (eInt .i64) o10) + List.length (List.map (eInt .i64) [y203.1])) * 8 ≤ 140737488355328 ∧ List.length (List.map (eInt .i64) o10) + List.length (List.map (eInt .i64) [y203.1]) ≤ 4611686018427387904) (by simp only [List.length_map]; exact id) (
 (show Imp E40 (headT P cods H prim 40 14 [] [(0, (.pv (.lst 3 (List.map TypeDecl.enc d0)))), (4, (.row 4)), (7, (.row 31)), (8, (.pv (.int .i64 i8))), (10, (.row 10)), (32, (.row 4)), (33, (.pv (.int .i64 v33))), (34, (.pv (.int .i64 v34))), (41, (.pv (.lst 1 (List.map eStr v41)))), (42, (.pv (.int .i64 v42))), (43, (.pv (.int .i64 (IntKind.wrap .i64 (v43 + 1)))))] [(4, (.row 9 1 (List.map eStr o4))), (10, (.row 3 1 ((List.map (eInt .i64) o10) ++ (List.map (eInt .i64) [y203.1])))), (31, (.row 31 1 (List.map (eLst 1 (eInt .u64)) o31)))]) (t40_14 d0 i8 v33 v34 v41 v42 (IntKind.wrap .i64 (v43 + 1)) o4 (o10 ++ [y203.1]) o31) from fun _ h => by simpa only [h40_14, List.map_append] using q40_14 _ h))) (
 I_call (enc := R83.enc) s83 fun y205 =>
 I_call (enc := R83.enc) s83 fun y207 =>
 I_check (p := 0 ≤ i8 ∧ Int.toNat i8 < List.length (List.map (eLst 1 (eInt .u64)) o31)) (by simp only [List.length_map]; exact id) (
 I_getN (enc := (eLst 1 (eInt .u64))) rfl fun x209 =>
 (show Imp E40 (headT P cods H prim 40 10 [] [(0, (.pv (.lst 3 (List.map TypeDecl.enc d0)))), (4, (.row 4)), (7, (.row 31)), (32, (.row 4)), (33, (.pv (.int .i64 v33))), (34, (.pv (.int .i64 (IntKind.wrap .i64 (v34 + 1)))))] [(4, (.row 9 1 (List.map eStr o4))), (31, (.row 31 1 ((List.map (eLst 1 (eInt .u64)) o31).set (Int.toNat i8) ((eLst 1 (eInt .u64)) y207.1))))]) (t40_10 d0 v33 (IntKind.wrap .i64 (v34 + 1)) o4 (o31.set (Int.toNat i8) y207.1)) from fun _ h => by simpa only [h40_10, List.map_set] using q40_10 _ h))))
 (by kernel_rfl) (fun h => head_round h)
theorem e41 (codes0 : List (List Int)) {r : ((List (List Int)) × Bool)}
 (h : (
 t41_5 codes0 (List.length codes0 : Int) 0 ([] : List ((List UInt8) × Bool)) ([] : List (List Int)) : Option ((List (List Int)) × Bool)) = some r) :
 f41 codes0 = some r :=
 lift2 (E := E41) h (
 (show Imp E41 (headT P cods H prim 41 5 [] [(5, (.ptr 5 0)), (6, (.cl 84 [.p 4, .p 5])), (13, (.pv (.lst 1 (List.map (eLst 1 (eInt .u64)) codes0)))), (14, (.pv (.int .i64 (List.length (List.map (eLst 1 (eInt .u64)) codes0) : Int)))), (15, (.pv (.int .i64 0)))] [(4, (.box 98 [(.row 11)])), (5, (.box 64 [(.row 5080)])), (11, (.mp 9 4 (encMap V9 V4 ([] : List ((List UInt8) × Bool))).1 (encMap V9 V4 ([] : List ((List UInt8) × Bool))).2)), (5080, (.row 31 1 (List.map (eLst 1 (eInt .u64)) [])))]) (t41_5 codes0 (List.length codes0 : Int) 0 ([] : List ((List UInt8) × Bool)) ([] : List (List Int))) from fun _ h => by simpa only [h41_5, List.length_map] using q41_5 _ h))
 (by kernel_rfl) (fun h => run_body (C := cods) rfl h)
theorem k41_5 (v13 : List (List Int)) (v14 : Int) (v15 : Int) (o11 : List ((List UInt8) × Bool)) (o5080 : List (List Int)) {r : ((List (List Int)) × Bool)}
 (h : (
 bif (decide (v15 < v14)) then (
 getK v13 v15 fun x201 =>
 bind3 (f84 x201 o11 o5080) fun y203 w206 w207 =>
 t41_5 v13 v14 (IntKind.wrap .i64 (v15 + 1)) w206 w207)
 else (
 t41_10 0 o11 o5080) : Option ((List (List Int)) × Bool)) = some r) :
 t41_5 v13 v14 v15 o11 o5080 = some r :=
 lift2 (E := E41) h (
 I_cond rfl (
 I_getK (enc := (eLst 1 (eInt .u64))) rfl fun x201 =>
 I_callM3 (kk := fun r204 l205 => unconsK 10000 l205 fun ol205_0 l205_0 => sameK ol205_0 (.box 98 [(.row 10002)]) <| unconsK 10001 l205_0 fun ol205_1 l205_1 => sameK ol205_1 (.box 64 [(.row 20003)]) <| unconsK 10002 l205_1 fun ol205_2 l205_2 => asMap 9 4 ol205_2 fun ol205_2_c => asE (encMap V9 V4) ol205_2_c fun w206 => unconsK 20003 l205_2 fun ol205_3 l205_3 => asRow 31 1 ol205_3 fun ol205_3_c => asE (List.map (eLst 1 (eInt .u64))) ol205_3_c fun w207 => nilK l205_3 <| asE R84.enc r204 fun y203 =>
 h41_5 v13 v14 (IntKind.wrap .i64 (v15 + 1)) w206 w207) s84 fun y203 w206 w207 => I_uncons (I_same (I_uncons (I_same (I_uncons (I_asMap (K := V9) (V := V4) (l := w206) (I_uncons (I_asRow (enc := (eLst 1 (eInt .u64))) (xs := w207) (I_nil (I_res (enc := R84.enc) (y := y203) (
 q41_5))))))))))) (
 q41_10))
 (by kernel_rfl) (fun h => head_round h)
theorem k41_10 (i9 : Int) (o11 : List ((List UInt8) × Bool)) (o5080 : List (List Int)) {r : ((List (List Int)) × Bool)}
 (h : (
 bif (decide (i9 < (List.length o5080 : Int))) then (
 t41_13 i9 0 o11 o5080)
 else (
 some (o5080, (decide ((List.length o5080 : Int) ≤ 256)))) : Option ((List (List Int)) × Bool)) = some r) :
 t41_10 i9 o11 o5080 = some r :=
 lift2 (E := E41) h (
 I_cond (c := (decide (i9 < (List.length (List.map (eLst 1 (eInt .u64)) o5080) : Int)))) (by simp only [List.length_map]) (
 q41_13) (
 I_some (c := ((.tup [(.lst 1 (List.map (eLst 1 (eInt .u64)) o5080)), (.bool (decide ((List.length (List.map (eLst 1 (eInt .u64)) o5080) : Int) ≤ 256)))]), [])) (by simp only [E41, R41.enc, List.length_map])))
 (by kernel_rfl) (fun h => head_round h)
theorem k41_13 (i9 : Int) (k10 : Int) (o11 : List ((List UInt8) × Bool)) (o5080 : List (List Int)) {r : ((List (List Int)) × Bool)}
 (h : (
 bif (decide (k10 < i9)) then (
 check (0 ≤ i9 ∧ Int.toNat i9 < List.length o5080) (
 getN o5080 (Int.toNat i9) fun x201 =>
 check (0 ≤ k10 ∧ Int.toNat k10 < List.length o5080) (
 getN o5080 (Int.toNat k10) fun x203 =>
 Option.bind (f29 x201 x203) fun y205 =>
 bind3 (f84 y205 o11 o5080) fun y207 w210 w211 =>
 bif (decide ((List.length w211 : Int) > 256)) then (
 some (([] : List (List Int)), false))
 else (
 t41_13 i9 (IntKind.wrap .i64 (k10 + 1)) w210 w211))))
 else (
 t41_10 (IntKind.wrap .i64 (i9 + 1)) o11 o5080) : Option ((List (List Int)) × Bool)) = some r) :
 t41_13 i9 k10 o11 o5080 = some r :=
 lift2 (E := E41) h (
 I_cond rfl (
 I_check (p := 0 ≤ i9 ∧ Int.toNat i9 < List.length (List.map (eLst 1 (eInt .u64)) o5080)) (by simp only [List.length_map]; exact id) (
 I_getN (enc := (eLst 1 (eInt .u64))) rfl fun x201 =>
 I_check (p := 0 ≤ k10 ∧ Int.toNat k10 < List.length (List.map (eLst 1 (eInt .u64)) o5080)) (by simp only [List.length_map]; exact id) (
 I_getN (enc := (eLst 1 (eInt .u64))) rfl fun x203 =>
 I_call (enc := R29.enc) s29 fun y205 =>
 I_callM3 (kk := fun r208 l209 => unconsK 10000 l209 fun ol209_0 l209_0 => sameK ol209_0 (.box 98 [(.row 10002)]) <| unconsK 10001 l209_0 fun ol209_1 l209_1 => sameK ol209_1 (.box 64 [(.row 20003)]) <| unconsK 10002 l209_1 fun ol209_2 l209_2 => asMap 9 4 ol209_2 fun ol209_2_c => asE (encMap V9 V4) ol209_2_c fun w210 => unconsK 20003 l209_2 fun ol209_3 l209_3 => asRow 31 1 ol209_3 fun ol209_3_c => asE (List.map (eLst 1 (eInt .u64))) ol209_3_c fun w211 => nilK l209_3 <| asE R84.enc r208 fun y207 =>
 bif (decide ((List.length (List.map (eLst 1 (eInt .u64)) w211) : Int) > 256)) then (
 some ((.tup [(.lst 1 (List.map (eLst 1 (eInt .u64)) [])), (.bool false)]), []))
 else (
 h41_13 i9 (IntKind.wrap .i64 (k10 + 1)) w210 w211)) s84 fun y207 w210 w211 => I_uncons (I_same (I_uncons (I_same (I_uncons (I_asMap (K := V9) (V := V4) (l := w210) (I_uncons (I_asRow (enc := (eLst 1 (eInt .u64))) (xs := w211) (I_nil (I_res (enc := R84.enc) (y := y207) (
 I_cond (c := (decide ((List.length (List.map (eLst 1 (eInt .u64)) w211) : Int) > 256))) (by simp only [List.length_map]) (
 I_some rfl) (
 q41_13)))))))))))))) (
 q41_10))
 (by kernel_rfl) (fun h => head_round h)
theorem e42 (l0 : List (List Int)) (is1_0 : List Int) {r : Int}
 (h : (
 t42_2 is1_0 l0 (List.length l0 : Int) 0 : Option Int) = some r) :
 f42 l0 is1_0 = some r :=
 lift2 (E := E42) h (
 (show Imp E42 (headT P cods H prim 42 2 [] [(1, (.pv (.fn 43 [(.ref [(.lst 1 (List.map (eInt .u64) is1_0))])]))), (7, (.pv (.lst 1 (List.map (eLst 1 (eInt .u64)) l0)))), (8, (.pv (.int .i64 (List.length (List.map (eLst 1 (eInt .u64)) l0) : Int)))), (9, (.pv (.int .i64 0)))] []) (t42_2 is1_0 l0 (List.length l0 : Int) 0) from fun _ h => by simpa only [h42_2, List.length_map] using q42_2 _ h))
 (by kernel_rfl) (fun h => run_body (C := cods) rfl h)
theorem k42_2 (is1_0 : List Int) (v7 : List (List Int)) (v8 : Int) (v9 : Int) {r : Int}
 (h : (
 bif (decide (v9 < v8)) then (
 getK v7 v9 fun x201 =>
 Option.bind (f43 x201 is1_0) fun y203 =>
 bif y203 then (
 some v9)
 else (
 t42_2 is1_0 v7 v8 (IntKind.wrap .i64 (v9 + 1))))
 else (
 some (-1)) : Option Int) = some r) :
 t42_2 is1_0 v7 v8 v9 = some r :=
 lift2 (E := E42) h (
 I_cond rfl (
 I_getK (enc := (eLst 1 (eInt .u64))) rfl fun x201 =>
 I_call (enc := R43.enc) s43 fun y203 =>
 I_cond rfl (
 I_some rfl) (
 q42_2)) (
 I_some rfl))
 (by kernel_rfl) (fun h => head_round h)
theorem e43 (c0 : List Int) (a1 : List Int) {r : Bool}
 (h : (
 Option.bind (f31 a1 c0) fun y201 =>
 some y201 : Option Bool) = some r) :
 f43 c0 a1 = some r :=
 lift2 (E := E43) h (
 I_call (enc := R31.enc) s31 fun y201 =>
 I_some rfl)
 (by kernel_rfl) (fun h => run_body (C := cods) rfl h)
theorem e44 (b0 : List Int) {r : (List Int)}
 (h : (
 t44_3 b0 (List.length b0 : Int) 0 ([] : List Int) : Option (List Int)) = some r) :
 f44 b0 = some r :=
 lift2 (E := E44) h (
 (show Imp E44 (headT P cods H prim 44 3 [] [(3, (.row 3)), (6, (.pv (.lst 1 (List.map (eInt .u64) b0)))), (7, (.pv (.int .i64 (List.length (List.map (eInt .u64) b0) : Int)))), (8, (.pv (.int .i64 0)))] [(3, (.row 3 1 (List.map (eInt .i64) [])))]) (t44_3 b0 (List.length b0 : Int) 0 ([] : List Int)) from fun _ h => by simpa only [h44_3, List.length_map] using q44_3 _ h))
 (by kernel_rfl) (fun h => run_body (C := cods) rfl h)
theorem k44_3 (v6 : List Int) (v7 : Int) (v8 : Int) (o3 : List Int) {r : (List Int)}
 (h : (
 bif (decide (v8 < v7)) then (
 getK v6 v8 fun x201 =>
 t44_5 v8 x201 v6 v7 v8 o3)
 else (
 some o3) : Option (List Int)) = some r) :
 t44_3 v6 v7 v8 o3 = some r :=
 lift2 (E := E44) h (
 I_cond rfl (
 I_getK (enc := (eInt .u64)) rfl fun x201 =>
 q44_5) (
 I_some rfl))
 (by kernel_rfl) (fun h => head_round h)
theorem k44_5 (i4 : Int) (w5 : Int) (v6 : List Int) (v7 : Int) (v8 : Int) (o3 : List Int) {r : (List Int)}
 (h : (
 bif (w5 != 0) then (
 Option.bind (f86 w5) fun y201 =>
 check ((List.length o3 + List.length [(IntKind.wrap .i64 ((IntKind.wrap .i64 (64 * i4)) + y201))]) * 8 ≤ 140737488355328 ∧ List.length o3 + List.length [(IntKind.wrap .i64 ((IntKind.wrap .i64 (64 * i4)) + y201))] ≤ 4611686018427387904) (
 t44_5 i4 (IntKind.wrap .u64 ((BitVec.ofInt (IntKind.bits .u64) w5 &&& BitVec.ofInt (IntKind.bits .u64) (IntKind.wrap .u64 (w5 - 1))).toNat : Int)) v6 v7 v8 (o3 ++ [(IntKind.wrap .i64 ((IntKind.wrap .i64 (64 * i4)) + y201))])))
 else (
 t44_3 v6 v7 (IntKind.wrap .i64 (v8 + 1)) o3) : Option (List Int)) = some r) :
 t44_5 i4 w5 v6 v7 v8 o3 = some r :=
 lift2 (E := E44) h (
 I_cond rfl (
 I_call (enc := R86.enc) s86 fun y201 =>
 I_check (p := (List.length (List.map (eInt .i64) o3) + List.length (List.map (eInt .i64) [(IntKind.wrap .i64 ((IntKind.wrap .i64 (64 * i4)) + y201))])) * 8 ≤ 140737488355328 ∧ List.length (List.map (eInt .i64) o3) + List.length (List.map (eInt .i64) [(IntKind.wrap .i64 ((IntKind.wrap .i64 (64 * i4)) + y201))]) ≤ 4611686018427387904) (by simp only [List.length_map]; exact id) (
 (show Imp E44 (headT P cods H prim 44 5 [] [(3, (.row 3)), (4, (.pv (.int .i64 i4))), (5, (.pv (.int .u64 (IntKind.wrap .u64 ((BitVec.ofInt (IntKind.bits .u64) w5 &&& BitVec.ofInt (IntKind.bits .u64) (IntKind.wrap .u64 (w5 - 1))).toNat : Int))))), (6, (.pv (.lst 1 (List.map (eInt .u64) v6)))), (7, (.pv (.int .i64 v7))), (8, (.pv (.int .i64 v8)))] [(3, (.row 3 1 ((List.map (eInt .i64) o3) ++ (List.map (eInt .i64) [(IntKind.wrap .i64 ((IntKind.wrap .i64 (64 * i4)) + y201))]))))]) (t44_5 i4 (IntKind.wrap .u64 ((BitVec.ofInt (IntKind.bits .u64) w5 &&& BitVec.ofInt (IntKind.bits .u64) (IntKind.wrap .u64 (w5 - 1))).toNat : Int)) v6 v7 v8 (o3 ++ [(IntKind.wrap .i64 ((IntKind.wrap .i64 (64 * i4)) + y201))])) from fun _ h => by simpa only [h44_5, List.map_append] using q44_5 _ h))) (
 q44_3))
 (by kernel_rfl) (fun h => head_round h)
theorem e46 (d0 : List TypeDecl) (names1 : List (List UInt8)) {r : (List (List UInt8))}
 (h : (
 Option.bind (f90 d0 names1) fun y201 =>
 Option.bind (f75 d0) fun y203 =>
 t46_5 y201 y203 y201 (List.length y201 : Int) 0 ([] : List (List UInt8)) : Option (List (List UInt8))) = some r) :
 f46 d0 names1 = some r :=
 lift2 (E := E46) h (
 I_call (enc := R90.enc) s90 fun y201 =>
 I_call (enc := R75.enc) s75 fun y203 =>
 (show Imp E46 (headT P cods H prim 46 5 [] [(5, (.pv (.lst 1 (List.map eStr y201)))), (6, (.pv (.mp (encMap V9 V54 y203).1 (encMap V9 V54 y203).2))), (7, (.row 7)), (17, (.pv (.lst 1 (List.map eStr y201)))), (18, (.pv (.int .i64 (List.length (List.map eStr y201) : Int)))), (19, (.pv (.int .i64 0)))] [(7, (.row 9 1 (List.map eStr [])))]) (t46_5 y201 y203 y201 (List.length y201 : Int) 0 ([] : List (List UInt8))) from fun _ h => by simpa only [h46_5, List.length_map] using q46_5 _ h))
 (by kernel_rfl) (fun h => run_body (C := cods) rfl h)
theorem k46_5 (l5 : List (List UInt8)) (to6 : List ((List UInt8) × (List (List UInt8)))) (v17 : List (List UInt8)) (v18 : Int) (v19 : Int) (o7 : List (List UInt8)) {r : (List (List UInt8))}
 (h : (
 bif (decide (v19 < v18)) then (
 getK v17 v19 fun x201 =>
 Option.bind (f74 to6 x201) fun y203 =>
 Option.bind (f93 l5 x201 y203) fun y205 =>
 bif (!y205) then (
 check ((List.length o7 + List.length [x201]) * 16 ≤ 140737488355328 ∧ List.length o7 + List.length [x201] ≤ 4611686018427387904) (
 t46_5 l5 to6 v17 v18 (IntKind.wrap .i64 (v19 + 1)) (o7 ++ [x201])))
 else (
 t46_5 l5 to6 v17 v18 (IntKind.wrap .i64 (v19 + 1)) o7))
 else (
 some o7) : Option (List (List UInt8))) = some r) :
 t46_5 l5 to6 v17 v18 v19 o7 = some r :=
 lift2 (E := E46) h (
 I_cond rfl (
 I_getK (enc := eStr) rfl fun x201 =>
 I_call (enc := R74.enc) s74 fun y203 =>
 I_call (enc := R93.enc) s93 fun y205 =>
 I_cond rfl (
 I_check (p := (List.length (List.map eStr o7) + List.length (List.map eStr [x201])) * 16 ≤ 140737488355328 ∧ List.length (List.map eStr o7) + List.length (List.map eStr [x201]) ≤ 4611686018427387904) (by simp only [List.length_map]; exact id) (
 (show Imp E46 (headT P cods H prim 46 5 [] [(5, (.pv (.lst 1 (List.map eStr l5)))), (6, (.pv (.mp (encMap V9 V54 to6).1 (encMap V9 V54 to6).2))), (7, (.row 7)), (17, (.pv (.lst 1 (List.map eStr v17)))), (18, (.pv (.int .i64 v18))), (19, (.pv (.int .i64 (IntKind.wrap .i64 (v19 + 1)))))] [(7, (.row 9 1 ((List.map eStr o7) ++ (List.map eStr [x201]))))]) (t46_5 l5 to6 v17 v18 (IntKind.wrap .i64 (v19 + 1)) (o7 ++ [x201])) from fun _ h => by simpa only [h46_5, List.map_append] using q46_5 _ h))) (
 q46_5)) (
 I_some rfl))
 (by kernel_rfl) (fun h => head_round h)
theorem e52 (d0 : List TypeDecl) {r : (List (List UInt8))}
 (h : (
 t52_3 d0 ([] : List (List UInt8)) 0 : Option (List (List UInt8))) = some r) :
 f52 d0 = some r :=
 lift2 (E := E52) h (
 q52_3)
 (by kernel_rfl) (fun h => run_body (C := cods) rfl h)
theorem k52_3 (d0 : List TypeDecl) (out3 : List (List UInt8)) (i4 : Int) {r : (List (List UInt8))}
 (h : (
 bif (decide (i4 < (List.length d0 : Int))) then (
 getK d0 i4 fun x201 =>
 Option.bind (f98 out3 x201.Name) fun y203 =>
 t52_3 d0 y203 (IntKind.wrap .i64 (i4 + 1)))
 else (
 some out3) : Option (List (List UInt8))) = some r) :
 t52_3 d0 out3 i4 = some r :=
 lift2 (E := E52) h (
 I_cond (c := (decide (i4 < (List.length (List.map TypeDecl.enc d0) : Int)))) (by simp only [List.length_map]) (
 I_getK (enc := TypeDecl.enc) rfl fun x201 =>
 I_call (enc := R98.enc) s98 fun y203 =>
 q52_3) (
 I_some rfl))
 (by kernel_rfl) (fun h => head_round h)
theorem e53 (d0 : List TypeDecl) (all1 : List (List UInt8)) (name2 : List UInt8) {r : (List Int)}
 (h : (
 Option.bind (f99 d0 name2) fun y201 =>
 t53_4 all1 y201 0 ([] : List Int) : Option (List Int)) = some r) :
 f53 d0 all1 name2 = some r :=
 lift2 (E := E53) h (
 I_call (enc := R99.enc) s99 fun y201 =>
 q53_4)
 (by kernel_rfl) (fun h => run_body (C := cods) rfl h)
theorem k53_4 (all1 : List (List UInt8)) (low7 : List (List UInt8)) (i9 : Int) (o8 : List Int) {r : (List Int)}
 (h : (
 bif (decide (i9 < (List.length all1 : Int))) then (
 getK all1 i9 fun x201 =>
 Option.bind (f37 low7 x201) fun y203 =>
 bif y203 then (
 check ((List.length o8 + List.length [i9]) * 8 ≤ 140737488355328 ∧ List.length o8 + List.length [i9] ≤ 4611686018427387904) (
 t53_4 all1 low7 (IntKind.wrap .i64 (i9 + 1)) (o8 ++ [i9])))
 else (
 t53_4 all1 low7 (IntKind.wrap .i64 (i9 + 1)) o8))
 else (
 Option.bind (f100 o8) fun y205 =>
 Option.bind (f100 o8) fun y207 =>
 some y207.1) : Option (List Int)) = some r) :
 t53_4 all1 low7 i9 o8 = some r :=
 lift2 (E := E53) h (
 I_cond (c := (decide (i9 < (List.length (List.map eStr all1) : Int)))) (by simp only [List.length_map]) (
 I_getK (enc := eStr) rfl fun x201 =>
 I_call (enc := R37.enc) s37 fun y203 =>
 I_cond rfl (
 I_check (p := (List.length (List.map (eInt .i64) o8) + List.length (List.map (eInt .i64) [i9])) * 8 ≤ 140737488355328 ∧ List.length (List.map (eInt .i64) o8) + List.length (List.map (eInt .i64) [i9]) ≤ 4611686018427387904) (by simp only [List.length_map]; exact id) (
 (show Imp E53 (headT P cods H prim 53 4 [] [(1, (.pv (.lst 1 (List.map eStr all1)))), (7, (.pv (.lst 1 (List.map eStr low7)))), (8, (.row 8)), (9, (.pv (.int .i64 (IntKind.wrap .i64 (i9 + 1)))))] [(8, (.row 3 1 ((List.map (eInt .i64) o8) ++ (List.map (eInt .i64) [i9]))))]) (t53_4 all1 low7 (IntKind.wrap .i64 (i9 + 1)) (o8 ++ [i9])) from fun _ h => by simpa only [h53_4, List.map_append] using q53_4 _ h))) (
 q53_4)) (
 I_call (enc := R100.enc) s100 fun y205 =>
 I_call (enc := R100.enc) s100 fun y207 =>
 I_some rfl))
 (by kernel_rfl) (fun h => head_round h)
theorem e54 (codes0 : List (List Int)) {r : (List (List Int))}
 (h : (
 check ((List.length ([] : List (List Int)) + List.length codes0) * 24 ≤ 140737488355328 ∧ List.length ([] : List (List Int)) + List.length codes0 ≤ 4611686018427387904) (
 t54_3 0 (([] : List (List Int)) ++ codes0)) : Option (List (List Int))) = some r) :
 f54 codes0 = some r :=
 lift2 (E := E54) h (
 I_check (p := (List.length (List.map (eLst 1 (eInt .u64)) []) + List.length (List.map (eLst 1 (eInt .u64)) codes0)) * 24 ≤ 140737488355328 ∧ List.length (List.map (eLst 1 (eInt .u64)) []) + List.length (List.map (eLst 1 (eInt .u64)) codes0) ≤ 4611686018427387904) (by simp only [List.length_map]; exact id) (
 (show Imp E54 (headT P cods H prim 54 3 [] [(3, (.row 7)), (4, (.pv (.int .i64 0)))] [(7, (.row 31 1 ((List.map (eLst 1 (eInt .u64)) []) ++ (List.map (eLst 1 (eInt .u64)) codes0))))]) (t54_3 0 (([] : List (List Int)) ++ codes0)) from fun _ h => by simpa only [h54_3, List.map_append] using q54_3 _ h)))
 (by kernel_rfl) (fun h => run_body (C := cods) rfl h)
theorem k54_3 (i4 : Int) (o7 : List (List Int)) {r : (List (List Int))}
 (h : (
 bif (decide (i4 < (List.length o7 : Int))) then (
 bif (decide ((List.length o7 : Int) ≤ 256)) then (
 t54_6 i4 0 o7)
 else (
 some o7))
 else (
 some o7) : Option (List (List Int))) = some r) :
 t54_3 i4 o7 = some r :=
 lift2 (E := E54) h (
 I_cond (c := (decide (i4 < (List.length (List.map (eLst 1 (eInt .u64)) o7) : Int)))) (by simp only [List.length_map]) (
 I_cond (c := (decide ((List.length (List.map (eLst 1 (eInt .u64)) o7) : Int) ≤ 256))) (by simp only [List.length_map]) (
 q54_6) (
 I_some rfl)) (
 I_some rfl))
 (by kernel_rfl) (fun h => head_round h)
theorem k54_6 (i4 : Int) (k5 : Int) (o7 : List (List Int)) {r : (List (List Int))}
 (h : (
 bif (decide (k5 < i4)) then (
 bif (decide ((List.length o7 : Int) ≤ 256)) then (
 check (0 ≤ i4 ∧ Int.toNat i4 < List.length o7) (
 getN o7 (Int.toNat i4) fun x201 =>
 check (0 ≤ k5 ∧ Int.toNat k5 < List.length o7) (
 getN o7 (Int.toNat k5) fun x203 =>
 Option.bind (f61 x201 x203) fun y205 =>
 bif (decide ((List.length y205 : Int) > 0)) then (
 Option.bind (f101 o7 y205) fun y207 =>
 bif (!y207) then (
 check ((List.length o7 + List.length [y205]) * 24 ≤ 140737488355328 ∧ List.length o7 + List.length [y205] ≤ 4611686018427387904) (
 t54_6 i4 (IntKind.wrap .i64 (k5 + 1)) (o7 ++ [y205])))
 else (
 t54_6 i4 (IntKind.wrap .i64 (k5 + 1)) o7))
 else (
 t54_6 i4 (IntKind.wrap .i64 (k5 + 1)) o7))))
 else (
 t54_3 (IntKind.wrap .i64 (i4 + 1)) o7))
 else (
 t54_3 (IntKind.wrap .i64 (i4 + 1)) o7) : Option (List (List Int))) = some r) :
 t54_6 i4 k5 o7 = some r :=
 lift2 (E := E54) h (
 I_cond rfl (
 I_cond (c := (decide ((List.length (List.map (eLst 1 (eInt .u64)) o7) : Int) ≤ 256))) (by simp only [List.length_map]) (
 I_check (p := 0 ≤ i4 ∧ Int.toNat i4 < List.length (List.map (eLst 1 (eInt .u64)) o7)) (by simp only [List.length_map]; exact id) (
 I_getN (enc := (eLst 1 (eInt .u64))) rfl fun x201 =>
 I_check (p := 0 ≤ k5 ∧ Int.toNat k5 < List.length (List.map (eLst 1 (eInt .u64)) o7)) (by simp only [List.length_map]; exact id) (
 I_getN (enc := (eLst 1 (eInt .u64))) rfl fun x203 =>
 I_call (enc := R61.enc) s61 fun y205 =>
 I_cond (c := (decide ((List.length (List.map (eInt .u64) y205) : Int) > 0))) (by simp only [List.length_map]) (
 I_call (enc := R101.enc) s101 fun y207 =>
 I_cond rfl (
 I_check (p := (List.length (List.map (eLst 1 (eInt .u64)) o7) + List.length (List.map (eLst 1 (eInt .u64)) [y205])) * 24 ≤ 140737488355328 ∧ List.length (List.map (eLst 1 (eInt .u64)) o7) + List.length (List.map (eLst 1 (eInt .u64)) [y205]) ≤ 4611686018427387904) (by simp only [List.length_map]; exact id) (
 (show Imp E54 (headT P cods H prim 54 6 [] [(3, (.row 7)), (4, (.pv (.int .i64 i4))), (5, (.pv (.int .i64 (IntKind.wrap .i64 (k5 + 1)))))] [(7, (.row 31 1 ((List.map (eLst 1 (eInt .u64)) o7) ++ (List.map (eLst 1 (eInt .u64)) [y205]))))]) (t54_6 i4 (IntKind.wrap .i64 (k5 + 1)) (o7 ++ [y205])) from fun _ h => by simpa only [h54_6, List.map_append] using q54_6 _ h))) (
 q54_6)) (
 q54_6)))) (
 q54_3)) (
 q54_3))
 (by kernel_rfl) (fun h => head_round h)
theorem e55 (d0 : List TypeDecl) (all1 : List (List UInt8)) (codes2 : List (List Int)) (b3 : List Int) {r : (List UInt8)}
 (h : (
 t55_3 d0 all1 codes2 b3 0 ([] : List (List UInt8)) : Option (List UInt8)) = some r) :
 f55 d0 all1 codes2 b3 = some r :=
 lift2 (E := E55) h (
 q55_3)
 (by kernel_rfl) (fun h => run_body (C := cods) rfl h)
theorem k55_3 (d0 : List TypeDecl) (all1 : List (List UInt8)) (codes2 : List (List Int)) (b3 : List Int) (i10 : Int) (o9 : List (List UInt8)) {r : (List UInt8)}
 (h : (
 bif (decide (i10 < (List.length all1 : Int))) then (
 getK codes2 i10 fun x201 =>
 Option.bind (f102 x201 b3) fun y203 =>
 bif y203 then (
 getK all1 i10 fun x205 =>
 some x205)
 else (
 Option.bind (f103 b3 i10) fun y207 =>
 bif y207 then (
 getK all1 i10 fun x209 =>
 check ((List.length o9 + List.length [x209]) * 16 ≤ 140737488355328 ∧ List.length o9 + List.length [x209] ≤ 4611686018427387904) (
 t55_3 d0 all1 codes2 b3 (IntKind.wrap .i64 (i10 + 1)) (o9 ++ [x209])))
 else (
 t55_3 d0 all1 codes2 b3 (IntKind.wrap .i64 (i10 + 1)) o9)))
 else (
 Option.bind (f104 d0 o9) fun y211 =>
 Option.bind (f104 d0 o9) fun y213 =>
 t55_12 y213 [] 0) : Option (List UInt8)) = some r) :
 t55_3 d0 all1 codes2 b3 i10 o9 = some r :=
 lift2 (E := E55) h (
 I_cond (c := (decide (i10 < (List.length (List.map eStr all1) : Int)))) (by simp only [List.length_map]) (
 I_getK (enc := (eLst 1 (eInt .u64))) rfl fun x201 =>
 I_call (enc := R102.enc) s102 fun y203 =>
 I_cond rfl (
 I_getK (enc := eStr) rfl fun x205 =>
 I_some rfl) (
 I_call (enc := R103.enc) s103 fun y207 =>
 I_cond rfl (
 I_getK (enc := eStr) rfl fun x209 =>
 I_check (p := (List.length (List.map eStr o9) + List.length (List.map eStr [x209])) * 16 ≤ 140737488355328 ∧ List.length (List.map eStr o9) + List.length (List.map eStr [x209]) ≤ 4611686018427387904) (by simp only [List.length_map]; exact id) (
 (show Imp E55 (headT P cods H prim 55 3 [] [(0, (.pv (.lst 3 (List.map TypeDecl.enc d0)))), (1, (.pv (.lst 1 (List.map eStr all1)))), (2, (.pv (.lst 1 (List.map (eLst 1 (eInt .u64)) codes2)))), (3, (.pv (.lst 1 (List.map (eInt .u64) b3)))), (9, (.row 9)), (10, (.pv (.int .i64 (IntKind.wrap .i64 (i10 + 1)))))] [(9, (.row 9 1 ((List.map eStr o9) ++ (List.map eStr [x209]))))]) (t55_3 d0 all1 codes2 b3 (IntKind.wrap .i64 (i10 + 1)) (o9 ++ [x209])) from fun _ h => by simpa only [h55_3, List.map_append] using q55_3 _ h))) (
 q55_3))) (
 I_call (enc := R104.enc) s104 fun y211 =>
 I_call (enc := R104.enc) s104 fun y213 =>
 q55_12))
 (by kernel_rfl) (fun h => head_round h)
theorem k55_12 (l9 : List (List UInt8)) (s11 : List UInt8) (i12 : Int) {r : (List UInt8)}
 (h : (
 bif (decide (i12 < (List.length l9 : Int))) then (
 bif (decide (i12 > 0)) then (
 check (List.length s11 + List.length ([38] : List UInt8) ≤ 9223372036854775807) (
 getK l9 i12 fun x201 =>
 check (List.length (s11 ++ [38]) + List.length x201 ≤ 9223372036854775807) (
 t55_12 l9 ((s11 ++ [38]) ++ x201) (IntKind.wrap .i64 (i12 + 1)))))
 else (
 getK l9 i12 fun x203 =>
 check (List.length s11 + List.length x203 ≤ 9223372036854775807) (
 t55_12 l9 (s11 ++ x203) (IntKind.wrap .i64 (i12 + 1)))))
 else (
 some s11) : Option (List UInt8)) = some r) :
 t55_12 l9 s11 i12 = some r :=
 lift2 (E := E55) h (
 I_cond (c := (decide (i12 < (List.length (List.map eStr l9) : Int)))) (by simp only [List.length_map]) (
 I_cond rfl (
 I_check id (
 I_getK (enc := eStr) rfl fun x201 =>
 I_check id (
 (show Imp E55 (headT P cods H prim 55 12 [] [(9, (.pv (.lst 1 (List.map eStr l9)))), (11, (.pv (.str ((s11 ++ [38]) ++ x201)))), (12, (.pv (.int .i64 (IntKind.wrap .i64 (i12 + 1)))))] []) (t55_12 l9 ((s11 ++ [38]) ++ x201) (IntKind.wrap .i64 (i12 + 1))) from fun _ h => by simpa only [h55_12, List.map_append] using q55_12 _ h)))) (
 I_getK (enc := eStr) rfl fun x203 =>
 I_check id (
 (show Imp E55 (headT P cods H prim 55 12 [] [(9, (.pv (.lst 1 (List.map eStr l9)))), (11, (.pv (.str (s11 ++ x203)))), (12, (.pv (.int .i64 (IntKind.wrap .i64 (i12 + 1)))))] []) (t55_12 l9 (s11 ++ x203) (IntKind.wrap .i64 (i12 + 1))) from fun _ h => by simpa only [h55_12, List.map_append] using q55_12 _ h)))) (
 I_some rfl))
 (by kernel_rfl) (fun h => head_round h)
theorem e56 (a0 : Coded) (b1 : Coded) {r : Bool}
 (h : (
 Option.bind (f105 a0.Code) fun y201 =>
 Option.bind (f105 b1.Code) fun y203 =>
 bif (decide (y201 > y203)) then (
 some true)
 else (
 bif (y201 == y203) then (
 some (Op.bytesLess a0.Name b1.Name))
 else (
 some false)) : Option Bool) = some r) :
 f56 a0 b1 = some r :=
 lift2 (E := E56) h (
 I_call (enc := R105.enc) s105 fun y201 =>
 I_call (enc := R105.enc) s105 fun y203 =>
 I_cond rfl (
 I_some rfl) (
 I_cond rfl (
 I_some rfl) (
 I_some rfl)))
 (by kernel_rfl) (fun h => run_body (C := cods) rfl h)
theorem e57 (a0 : List Int) (b1 : List Int) {r : Bool}
 (h : (
 bif ((List.length a0 : Int) != (List.length b1 : Int)) then (
 some false)
 else (
 t57_4 a0 b1 0) : Option Bool) = some r) :
 f57 a0 b1 = some r :=
 lift2 (E := E57) h (
 I_cond (c := ((List.length (List.map (eInt .u64) a0) : Int) != (List.length (List.map (eInt .u64) b1) : Int))) (by simp only [List.length_map]) (
 I_some rfl) (
 q57_4))
 (by kernel_rfl) (fun h => run_body (C := cods) rfl h)
theorem k57_4 (a0 : List Int) (b1 : List Int) (i5 : Int) {r : Bool}
 (h : (
 bif (decide (i5 < (List.length a0 : Int))) then (
 getK a0 i5 fun x201 =>
 getK b1 i5 fun x203 =>
 bif (x201 != x203) then (
 some false)
 else (
 t57_4 a0 b1 (IntKind.wrap .i64 (i5 + 1))))
 else (
 some true) : Option Bool) = some r) :
 t57_4 a0 b1 i5 = some r :=
 lift2 (E := E57) h (
 I_cond (c := (decide (i5 < (List.length (List.map (eInt .u64) a0) : Int)))) (by simp only [List.length_map]) (
 I_getK (enc := (eInt .u64)) rfl fun x201 =>
 I_getK (enc := (eInt .u64)) rfl fun x203 =>
 I_cond rfl (
 I_some rfl) (
 q57_4)) (
 I_some rfl))
 (by kernel_rfl) (fun h => head_round h)
theorem e58 (l0 : List Coded) (is1_0 : List Int) {r : Int}
 (h : (
 t58_2 is1_0 l0 (List.length l0 : Int) 0 : Option Int) = some r) :
 f58 l0 is1_0 = some r :=
 lift2 (E := E58) h (
 (show Imp E58 (headT P cods H prim 58 2 [] [(1, (.pv (.fn 59 [(.ref [(.lst 1 (List.map (eInt .u64) is1_0))])]))), (7, (.pv (.lst 2 (List.map Coded.enc l0)))), (8, (.pv (.int .i64 (List.length (List.map Coded.enc l0) : Int)))), (9, (.pv (.int .i64 0)))] []) (t58_2 is1_0 l0 (List.length l0 : Int) 0) from fun _ h => by simpa only [h58_2, List.length_map] using q58_2 _ h))
 (by kernel_rfl) (fun h => run_body (C := cods) rfl h)
theorem k58_2 (is1_0 : List Int) (v7 : List Coded) (v8 : Int) (v9 : Int) {r : Int}
 (h : (
 bif (decide (v9 < v8)) then (
 getK v7 v9 fun x201 =>
 Option.bind (f59 x201 is1_0) fun y203 =>
 bif y203 then (
 some v9)
 else (
 t58_2 is1_0 v7 v8 (IntKind.wrap .i64 (v9 + 1))))
 else (
 some (-1)) : Option Int) = some r) :
 t58_2 is1_0 v7 v8 v9 = some r :=
 lift2 (E := E58) h (
 I_cond rfl (
 I_getK (enc := Coded.enc) rfl fun x201 =>
 I_call (enc := R59.enc) s59 fun y203 =>
 I_cond rfl (
 I_some rfl) (
 q58_2)) (
 I_some rfl))
 (by kernel_rfl) (fun h => head_round h)
theorem e59 (x0 : Coded) (a1 : List Int) {r : Bool}
 (h : (
 Option.bind (f31 x0.Code a1) fun y201 =>
 some y201 : Option Bool) = some r) :
 f59 x0 a1 = some r :=
 lift2 (E := E59) h (
 I_call (enc := R31.enc) s31 fun y201 =>
 I_some rfl)
 (by kernel_rfl) (fun h => run_body (C := cods) rfl h)
theorem e60 (b0 : List Int) {r : (List Int)}
 (h : (
 t60_2 b0 (List.length b0 : Int) : Option (List Int)) = some r) :
 f60 b0 = some r :=
 lift2 (E := E60) h (
 (show Imp E60 (headT P cods H prim 60 2 [] [(0, (.pv (.lst 1 (List.map (eInt .u64) b0)))), (3, (.pv (.int .i64 (List.length (List.map (eInt .u64) b0) : Int))))] []) (t60_2 b0 (List.length b0 : Int)) from fun _ h => by simpa only [h60_2, List.length_map] using q60_2 _ h))
 (by kernel_rfl) (fun h => run_body (C := cods) rfl h)
theorem k60_2 (b0 : List Int) (n3 : Int) {r : (List Int)}
 (h : (
 bif (decide (n3 > 0)) then (
 getK b0 (IntKind.wrap .i64 (n3 - 1)) fun x201 =>
 bif (x201 == 0) then (
 t60_2 b0 (IntKind.wrap .i64 (n3 - 1)))
 else (
 check (0 ≤ n3 ∧ n3 ≤ (List.length b0 : Nat)) (
 check ((List.length ([] : List Int) + List.length ((b0.take (Int.toNat n3)).drop 0)) * 8 ≤ 140737488355328 ∧ List.length ([] : List Int) + List.length ((b0.take (Int.toNat n3)).drop 0) ≤ 4611686018427387904) (
 some (([] : List Int) ++ ((b0.take (Int.toNat n3)).drop 0))))))
 else (
 check (0 ≤ n3 ∧ n3 ≤ (List.length b0 : Nat)) (
 check ((List.length ([] : List Int) + List.length ((b0.take (Int.toNat n3)).drop 0)) * 8 ≤ 140737488355328 ∧ List.length ([] : List Int) + List.length ((b0.take (Int.toNat n3)).drop 0) ≤ 4611686018427387904) (
 some (([] : List Int) ++ ((b0.take (Int.toNat n3)).drop 0))))) : Option (List Int)) = some r) :
 t60_2 b0 n3 = some r :=
 lift2 (E := E60) h (
 I_cond rfl (
 I_getK (enc := (eInt .u64)) rfl fun x201 =>
 I_cond rfl (
 q60_2) (
 I_check (p := 0 ≤ n3 ∧ n3 ≤ (List.length (List.map (eInt .u64) b0) : Nat)) (by simp only [List.length_map]; exact id) (
 I_check (p := (List.length (List.map (eInt .u64) []) + List.length (((List.map (eInt .u64) b0).take (Int.toNat n3)).drop 0)) * 8 ≤ 140737488355328 ∧ List.length (List.map (eInt .u64) []) + List.length (((List.map (eInt .u64) b0).take (Int.toNat n3)).drop 0) ≤ 4611686018427387904) (by simp only [List.length_map, List.map_take, List.map_drop, List.length_take, List.length_drop]; exact id) (
 I_some (c := ((.lst 1 ((List.map (eInt .u64) []) ++ (((List.map (eInt .u64) b0).take (Int.toNat n3)).drop 0))), [])) (by simp only [E60, R60.enc, List.map_append, List.map_take, List.map_drop]))))) (
 I_check (p := 0 ≤ n3 ∧ n3 ≤ (List.length (List.map (eInt .u64) b0) : Nat)) (by simp only [List.length_map]; exact id) (
 I_check (p := (List.length (List.map (eInt .u64) []) + List.length (((List.map (eInt .u64) b0).take (Int.toNat n3)).drop 0)) * 8 ≤ 140737488355328 ∧ List.length (List.map (eInt .u64) []) + List.length (((List.map (eInt .u64) b0).take (Int.toNat n3)).drop 0) ≤ 4611686018427387904) (by simp only [List.length_map, List.map_take, List.map_drop, List.length_take, List.length_drop]; exact id) (
 I_some (c := ((.lst 1 ((List.map (eInt .u64) []) ++ (((List.map (eInt .u64) b0).take (Int.toNat n3)).drop 0))), [])) (by simp only [E60, R60.enc, List.map_append, List.map_take, List.map_drop])))))
 (by kernel_rfl) (fun h => head_round h)
theorem e61 (a0 : List Int) (b1 : List Int) {r : (List Int)}
 (h : (
 t61_3 a0 b1 0 ([] : List Int) : Option (List Int)) = some r) :
 f61 a0 b1 = some r :=
 lift2 (E := E61) h (
 q61_3)
 (by kernel_rfl) (fun h => run_body (C := cods) rfl h)
theorem k61_3 (a0 : List Int) (b1 : List Int) (i6 : Int) (o5 : List Int) {r : (List Int)}
 (h : (
 bif (decide (i6 < (List.length a0 : Int))) then (
 getK a0 i6 fun x201 =>
 Option.bind (f106 b1 i6) fun y203 =>
 check ((List.length o5 + List.length [(IntKind.wrap .u64 ((BitVec.ofInt (IntKind.bits .u64) x201 &&& BitVec.ofInt (IntKind.bits .u64) y203).toNat : Int))]) * 8 ≤ 140737488355328 ∧ List.length o5 + List.length [(IntKind.wrap .u64 ((BitVec.ofInt (IntKind.bits .u64) x201 &&& BitVec.ofInt (IntKind.bits .u64) y203).toNat : Int))] ≤ 4611686018427387904) (
 t61_3 a0 b1 (IntKind.wrap .i64 (i6 + 1)) (o5 ++ [(IntKind.wrap .u64 ((BitVec.ofInt (IntKind.bits .u64) x201 &&& BitVec.ofInt (IntKind.bits .u64) y203).toNat : Int))])))
 else (
 Option.bind (f60 o5) fun y205 =>
 Option.bind (f60 o5) fun y207 =>
 some y207) : Option (List Int)) = some r) :
 t61_3 a0 b1 i6 o5 = some r :=
 lift2 (E := E61) h (
 I_cond (c := (decide (i6 < (List.length (List.map (eInt .u64) a0) : Int)))) (by simp only [List.length_map]) (
 I_getK (enc := (eInt .u64)) rfl fun x201 =>
 I_call (enc := R106.enc) s106 fun y203 =>
 I_check (p := (List.length (List.map (eInt .u64) o5) + List.length (List.map (eInt .u64) [(IntKind.wrap .u64 ((BitVec.ofInt (IntKind.bits .u64) x201 &&& BitVec.ofInt (IntKind.bits .u64) y203).toNat : Int))])) * 8 ≤ 140737488355328 ∧ List.length (List.map (eInt .u64) o5) + List.length (List.map (eInt .u64) [(IntKind.wrap .u64 ((BitVec.ofInt (IntKind.bits .u64) x201 &&& BitVec.ofInt (IntKind.bits .u64) y203).toNat : Int))]) ≤ 4611686018427387904) (by simp only [List.length_map]; exact id) (
 (show Imp E61 (headT P cods H prim 61 3 [] [(0, (.pv (.lst 1 (List.map (eInt .u64) a0)))), (1, (.pv (.lst 1 (List.map (eInt .u64) b1)))), (5, (.row 5)), (6, (.pv (.int .i64 (IntKind.wrap .i64 (i6 + 1)))))] [(5, (.row 37 1 ((List.map (eInt .u64) o5) ++ (List.map (eInt .u64) [(IntKind.wrap .u64 ((BitVec.ofInt (IntKind.bits .u64) x201 &&& BitVec.ofInt (IntKind.bits .u64) y203).toNat : Int))]))))]) (t61_3 a0 b1 (IntKind.wrap .i64 (i6 + 1)) (o5 ++ [(IntKind.wrap .u64 ((BitVec.ofInt (IntKind.bits .u64) x201 &&& BitVec.ofInt (IntKind.bits .u64) y203).toNat : Int))])) from fun _ h => by simpa only [h61_3, List.map_append] using q61_3 _ h))) (
 I_call (enc := R60.enc) s60 fun y205 =>
 I_call (enc := R60.enc) s60 fun y207 =>
 I_some rfl))
 (by kernel_rfl) (fun h => head_round h)
theorem e63 (a0 : List Int) (b1 : List Int) {r : Bool}
 (h : (
 t63_2 b1 a0 (List.length a0 : Int) 0 : Option Bool) = some r) :
 f63 a0 b1 = some r :=
 lift2 (E := E63) h (
 (show Imp E63 (headT P cods H prim 63 2 [] [(1, (.pv (.lst 1 (List.map (eInt .u64) b1)))), (7, (.pv (.lst 1 (List.map (eInt .u64) a0)))), (8, (.pv (.int .i64 (List.length (List.map (eInt .u64) a0) : Int)))), (9, (.pv (.int .i64 0)))] []) (t63_2 b1 a0 (List.length a0 : Int) 0) from fun _ h => by simpa only [h63_2, List.length_map] using q63_2 _ h))
 (by kernel_rfl) (fun h => run_body (C := cods) rfl h)
theorem k63_2 (b1 : List Int) (v7 : List Int) (v8 : Int) (v9 : Int) {r : Bool}
 (h : (
 bif (decide (v9 < v8)) then (
 getK v7 v9 fun x201 =>
 Option.bind (f107 b1 v9) fun y203 =>
 bif ((IntKind.wrap .u64 ((BitVec.ofInt (IntKind.bits .u64) x201 &&& ~~~BitVec.ofInt (IntKind.bits .u64) y203).toNat : Int)) != 0) then (
 some false)
 else (
 t63_2 b1 v7 v8 (IntKind.wrap .i64 (v9 + 1))))
 else (
 some true) : Option Bool) = some r) :
 t63_2 b1 v7 v8 v9 = some r :=
 lift2 (E := E63) h (
 I_cond rfl (
 I_getK (enc := (eInt .u64)) rfl fun x201 =>
 I_call (enc := R107.enc) s107 fun y203 =>
 I_cond rfl (
 I_some rfl) (
 q63_2)) (
 I_some rfl))
 (by kernel_rfl) (fun h => head_round h)
theorem k64_3 (a0 : List Int) (b1 : List Int) (i6 : Int) (o5 : List Int) {r : (List Int)}
 (h : (
 bif (decide (i6 < (if (List.length b1 : Int) > (List.length a0 : Int) then (List.length b1 : Int) else (List.length a0 : Int)))) then (
 Option.bind (f106 a0 i6) fun y201 =>
 Option.bind (f106 b1 i6) fun y203 =>
 check ((List.length o5 + List.length [(IntKind.wrap .u64 ((BitVec.ofInt (IntKind.bits .u64) y201 ||| BitVec.ofInt (IntKind.bits .u64) y203).toNat : Int))]) * 8 ≤ 140737488355328 ∧ List.length o5 + List.length [(IntKind.wrap .u64 ((BitVec.ofInt (IntKind.bits .u64) y201 ||| BitVec.ofInt (IntKind.bits .u64) y203).toNat : Int))] ≤ 4611686018427387904) (
 t64_3 a0 b1 (IntKind.wrap .i64 (i6 + 1)) (o5 ++ [(IntKind.wrap .u64 ((BitVec.ofInt (IntKind.bits .u64) y201 ||| BitVec.ofInt (IntKind.bits .u64) y203).toNat : Int))])))
 else (
 Option.bind (f60 o5) fun y205 =>
 Option.bind (f60 o5) fun y207 =>
 some y207) : Option (List Int)) = some r) :
 t64_3 a0 b1 i6 o5 = some r :=
 lift2 (E := E64) h (
 I_cond (c := (decide (i6 < (if (List.length (List.map (eInt .u64) b1) : Int) > (List.length (List.map (eInt .u64) a0) : Int) then (List.length (List.map (eInt .u64) b1) : Int) else (List.length (List.map (eInt .u64) a0) : Int))))) (by simp only [List.length_map]) (
 I_call (enc := R106.enc) s106 fun y201 =>
 I_call (enc := R106.enc) s106 fun y203 =>
 I_check (p := (List.length (List.map (eInt .u64) o5) + List.length (List.map (eInt .u64) [(IntKind.wrap .u64 ((BitVec.ofInt (IntKind.bits .u64) y201 ||| BitVec.ofInt (IntKind.bits .u64) y203).toNat : Int))])) * 8 ≤ 140737488355328 ∧ List.length (List.map (eInt .u64) o5) + List.length (List.map (eInt .u64) [(IntKind.wrap .u64 ((BitVec.ofInt (IntKind.bits .u64) y201 ||| BitVec.ofInt (IntKind.bits .u64) y203).toNat : Int))]) ≤ 4611686018427387904) (by simp only [List.length_map]; exact id) (
 (show Imp E64 (headT P cods H prim 64 3 [] [(0, (.pv (.lst 1 (List.map (eInt .u64) a0)))), (1, (.pv (.lst 1 (List.map (eInt .u64) b1)))), (5, (.row 5)), (6, (.pv (.int .i64 (IntKind.wrap .i64 (i6 + 1)))))] [(5, (.row 37 1 ((List.map (eInt .u64) o5) ++ (List.map (eInt .u64) [(IntKind.wrap .u64 ((BitVec.ofInt (IntKind.bits .u64) y201 ||| BitVec.ofInt (IntKind.bits .u64) y203).toNat : Int))]))))]) (t64_3 a0 b1 (IntKind.wrap .i64 (i6 + 1)) (o5 ++ [(IntKind.wrap .u64 ((BitVec.ofInt (IntKind.bits .u64) y201 ||| BitVec.ofInt (IntKind.bits .u64) y203).toNat : Int))])) from fun _ h => by simpa only [h64_3, List.map_append] using q64_3 _ h))) (
 I_call (enc := R60.enc) s60 fun y205 =>
 I_call (enc := R60.enc) s60 fun y207 =>
 I_some rfl))
 (by kernel_rfl) (fun h => head_round h)
end Go.Proofs.YtneahmpmicoplaaGreatDoor.cl
