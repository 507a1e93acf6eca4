/-
  The Closure laws: the bodies of the plain functions and loops, by program (decomp.py).
-/
import Derived.Test.YtneahmpmicoplaaGreatDoorClD
import Derived.Test.YtneahmpmicoplaaGreatDoorClE
set_option linter.unusedVariables false
set_option linter.unusedSimpArgs false
set_option maxRecDepth 100000
namespace Go.Proofs.YtneahmpmicoplaaGreatDoor.cl
open Go Go.AM
/-- grammarlab/grammarlablaw04.ClosureFinds -/
theorem e4 (d0 : List TypeDecl) (code1 : List Int) (i2 : Int) {r : Bool}
  (h : (
    Option.bind (f17 d0 i2 0) fun y201 =>
    bif (!y201.2.2.2) then (
      Option.bind (f13 ) fun y203 =>
      some y203)
    else (
      bif (decide ((List.length code1 : Int) > 70)) then (
        Option.bind (f13 ) fun y205 =>
        some y205)
      else (
        Option.bind (f18 y201.1 code1) fun y207 =>
        Option.bind (f19 y201.1 code1) fun y209 =>
        bif (y207 == y209) then (
          getK y201.1 y201.2.1 fun x211 =>
          check ((List.length ([] : List Int) + List.length x211.Code) * 8 ≤ 140737488355328 ∧ List.length ([] : List Int) + List.length x211.Code ≤ 4611686018427387904) (
          check ((List.length (([] : List Int) ++ x211.Code) + List.length [0]) * 8 ≤ 140737488355328 ∧ List.length (([] : List Int) ++ x211.Code) + List.length [0] ≤ 4611686018427387904) (
          Option.bind (f18 y201.1 ((([] : List Int) ++ x211.Code) ++ [0])) fun y213 =>
          bif (y213 == y201.2.1) then (
            Option.bind (f13 ) fun y215 =>
            some y215)
          else (
            some false))))
        else (
          some false))) : Option Bool) = some r) :
  f4 d0 code1 i2 = some r :=
  lift (E := E4) (b4 d0 code1 i2) h (
    I_call s17 fun y201 =>
    I_cond rfl (
      I_call s13 fun y203 =>
      I_some rfl) (
      I_cond (by simp only [List.length_map]) (
        I_call s13 fun y205 =>
        I_some rfl) (
        I_call s18 fun y207 =>
        I_call s19 fun y209 =>
        I_cond rfl (
          I_getK rfl fun x211 =>
          I_check (by simp only [List.length_map]; exact id) (
          I_check (by simp only [List.length_map, List.map_append, List.length_append]; exact id) (
          I_call (fun _ h => by simpa only [List.map_append] using s18 _ h) fun y213 =>
          I_cond rfl (
            I_call s13 fun y215 =>
            I_some rfl) (
            I_some rfl)))) (
          I_some rfl))))

/-- grammarlab/grammarlablaw04.ClosureRelations -/
theorem e5 (d0 : List TypeDecl) (i1 : Int) (j2 : Int) {r : Bool}
  (h : (
    Option.bind (f17 d0 i1 j2) fun y201 =>
    bif (!y201.2.2.2) then (
      Option.bind (f13 ) fun y203 =>
      some y203)
    else (
      Option.bind (f20 y201.1 y201.2.1 y201.2.2.1) fun y205 =>
      Option.bind (f21 y201.1 y201.2.1 y201.2.2.1) fun y207 =>
      bif (y205 == y207) then (
        Option.bind (f22 y201.1 y201.2.1 y201.2.2.1) fun y209 =>
        Option.bind (f23 y201.1 y201.2.1 y201.2.2.1) fun y211 =>
        bif (y209 == y211) then (
          Option.bind (f24 y201.1 y201.2.1 y201.2.2.1) fun y213 =>
          Option.bind (f25 y201.1 y201.2.1 y201.2.2.1) fun y215 =>
          bif (y213 == y215) then (
            Option.bind (f27 y201.1 y201.2.1) fun y217 =>
            Option.bind (f28 y201.1 y201.2.1) fun y219 =>
            Option.bind (f26 y217 y219) fun y221 =>
            bif y221 then (
              Option.bind (f13 ) fun y223 =>
              some y223)
            else (
              some false))
          else (
            some false))
        else (
          some false))
      else (
        some false)) : Option Bool) = some r) :
  f5 d0 i1 j2 = some r :=
  lift (E := E5) (b5 d0 i1 j2) h (
    I_call s17 fun y201 =>
    I_cond rfl (
      I_call s13 fun y203 =>
      I_some rfl) (
      I_call s20 fun y205 =>
      I_call s21 fun y207 =>
      I_cond rfl (
        I_call s22 fun y209 =>
        I_call s23 fun y211 =>
        I_cond rfl (
          I_call s24 fun y213 =>
          I_call s25 fun y215 =>
          I_cond rfl (
            I_call s27 fun y217 =>
            I_call s28 fun y219 =>
            I_call s26 fun y221 =>
            I_cond rfl (
              I_call s13 fun y223 =>
              I_some rfl) (
              I_some rfl)) (
            I_some rfl)) (
          I_some rfl)) (
        I_some rfl)))

/-- grammarlab/grammarlablaw04.ClosureLaws -/
theorem e8 (d0 : List TypeDecl) (a1_0 : Int) (a1_1 : Int) (a1_2 : Int) {r : Bool}
  (h : (
    Option.bind (f17 d0 a1_0 a1_1) fun y201 =>
    bif (!y201.2.2.2) then (
      Option.bind (f13 ) fun y203 =>
      some y203)
    else (
      check ((List.length y201.1 : Int) ≠ 0) (
      Option.bind (f20 y201.1 y201.2.1 y201.2.2.1) fun y205 =>
      Option.bind (f22 y201.1 y201.2.1 y201.2.2.1) fun y207 =>
      Option.bind (f22 y201.1 y201.2.2.1 (Int.tmod (IntKind.wrap .i64 (a1_2)) (List.length y201.1 : Int))) fun y209 =>
      bif (decide (y207 < 0)) then (
        some false)
      else (
        bif (decide (y207 ≥ (List.length y201.1 : Int))) then (
          some false)
        else (
          bif (decide (y209 < 0)) then (
            some false)
          else (
            bif (decide (y209 ≥ (List.length y201.1 : Int))) then (
              some false)
            else (
              Option.bind (f20 y201.1 y201.2.2.1 y201.2.1) fun y211 =>
              bif (y205 != y211) then (
                some false)
              else (
                Option.bind (f22 y201.1 y201.2.2.1 y201.2.1) fun y213 =>
                bif (y207 != y213) then (
                  some false)
                else (
                  Option.bind (f20 y201.1 y201.2.1 y201.2.1) fun y215 =>
                  bif (y215 != y201.2.1) then (
                    some false)
                  else (
                    Option.bind (f22 y201.1 y201.2.1 y201.2.1) fun y217 =>
                    bif (y217 != y201.2.1) then (
                      some false)
                    else (
                      Option.bind (f22 y201.1 y207 (Int.tmod (IntKind.wrap .i64 (a1_2)) (List.length y201.1 : Int))) fun y219 =>
                      Option.bind (f22 y201.1 y201.2.1 y209) fun y221 =>
                      bif (y219 != y221) then (
                        some false)
                      else (
                        Option.bind (f33 y201.1 y201.2.1 y201.2.2.1 (Int.tmod (IntKind.wrap .i64 (a1_2)) (List.length y201.1 : Int))) fun y223 =>
                        Option.bind (f33 y201.1 y201.2.2.1 (Int.tmod (IntKind.wrap .i64 (a1_2)) (List.length y201.1 : Int)) y201.2.1) fun y225 =>
                        bif (y223 != y225) then (
                          some false)
                        else (
                          Option.bind (f24 y201.1 y201.2.1 y201.2.2.1) fun y227 =>
                          bif (y227 == (y205 == y201.2.2.1)) then (
                            bif (y227 == (y207 == y201.2.1)) then (
                              Option.bind (f13 ) fun y229 =>
                              some y229)
                            else (
                              some false))
                          else (
                            some false))))))))))))) : Option Bool) = some r) :
  f8 d0 a1_0 a1_1 a1_2 = some r :=
  lift (E := E8) (b8 d0 a1_0 a1_1 a1_2) h (
    I_call s17 fun y201 =>
    I_cond rfl (
      I_call s13 fun y203 =>
      I_some rfl) (
      I_check (by simp only [List.length_map]; exact id) (
      I_call s20 fun y205 =>
      I_call s22 fun y207 =>
      I_call (fun _ h => by simpa only [List.length_map] using s22 _ h) fun y209 =>
      I_cond rfl (
        I_some rfl) (
        I_cond (by simp only [List.length_map]) (
          I_some rfl) (
          I_cond rfl (
            I_some rfl) (
            I_cond (by simp only [List.length_map]) (
              I_some rfl) (
              I_call s20 fun y211 =>
              I_cond rfl (
                I_some rfl) (
                I_call s22 fun y213 =>
                I_cond rfl (
                  I_some rfl) (
                  I_call s20 fun y215 =>
                  I_cond rfl (
                    I_some rfl) (
                    I_call s22 fun y217 =>
                    I_cond rfl (
                      I_some rfl) (
                      I_call (fun _ h => by simpa only [List.length_map] using s22 _ h) fun y219 =>
                      I_call s22 fun y221 =>
                      I_cond rfl (
                        I_some rfl) (
                        I_call (fun _ h => by simpa only [List.length_map] using s33 _ h) fun y223 =>
                        I_call (fun _ h => by simpa only [List.length_map] using s33 _ h) fun y225 =>
                        I_cond rfl (
                          I_some rfl) (
                          I_call s24 fun y227 =>
                          I_cond rfl (
                            I_cond rfl (
                              I_call s13 fun y229 =>
                              I_some rfl) (
                              I_some rfl)) (
                            I_some rfl))))))))))))))

/-- grammarlab/grammarlablaw04.ClosureChains -/
theorem e9 (d0 : List TypeDecl) (i1 : Int) {r : Bool}
  (h : (
    Option.bind (f17 d0 i1 0) fun y201 =>
    bif (!y201.2.2.2) then (
      Option.bind (f13 ) fun y203 =>
      some y203)
    else (
      check (0 ≤ (List.length y201.1 : Int) ∧ (List.length y201.1 : Int) ≤ (List.length y201.1 : Int) ∧ 1 * Int.toNat (List.length y201.1 : Int) ≤ 281474976710656 ∧ (List.length y201.1 : Int) ≤ 9223372036854775807) (
      check (0 ≤ y201.2.1 ∧ Int.toNat y201.2.1 < List.length (List.replicate (Int.toNat (List.length y201.1 : Int)) false)) (
      getN (List.replicate (Int.toNat (List.length y201.1 : Int)) false) (Int.toNat y201.2.1) fun x205 =>
      t9_8 y201.1 y201.2.1 0 ((List.replicate (Int.toNat (List.length y201.1 : Int)) false).set (Int.toNat y201.2.1) true) [y201.2.1]))) : Option Bool) = some r) :
  f9 d0 i1 = some r :=
  lift (E := E9) (b9 d0 i1) h (
    I_call s17 fun y201 =>
    I_cond rfl (
      I_call s13 fun y203 =>
      I_some rfl) (
      I_check (by simp only [List.length_map]; exact id) (
      I_check (by simp only [List.length_map, List.map_replicate, List.length_replicate]; exact id) (
      I_getN (by simp only [List.length_map, List.map_replicate, List.length_replicate]) fun x205 =>
      (fun _ h => by simpa only [List.length_map, List.map_set, List.length_set, List.map_replicate, List.length_replicate] using q9_8 _ h)))))

/-- grammarlab/grammarlablaw04.ClosureChains, loop 8 -/
theorem k9_8 (l5 : List Coded) (a6 : Int) (n11 : Int) (o29 : List Bool) (o34 : List Int) {r : Bool}
  (h : (
    bif (decide (n11 < (List.length o34 : Int))) then (
      check (0 ≤ n11 ∧ Int.toNat n11 < List.length o34) (
      getN o34 (Int.toNat n11) fun x201 =>
      Option.bind (f27 l5 x201) fun y203 =>
      bif ((List.length y203 : Int) == 0) then (
        check (0 ≤ n11 ∧ Int.toNat n11 < List.length o34) (
        getN o34 (Int.toNat n11) fun x205 =>
        bif (x205 != 0) then (
          some false)
        else (
          bif (decide ((List.length y203 : Int) > 0)) then (
            check (0 ≤ n11 ∧ Int.toNat n11 < List.length o34) (
            getN o34 (Int.toNat n11) fun x207 =>
            bif (x207 == 0) then (
              some false)
            else (
              t9_14 l5 a6 n11 y203 (List.length y203 : Int) 0 o29 o34)))
          else (
            t9_14 l5 a6 n11 y203 (List.length y203 : Int) 0 o29 o34))))
      else (
        bif (decide ((List.length y203 : Int) > 0)) then (
          check (0 ≤ n11 ∧ Int.toNat n11 < List.length o34) (
          getN o34 (Int.toNat n11) fun x209 =>
          bif (x209 == 0) then (
            some false)
          else (
            t9_14 l5 a6 n11 y203 (List.length y203 : Int) 0 o29 o34)))
        else (
          t9_14 l5 a6 n11 y203 (List.length y203 : Int) 0 o29 o34))))
    else (
      t9_23 l5 a6 (List.length l5 : Int) 0 o29) : Option Bool) = some r) :
  t9_8 l5 a6 n11 o29 o34 = some r :=
  lift (E := E9) (L9_8 l5 a6 n11 o29 o34) h (
    I_cond (by simp only [List.length_map]) (
      I_check (by simp only [List.length_map]; exact id) (
      I_getN rfl fun x201 =>
      I_call s27 fun y203 =>
      I_cond (by simp only [List.length_map]) (
        I_check (by simp only [List.length_map]; exact id) (
        I_getN rfl fun x205 =>
        I_cond rfl (
          I_some rfl) (
          I_cond (by simp only [List.length_map]) (
            I_check (by simp only [List.length_map]; exact id) (
            I_getN rfl fun x207 =>
            I_cond rfl (
              I_some rfl) (
              (fun _ h => by simpa only [List.length_map] using q9_14 _ h)))) (
            (fun _ h => by simpa only [List.length_map] using q9_14 _ h))))) (
        I_cond (by simp only [List.length_map]) (
          I_check (by simp only [List.length_map]; exact id) (
          I_getN rfl fun x209 =>
          I_cond rfl (
            I_some rfl) (
            (fun _ h => by simpa only [List.length_map] using q9_14 _ h)))) (
          (fun _ h => by simpa only [List.length_map] using q9_14 _ h))))) (
      (fun _ h => by simpa only [List.length_map] using q9_23 _ h)))

/-- grammarlab/grammarlablaw04.ClosureChains, loop 14 -/
theorem k9_14 (l5 : List Coded) (a6 : Int) (n11 : Int) (v69 : List Int) (v70 : Int) (v71 : Int) (o29 : List Bool) (o34 : List Int) {r : Bool}
  (h : (
    bif (decide (v71 < v70)) then (
      getK v69 v71 fun x201 =>
      bif (decide (x201 < 0)) then (
        some false)
      else (
        check (0 ≤ n11 ∧ Int.toNat n11 < List.length o34) (
        getN o34 (Int.toNat n11) fun x203 =>
        bif (decide (x201 ≥ x203)) then (
          some false)
        else (
          check (0 ≤ x201 ∧ Int.toNat x201 < List.length o29) (
          getN o29 (Int.toNat x201) fun x205 =>
          bif (!x205) then (
            check (0 ≤ x201 ∧ Int.toNat x201 < List.length o29) (
            getN o29 (Int.toNat x201) fun x207 =>
            check ((List.length o34 + List.length [x201]) * 8 ≤ 140737488355328 ∧ List.length o34 + List.length [x201] ≤ 4611686018427387904) (
            t9_14 l5 a6 n11 v69 v70 (IntKind.wrap .i64 (v71 + 1)) (o29.set (Int.toNat x201) true) (o34 ++ [x201]))))
          else (
            t9_14 l5 a6 n11 v69 v70 (IntKind.wrap .i64 (v71 + 1)) o29 o34))))))
    else (
      t9_8 l5 a6 (IntKind.wrap .i64 (n11 + 1)) o29 o34) : Option Bool) = some r) :
  t9_14 l5 a6 n11 v69 v70 v71 o29 o34 = some r :=
  lift (E := E9) (L9_14 l5 a6 n11 v69 v70 v71 o29 o34) h (
    I_cond rfl (
      I_getK rfl fun x201 =>
      I_cond rfl (
        I_some rfl) (
        I_check (by simp only [List.length_map]; exact id) (
        I_getN rfl fun x203 =>
        I_cond rfl (
          I_some rfl) (
          I_check (by simp only [List.length_map]; exact id) (
          I_getN rfl fun x205 =>
          I_cond rfl (
            I_check (by simp only [List.length_map]; exact id) (
            I_getN rfl fun x207 =>
            I_check (by simp only [List.length_map]; exact id) (
            (fun _ h => by simpa only [List.map_append, List.map_set] using q9_14 _ h)))) (
            q9_14)))))) (
      q9_8))

/-- grammarlab/grammarlablaw04.ClosureChains, loop 23 -/
theorem k9_23 (l5 : List Coded) (a6 : Int) (v99 : Int) (v100 : Int) (o29 : List Bool) {r : Bool}
  (h : (
    bif (decide (v100 < v99)) then (
      check (0 ≤ v100 ∧ Int.toNat v100 < List.length o29) (
      getN o29 (Int.toNat v100) fun x201 =>
      Option.bind (f24 l5 v100 a6) fun y203 =>
      bif (!(x201 == y203)) then (
        some false)
      else (
        t9_23 l5 a6 v99 (IntKind.wrap .i64 (v100 + 1)) o29)))
    else (
      Option.bind (f13 ) fun y205 =>
      some y205) : Option Bool) = some r) :
  t9_23 l5 a6 v99 v100 o29 = some r :=
  lift (E := E9) (L9_23 l5 a6 v99 v100 o29) h (
    I_cond rfl (
      I_check (by simp only [List.length_map]; exact id) (
      I_getN rfl fun x201 =>
      I_call s24 fun y203 =>
      I_cond rfl (
        I_some rfl) (
        q9_23))) (
      I_call s13 fun y205 =>
      I_some rfl))

/-- grammarlab/grammarlablaw04.light -/
theorem e12 (d0 : List TypeDecl) {r : Bool}
  (h : (
    Option.bind (f38 d0) fun y201 =>
    bif y201 then (
      some (decide ((List.length d0 : Int) ≤ 12)))
    else (
      some false) : Option Bool) = some r) :
  f12 d0 = some r :=
  lift (E := E12) (b12 d0) h (
    I_call s38 fun y201 =>
    I_cond rfl (
      I_some (by simp only [E12, R12.enc, List.length_map])) (
      I_some rfl))

/-- grammarlab/grammarlabref04.Codes -/
theorem e15 (d0 : List TypeDecl) {r : ((List Coded) × Int)}
  (h : (
    Option.bind (f32 d0) fun y201 =>
    bif (y201 != 0) then (
      some (([] : List Coded), y201))
    else (
      Option.bind (f52 d0) fun y203 =>
      t15_7 d0 y203 0 ([] : List (List Int))) : Option ((List Coded) × Int)) = some r) :
  f15 d0 = some r :=
  lift (E := E15) (b15 d0) h (
    I_call s32 fun y201 =>
    I_cond rfl (
      I_some rfl) (
      I_call s52 fun y203 =>
      q15_7))

/-- grammarlab/grammarlabref04.Codes, loop 7 -/
theorem k15_7 (d0 : List TypeDecl) (all5 : List (List UInt8)) (i7 : Int) (o6 : List (List Int)) {r : ((List Coded) × Int)}
  (h : (
    bif (decide (i7 < (List.length all5 : Int))) then (
      getK all5 i7 fun x201 =>
      Option.bind (f53 d0 all5 x201) fun y203 =>
      check ((List.length o6 + List.length [y203]) * 24 ≤ 140737488355328 ∧ List.length o6 + List.length [y203] ≤ 4611686018427387904) (
      t15_7 d0 all5 (IntKind.wrap .i64 (i7 + 1)) (o6 ++ [y203])))
    else (
      Option.bind (f54 o6) fun y205 =>
      Option.bind (f54 o6) fun y207 =>
      bif (decide ((List.length y207 : Int) > 256)) then (
        some (([] : List Coded), 7))
      else (
        t15_15 d0 all5 o6 y207 ([] : List Coded) 0)) : Option ((List Coded) × Int)) = some r) :
  t15_7 d0 all5 i7 o6 = some r :=
  lift (E := E15) (L15_7 d0 all5 i7 o6) h (
    I_cond (by simp only [List.length_map]) (
      I_getK rfl fun x201 =>
      I_call s53 fun y203 =>
      I_check (by simp only [List.length_map]; exact id) (
      (fun _ h => by simpa only [List.map_append] using q15_7 _ h))) (
      I_call s54 fun y205 =>
      I_call s54 fun y207 =>
      I_cond (by simp only [List.length_map]) (
        I_some rfl) (
        q15_15)))

/-- grammarlab/grammarlabref04.Codes, loop 15 -/
theorem k15_15 (d0 : List TypeDecl) (all5 : List (List UInt8)) (codes6 : List (List Int)) (f8 : List (List Int)) (out9 : List Coded) (i10 : Int) {r : ((List Coded) × Int)}
  (h : (
    bif (decide (i10 < (List.length f8 : Int))) then (
      getK f8 i10 fun x201 =>
      Option.bind (f55 d0 all5 codes6 x201) fun y203 =>
      getK f8 i10 fun x205 =>
      t15_19 d0 all5 codes6 f8 out9 i10 (List.length out9 : Int) (Coded.mk y203 x205))
    else (
      some (out9, 0)) : Option ((List Coded) × Int)) = some r) :
  t15_15 d0 all5 codes6 f8 out9 i10 = some r :=
  lift (E := E15) (L15_15 d0 all5 codes6 f8 out9 i10) h (
    I_cond (by simp only [List.length_map]) (
      I_getK rfl fun x201 =>
      I_call s55 fun y203 =>
      I_getK rfl fun x205 =>
      (fun _ h => by simpa only [List.length_map] using q15_19 _ h)) (
      I_some rfl))

/-- grammarlab/grammarlabref04.Codes, loop 19 -/
theorem k15_19 (d0 : List TypeDecl) (all5 : List (List UInt8)) (codes6 : List (List Int)) (f8 : List (List Int)) (out9 : List Coded) (i10 : Int) (v12 : Int) (o11 : Coded) {r : ((List Coded) × Int)}
  (h : (
    bif (decide (v12 > 0)) then (
      getK out9 (IntKind.wrap .i64 (v12 - 1)) fun x201 =>
      Option.bind (f56 o11 x201) fun y203 =>
      bif y203 then (
        t15_19 d0 all5 codes6 f8 out9 i10 (IntKind.wrap .i64 (v12 - 1)) o11)
      else (
        check (0 ≤ v12 ∧ v12 ≤ (List.length out9 : Nat)) (
        check ((List.length ([] : List Coded) + List.length ((out9.take (Int.toNat v12)).drop 0)) * 40 ≤ 140737488355328 ∧ List.length ([] : List Coded) + List.length ((out9.take (Int.toNat v12)).drop 0) ≤ 4611686018427387904) (
        check ((List.length (([] : List Coded) ++ ((out9.take (Int.toNat v12)).drop 0)) + List.length [o11]) * 40 ≤ 140737488355328 ∧ List.length (([] : List Coded) ++ ((out9.take (Int.toNat v12)).drop 0)) + List.length [o11] ≤ 4611686018427387904) (
        check (0 ≤ v12 ∧ v12 ≤ (List.length out9 : Nat)) (
        check ((List.length ((([] : List Coded) ++ ((out9.take (Int.toNat v12)).drop 0)) ++ [o11]) + List.length ((out9.take (List.length out9)).drop (Int.toNat v12))) * 40 ≤ 140737488355328 ∧ List.length ((([] : List Coded) ++ ((out9.take (Int.toNat v12)).drop 0)) ++ [o11]) + List.length ((out9.take (List.length out9)).drop (Int.toNat v12)) ≤ 4611686018427387904) (
        t15_15 d0 all5 codes6 f8 (((([] : List Coded) ++ ((out9.take (Int.toNat v12)).drop 0)) ++ [o11]) ++ ((out9.take (List.length out9)).drop (Int.toNat v12))) (IntKind.wrap .i64 (i10 + 1)))))))))
    else (
      check (0 ≤ v12 ∧ v12 ≤ (List.length out9 : Nat)) (
      check ((List.length ([] : List Coded) + List.length ((out9.take (Int.toNat v12)).drop 0)) * 40 ≤ 140737488355328 ∧ List.length ([] : List Coded) + List.length ((out9.take (Int.toNat v12)).drop 0) ≤ 4611686018427387904) (
      check ((List.length (([] : List Coded) ++ ((out9.take (Int.toNat v12)).drop 0)) + List.length [o11]) * 40 ≤ 140737488355328 ∧ List.length (([] : List Coded) ++ ((out9.take (Int.toNat v12)).drop 0)) + List.length [o11] ≤ 4611686018427387904) (
      check (0 ≤ v12 ∧ v12 ≤ (List.length out9 : Nat)) (
      check ((List.length ((([] : List Coded) ++ ((out9.take (Int.toNat v12)).drop 0)) ++ [o11]) + List.length ((out9.take (List.length out9)).drop (Int.toNat v12))) * 40 ≤ 140737488355328 ∧ List.length ((([] : List Coded) ++ ((out9.take (Int.toNat v12)).drop 0)) ++ [o11]) + List.length ((out9.take (List.length out9)).drop (Int.toNat v12)) ≤ 4611686018427387904) (
      t15_15 d0 all5 codes6 f8 (((([] : List Coded) ++ ((out9.take (Int.toNat v12)).drop 0)) ++ [o11]) ++ ((out9.take (List.length out9)).drop (Int.toNat v12))) (IntKind.wrap .i64 (i10 + 1)))))))) : Option ((List Coded) × Int)) = some r) :
  t15_19 d0 all5 codes6 f8 out9 i10 v12 o11 = some r :=
  lift (E := E15) (L15_19 d0 all5 codes6 f8 out9 i10 v12 o11) h (
    I_cond rfl (
      I_getK rfl fun x201 =>
      I_call s56 fun y203 =>
      I_cond rfl (
        q15_19) (
        I_check (by simp only [List.length_map]; exact id) (
        I_check (by simp only [List.length_map, List.map_take, List.map_drop, List.length_take, List.length_drop]; exact id) (
        I_check (by simp only [List.length_map, List.map_append, List.length_append, List.map_take, List.map_drop, List.length_take, List.length_drop]; exact id) (
        I_check (by simp only [List.length_map]; exact id) (
        I_check (by simp only [List.length_map, List.map_append, List.length_append, List.map_take, List.map_drop, List.length_take, List.length_drop]; exact id) (
        (fun _ h => by simpa only [List.length_map, List.map_append, List.length_append, List.map_take, List.map_drop, List.length_take, List.length_drop] using q15_15 _ h)))))))) (
      I_check (by simp only [List.length_map]; exact id) (
      I_check (by simp only [List.length_map, List.map_take, List.map_drop, List.length_take, List.length_drop]; exact id) (
      I_check (by simp only [List.length_map, List.map_append, List.length_append, List.map_take, List.map_drop, List.length_take, List.length_drop]; exact id) (
      I_check (by simp only [List.length_map]; exact id) (
      I_check (by simp only [List.length_map, List.map_append, List.length_append, List.map_take, List.map_drop, List.length_take, List.length_drop]; exact id) (
      (fun _ h => by simpa only [List.length_map, List.map_append, List.length_append, List.map_take, List.map_drop, List.length_take, List.length_drop] using q15_15 _ h))))))))

/-- grammarlab/grammarlablaw04.types -/
theorem e17 (d0 : List TypeDecl) (i1 : Int) (j2 : Int) {r : ((List Coded) × Int × Int × Bool)}
  (h : (
    Option.bind (f12 d0) fun y201 =>
    bif (!y201) then (
      some (([] : List Coded), 0, 0, false))
    else (
      Option.bind (f15 d0) fun y203 =>
      bif (y203.2 != 0) then (
        some (([] : List Coded), 0, 0, false))
      else (
        check ((List.length y203.1 : Int) ≠ 0) (
        check ((List.length y203.1 : Int) ≠ 0) (
        some (y203.1, (Int.tmod (IntKind.wrap .i64 (i1)) (List.length y203.1 : Int)), (Int.tmod (IntKind.wrap .i64 (j2)) (List.length y203.1 : Int)), true))))) : Option ((List Coded) × Int × Int × Bool)) = some r) :
  f17 d0 i1 j2 = some r :=
  lift (E := E17) (b17 d0 i1 j2) h (
    I_call s12 fun y201 =>
    I_cond rfl (
      I_some rfl) (
      I_call s15 fun y203 =>
      I_cond rfl (
        I_some rfl) (
        I_check (by simp only [List.length_map]; exact id) (
        I_check (by simp only [List.length_map]; exact id) (
        I_some (by simp only [E17, R17.enc, List.length_map]))))))

/-- grammarlab/closure.Find -/
theorem e18 (l0 : List Coded) (code1 : List Int) {r : Int}
  (h : (
    Option.bind (f58 l0 code1) fun y201 =>
    some y201 : Option Int) = some r) :
  f18 l0 code1 = some r :=
  lift (E := E18) (b18 l0 code1) h (
    I_call s58 fun y201 =>
    I_some rfl)

/-- grammarlab/grammarlabref04.Find -/
theorem e19 (l0 : List Coded) (b1 : List Int) {r : Int}
  (h : (
    Option.bind (f60 b1) fun y201 =>
    t19_3 l0 y201 0 : Option Int) = some r) :
  f19 l0 b1 = some r :=
  lift (E := E19) (b19 l0 b1) h (
    I_call s60 fun y201 =>
    q19_3)

/-- grammarlab/grammarlabref04.Find, loop 3 -/
theorem k19_3 (l0 : List Coded) (n5 : List Int) (i6 : Int) {r : Int}
  (h : (
    bif (decide (i6 < (List.length l0 : Int))) then (
      getK l0 i6 fun x201 =>
      Option.bind (f57 x201.Code n5) fun y203 =>
      bif y203 then (
        some i6)
      else (
        t19_3 l0 n5 (IntKind.wrap .i64 (i6 + 1))))
    else (
      some (-1)) : Option Int) = some r) :
  t19_3 l0 n5 i6 = some r :=
  lift (E := E19) (L19_3 l0 n5 i6) h (
    I_cond (by simp only [List.length_map]) (
      I_getK rfl fun x201 =>
      I_call s57 fun y203 =>
      I_cond rfl (
        I_some rfl) (
        q19_3)) (
      I_some rfl))

/-- grammarlab/closure.Meet -/
theorem e20 (l0 : List Coded) (i1 : Int) (j2 : Int) {r : Int}
  (h : (
    getK l0 i1 fun x201 =>
    getK l0 j2 fun x203 =>
    Option.bind (f29 x201.Code x203.Code) fun y205 =>
    Option.bind (f18 l0 y205) fun y207 =>
    some y207 : Option Int) = some r) :
  f20 l0 i1 j2 = some r :=
  lift (E := E20) (b20 l0 i1 j2) h (
    I_getK rfl fun x201 =>
    I_getK rfl fun x203 =>
    I_call s29 fun y205 =>
    I_call s18 fun y207 =>
    I_some rfl)

/-- grammarlab/grammarlabref04.Meet -/
theorem e21 (l0 : List Coded) (i1 : Int) (j2 : Int) {r : Int}
  (h : (
    getK l0 i1 fun x201 =>
    getK l0 j2 fun x203 =>
    Option.bind (f61 x201.Code x203.Code) fun y205 =>
    Option.bind (f19 l0 y205) fun y207 =>
    some y207 : Option Int) = some r) :
  f21 l0 i1 j2 = some r :=
  lift (E := E21) (b21 l0 i1 j2) h (
    I_getK rfl fun x201 =>
    I_getK rfl fun x203 =>
    I_call s61 fun y205 =>
    I_call s19 fun y207 =>
    I_some rfl)

/-- grammarlab/closure.Join -/
theorem e22 (l0 : List Coded) (i1 : Int) (j2 : Int) {r : Int}
  (h : (
    getK l0 i1 fun x201 =>
    getK l0 j2 fun x203 =>
    Option.bind (f62 x201.Code x203.Code) fun y205 =>
    getK l0 0 fun x207 =>
    t22_4 l0 y205 x207.Code l0 (List.length l0 : Int) 0 : Option Int) = some r) :
  f22 l0 i1 j2 = some r :=
  lift (E := E22) (b22 l0 i1 j2) h (
    I_getK rfl fun x201 =>
    I_getK rfl fun x203 =>
    I_call s62 fun y205 =>
    I_getK rfl fun x207 =>
    (fun _ h => by simpa only [List.length_map] using q22_4 _ h))

/-- grammarlab/closure.Join, loop 4 -/
theorem k22_4 (l0 : List Coded) (both7 : List Int) (out8 : List Int) (v26 : List Coded) (v27 : Int) (v28 : Int) {r : Int}
  (h : (
    bif (decide (v28 < v27)) then (
      getK v26 v28 fun x201 =>
      Option.bind (f63 both7 x201.Code) fun y203 =>
      bif y203 then (
        Option.bind (f29 out8 x201.Code) fun y205 =>
        t22_4 l0 both7 y205 v26 v27 (IntKind.wrap .i64 (v28 + 1)))
      else (
        t22_4 l0 both7 out8 v26 v27 (IntKind.wrap .i64 (v28 + 1))))
    else (
      Option.bind (f18 l0 out8) fun y207 =>
      some y207) : Option Int) = some r) :
  t22_4 l0 both7 out8 v26 v27 v28 = some r :=
  lift (E := E22) (L22_4 l0 both7 out8 v26 v27 v28) h (
    I_cond rfl (
      I_getK rfl fun x201 =>
      I_call s63 fun y203 =>
      I_cond rfl (
        I_call s29 fun y205 =>
        q22_4) (
        q22_4)) (
      I_call s18 fun y207 =>
      I_some rfl))

/-- grammarlab/grammarlabref04.Join -/
theorem e23 (l0 : List Coded) (i1 : Int) (j2 : Int) {r : Int}
  (h : (
    getK l0 i1 fun x201 =>
    getK l0 j2 fun x203 =>
    Option.bind (f64 x201.Code x203.Code) fun y205 =>
    getK l0 0 fun x207 =>
    t23_4 l0 y205 x207.Code 0 : Option Int) = some r) :
  f23 l0 i1 j2 = some r :=
  lift (E := E23) (b23 l0 i1 j2) h (
    I_getK rfl fun x201 =>
    I_getK rfl fun x203 =>
    I_call s64 fun y205 =>
    I_getK rfl fun x207 =>
    q23_4)

/-- grammarlab/grammarlabref04.Join, loop 4 -/
theorem k23_4 (l0 : List Coded) (both7 : List Int) (b8 : List Int) (k9 : Int) {r : Int}
  (h : (
    bif (decide (k9 < (List.length l0 : Int))) then (
      getK l0 k9 fun x201 =>
      Option.bind (f65 both7 x201.Code) fun y203 =>
      bif y203 then (
        getK l0 k9 fun x205 =>
        Option.bind (f61 b8 x205.Code) fun y207 =>
        t23_4 l0 both7 y207 (IntKind.wrap .i64 (k9 + 1)))
      else (
        t23_4 l0 both7 b8 (IntKind.wrap .i64 (k9 + 1))))
    else (
      Option.bind (f19 l0 b8) fun y209 =>
      some y209) : Option Int) = some r) :
  t23_4 l0 both7 b8 k9 = some r :=
  lift (E := E23) (L23_4 l0 both7 b8 k9) h (
    I_cond (by simp only [List.length_map]) (
      I_getK rfl fun x201 =>
      I_call s65 fun y203 =>
      I_cond rfl (
        I_getK rfl fun x205 =>
        I_call s61 fun y207 =>
        q23_4) (
        q23_4)) (
      I_call s19 fun y209 =>
      I_some rfl))

/-- grammarlab/closure.Subsumes -/
theorem e24 (l0 : List Coded) (i1 : Int) (j2 : Int) {r : Bool}
  (h : (
    getK l0 j2 fun x201 =>
    getK l0 i1 fun x203 =>
    Option.bind (f63 x201.Code x203.Code) fun y205 =>
    some y205 : Option Bool) = some r) :
  f24 l0 i1 j2 = some r :=
  lift (E := E24) (b24 l0 i1 j2) h (
    I_getK rfl fun x201 =>
    I_getK rfl fun x203 =>
    I_call s63 fun y205 =>
    I_some rfl)

/-- grammarlab/grammarlabref04.Subsumes -/
theorem e25 (l0 : List Coded) (i1 : Int) (j2 : Int) {r : Bool}
  (h : (
    getK l0 j2 fun x201 =>
    getK l0 i1 fun x203 =>
    Option.bind (f65 x201.Code x203.Code) fun y205 =>
    some y205 : Option Bool) = some r) :
  f25 l0 i1 j2 = some r :=
  lift (E := E25) (b25 l0 i1 j2) h (
    I_getK rfl fun x201 =>
    I_getK rfl fun x203 =>
    I_call s65 fun y205 =>
    I_some rfl)

/-- grammarlab/grammarlabref02.SameInts -/
theorem e26 (a0 : List Int) (b1 : List Int) {r : Bool}
  (h : (
    bif ((List.length a0 : Int) != (List.length b1 : Int)) then (
      some false)
    else (
      t26_4 a0 b1 0) : Option Bool) = some r) :
  f26 a0 b1 = some r :=
  lift (E := E26) (b26 a0 b1) h (
    I_cond (by simp only [List.length_map]) (
      I_some rfl) (
      q26_4))

/-- grammarlab/grammarlabref02.SameInts, loop 4 -/
theorem k26_4 (a0 : List Int) (b1 : List Int) (i5 : Int) {r : Bool}
  (h : (
    bif (decide (i5 < (List.length a0 : Int))) then (
      getK a0 i5 fun x201 =>
      getK b1 i5 fun x203 =>
      bif (x201 != x203) then (
        some false)
      else (
        t26_4 a0 b1 (IntKind.wrap .i64 (i5 + 1))))
    else (
      some true) : Option Bool) = some r) :
  t26_4 a0 b1 i5 = some r :=
  lift (E := E26) (L26_4 a0 b1 i5) h (
    I_cond (by simp only [List.length_map]) (
      I_getK rfl fun x201 =>
      I_getK rfl fun x203 =>
      I_cond rfl (
        I_some rfl) (
        q26_4)) (
      I_some rfl))

/-- grammarlab/closure.Supers -/
theorem e27 (l0 : List Coded) (i1 : Int) {r : (List Int)}
  (h : (
    t27_3 i1 (List.length l0 : Int) 0 l0 ([] : List Int) ([] : List Int) : Option (List Int)) = some r) :
  f27 l0 i1 = some r :=
  lift (E := E27) (b27 l0 i1) h (
    (fun _ h => by simpa only [List.length_map] using q27_3 _ h))

/-- grammarlab/closure.Supers, loop 3 -/
theorem k27_3 (i1 : Int) (v12 : Int) (v13 : Int) (o2_0 : List Coded) (o5 : List Int) (o6 : List Int) {r : (List Int)}
  (h : (
    bif (decide (v13 < v12)) then (
      bif (v13 != i1) then (
        Option.bind (f24 o2_0 v13 i1) fun y201 =>
        bif y201 then (
          check ((List.length o5 + List.length [v13]) * 8 ≤ 140737488355328 ∧ List.length o5 + List.length [v13] ≤ 4611686018427387904) (
          t27_3 i1 v12 (IntKind.wrap .i64 (v13 + 1)) o2_0 (o5 ++ [v13]) o6))
        else (
          t27_3 i1 v12 (IntKind.wrap .i64 (v13 + 1)) o2_0 o5 o6))
      else (
        t27_3 i1 v12 (IntKind.wrap .i64 (v13 + 1)) o2_0 o5 o6))
    else (
      t27_9 o2_0 (List.length o5 : Int) 0 o5 o6) : Option (List Int)) = some r) :
  t27_3 i1 v12 v13 o2_0 o5 o6 = some r :=
  lift (E := E27) (L27_3 i1 v12 v13 o2_0 o5 o6) h (
    I_cond rfl (
      I_cond rfl (
        I_call s24 fun y201 =>
        I_cond rfl (
          I_check (by simp only [List.length_map]; exact id) (
          (fun _ h => by simpa only [List.map_append] using q27_3 _ h))) (
          q27_3)) (
        q27_3)) (
      (fun _ h => by simpa only [List.length_map] using q27_9 _ h)))

/-- grammarlab/closure.Supers, loop 9 -/
theorem k27_9 (l2 : List Coded) (v31 : Int) (v32 : Int) (o5 : List Int) (o6 : List Int) {r : (List Int)}
  (h : (
    bif (decide (v32 < v31)) then (
      check (0 ≤ v32 ∧ Int.toNat v32 < List.length o5) (
      getN o5 (Int.toNat v32) fun x201 =>
      Option.bind (f67 o5 x201 l2) fun y203 =>
      bif (!y203) then (
        check ((List.length o6 + List.length [x201]) * 8 ≤ 140737488355328 ∧ List.length o6 + List.length [x201] ≤ 4611686018427387904) (
        t27_9 l2 v31 (IntKind.wrap .i64 (v32 + 1)) o5 (o6 ++ [x201])))
      else (
        t27_9 l2 v31 (IntKind.wrap .i64 (v32 + 1)) o5 o6)))
    else (
      some o6) : Option (List Int)) = some r) :
  t27_9 l2 v31 v32 o5 o6 = some r :=
  lift (E := E27) (L27_9 l2 v31 v32 o5 o6) h (
    I_cond rfl (
      I_check (by simp only [List.length_map]; exact id) (
      I_getN rfl fun x201 =>
      I_call s67 fun y203 =>
      I_cond rfl (
        I_check (by simp only [List.length_map]; exact id) (
        (fun _ h => by simpa only [List.map_append] using q27_9 _ h))) (
        q27_9))) (
      I_some rfl))

/-- grammarlab/grammarlabref04.Supers -/
theorem e28 (l0 : List Coded) (i1 : Int) {r : (List Int)}
  (h : (
    t28_3 l0 i1 0 ([] : List Int) : Option (List Int)) = some r) :
  f28 l0 i1 = some r :=
  lift (E := E28) (b28 l0 i1) h (
    q28_3)

/-- grammarlab/grammarlabref04.Supers, loop 3 -/
theorem k28_3 (l0 : List Coded) (i1 : Int) (k6 : Int) (o5 : List Int) {r : (List Int)}
  (h : (
    bif (decide (k6 < (List.length l0 : Int))) then (
      bif (k6 == i1) then (
        t28_3 l0 i1 (IntKind.wrap .i64 (k6 + 1)) o5)
      else (
        Option.bind (f25 l0 k6 i1) fun y201 =>
        bif (!y201) then (
          t28_3 l0 i1 (IntKind.wrap .i64 (k6 + 1)) o5)
        else (
          t28_8 l0 i1 k6 true 0 o5)))
    else (
      some o5) : Option (List Int)) = some r) :
  t28_3 l0 i1 k6 o5 = some r :=
  lift (E := E28) (L28_3 l0 i1 k6 o5) h (
    I_cond (by simp only [List.length_map]) (
      I_cond rfl (
        q28_3) (
        I_call s25 fun y201 =>
        I_cond rfl (
          q28_3) (
          q28_8))) (
      I_some rfl))

/-- grammarlab/grammarlabref04.Supers, loop 8 -/
theorem k28_8 (l0 : List Coded) (i1 : Int) (k6 : Int) (direct7 : Bool) (m8 : Int) (o5 : List Int) {r : (List Int)}
  (h : (
    bif (decide (m8 < (List.length l0 : Int))) then (
      bif direct7 then (
        bif (m8 == i1) then (
          t28_8 l0 i1 k6 true (IntKind.wrap .i64 (m8 + 1)) o5)
        else (
          bif (m8 == k6) then (
            t28_8 l0 i1 k6 true (IntKind.wrap .i64 (m8 + 1)) o5)
          else (
            Option.bind (f25 l0 k6 m8) fun y201 =>
            bif (!y201) then (
              t28_8 l0 i1 k6 true (IntKind.wrap .i64 (m8 + 1)) o5)
            else (
              Option.bind (f25 l0 m8 i1) fun y203 =>
              t28_8 l0 i1 k6 (!y203) (IntKind.wrap .i64 (m8 + 1)) o5))))
      else (
        t28_8 l0 i1 k6 false (IntKind.wrap .i64 (m8 + 1)) o5))
    else (
      bif direct7 then (
        check ((List.length o5 + List.length [k6]) * 8 ≤ 140737488355328 ∧ List.length o5 + List.length [k6] ≤ 4611686018427387904) (
        t28_3 l0 i1 (IntKind.wrap .i64 (k6 + 1)) (o5 ++ [k6])))
      else (
        t28_3 l0 i1 (IntKind.wrap .i64 (k6 + 1)) o5)) : Option (List Int)) = some r) :
  t28_8 l0 i1 k6 direct7 m8 o5 = some r :=
  lift (E := E28) (L28_8 l0 i1 k6 direct7 m8 o5) h (
    I_cond (by simp only [List.length_map]) (
      I_cond rfl (
        I_cond rfl (
          q28_8) (
          I_cond rfl (
            q28_8) (
            I_call s25 fun y201 =>
            I_cond rfl (
              q28_8) (
              I_call s25 fun y203 =>
              q28_8)))) (
        q28_8)) (
      I_cond rfl (
        I_check (by simp only [List.length_map]; exact id) (
        (fun _ h => by simpa only [List.map_append] using q28_3 _ h))) (
        q28_3)))

/-- grammarlab/bits.And -/
theorem e29 (a0 : List Int) (b1 : List Int) {r : (List Int)}
  (h : (
    check (0 ≤ (if (List.length b1 : Int) < (List.length a0 : Int) then (List.length b1 : Int) else (List.length a0 : Int)) ∧ (if (List.length b1 : Int) < (List.length a0 : Int) then (List.length b1 : Int) else (List.length a0 : Int)) ≤ (if (List.length b1 : Int) < (List.length a0 : Int) then (List.length b1 : Int) else (List.length a0 : Int)) ∧ 8 * Int.toNat (if (List.length b1 : Int) < (List.length a0 : Int) then (List.length b1 : Int) else (List.length a0 : Int)) ≤ 281474976710656 ∧ (if (List.length b1 : Int) < (List.length a0 : Int) then (List.length b1 : Int) else (List.length a0 : Int)) ≤ 9223372036854775807) (
    t29_3 a0 b1 (List.length (List.replicate (Int.toNat (if (List.length b1 : Int) < (List.length a0 : Int) then (List.length b1 : Int) else (List.length a0 : Int))) 0) : Int) 0 (List.replicate (Int.toNat (if (List.length b1 : Int) < (List.length a0 : Int) then (List.length b1 : Int) else (List.length a0 : Int))) 0)) : Option (List Int)) = some r) :
  f29 a0 b1 = some r :=
  lift (E := E29) (b29 a0 b1) h (
    I_check (by simp only [List.length_map]; exact id) (
    (fun _ h => by simpa only [List.length_map, List.map_replicate, List.length_replicate] using q29_3 _ h)))

/-- grammarlab/bits.And, loop 3 -/
theorem k29_3 (a0 : List Int) (b1 : List Int) (v14 : Int) (v15 : Int) (o12 : List Int) {r : (List Int)}
  (h : (
    bif (decide (v15 < v14)) then (
      getK a0 v15 fun x201 =>
      getK b1 v15 fun x203 =>
      check (0 ≤ v15 ∧ Int.toNat v15 < List.length o12) (
      getN o12 (Int.toNat v15) fun x205 =>
      t29_3 a0 b1 v14 (IntKind.wrap .i64 (v15 + 1)) (o12.set (Int.toNat v15) (IntKind.wrap .u64 ((BitVec.ofInt (IntKind.bits .u64) x201 &&& BitVec.ofInt (IntKind.bits .u64) x203).toNat : Int)))))
    else (
      Option.bind (f68 o12) fun y207 =>
      Option.bind (f68 o12) fun y209 =>
      some y209) : Option (List Int)) = some r) :
  t29_3 a0 b1 v14 v15 o12 = some r :=
  lift (E := E29) (L29_3 a0 b1 v14 v15 o12) h (
    I_cond rfl (
      I_getK rfl fun x201 =>
      I_getK rfl fun x203 =>
      I_check (by simp only [List.length_map]; exact id) (
      I_getN rfl fun x205 =>
      (fun _ h => by simpa only [List.map_set] using q29_3 _ h))) (
      I_call s68 fun y207 =>
      I_call s68 fun y209 =>
      I_some rfl))

/-- grammarlab/bits.Equal -/
theorem e31 (a0 : List Int) (b1 : List Int) {r : Bool}
  (h : (
    Option.bind (f63 a0 b1) fun y201 =>
    bif y201 then (
      Option.bind (f63 b1 a0) fun y203 =>
      some y203)
    else (
      some false) : Option Bool) = some r) :
  f31 a0 b1 = some r :=
  lift (E := E31) (b31 a0 b1) h (
    I_call s63 fun y201 =>
    I_cond rfl (
      I_call s63 fun y203 =>
      I_some rfl) (
      I_some rfl))

/-- grammarlab/grammarlabref03.Check -/
theorem e32 (d0 : List TypeDecl) {r : Int}
  (h : (
    Option.bind (f70 d0) fun y201 =>
    bif (y201 != 0) then (
      some y201)
    else (
      Option.bind (f71 d0) fun y203 =>
      bif (y203 != 0) then (
        some y203)
      else (
        Option.bind (f72 d0) fun y205 =>
        bif (y205 != 0) then (
          some y205)
        else (
          t32_12 d0 0 0))) : Option Int) = some r) :
  f32 d0 = some r :=
  lift (E := E32) (b32 d0) h (
    I_call s70 fun y201 =>
    I_cond rfl (
      I_some rfl) (
      I_call s71 fun y203 =>
      I_cond rfl (
        I_some rfl) (
        I_call s72 fun y205 =>
        I_cond rfl (
          I_some rfl) (
          q32_12))))

/-- grammarlab/grammarlabref03.Check, loop 12 -/
theorem k32_12 (d0 : List TypeDecl) (n6 : Int) (i7 : Int) {r : Int}
  (h : (
    bif (decide (i7 < (List.length d0 : Int))) then (
      getK d0 i7 fun x201 =>
      bif ((List.length x201.Supers : Int) == 0) then (
        t32_12 d0 (IntKind.wrap .i64 (n6 + 1)) (IntKind.wrap .i64 (i7 + 1)))
      else (
        t32_12 d0 n6 (IntKind.wrap .i64 (i7 + 1))))
    else (
      bif (n6 != 1) then (
        some 1)
      else (
        Option.bind (f73 d0) fun y203 =>
        bif (decide ((List.length y203 : Int) < (List.length d0 : Int))) then (
          some 6)
        else (
          some 0))) : Option Int) = some r) :
  t32_12 d0 n6 i7 = some r :=
  lift (E := E32) (L32_12 d0 n6 i7) h (
    I_cond (by simp only [List.length_map]) (
      I_getK rfl fun x201 =>
      I_cond (by simp only [List.length_map]) (
        q32_12) (
        q32_12)) (
      I_cond rfl (
        I_some rfl) (
        I_call s73 fun y203 =>
        I_cond (by simp only [List.length_map]) (
          I_some rfl) (
          I_some rfl))))

/-- grammarlab/grammarlablaw04.meet3 -/
theorem e33 (l0 : List Coded) (a1 : Int) (b2 : Int) (c3 : Int) {r : Int}
  (h : (
    Option.bind (f20 l0 a1 b2) fun y201 =>
    bif (decide (y201 < 0)) then (
      some (-1))
    else (
      bif (decide (y201 ≥ (List.length l0 : Int))) then (
        some (-1))
      else (
        Option.bind (f20 l0 y201 c3) fun y203 =>
        some y203)) : Option Int) = some r) :
  f33 l0 a1 b2 c3 = some r :=
  lift (E := E33) (b33 l0 a1 b2 c3) h (
    I_call s20 fun y201 =>
    I_cond rfl (
      I_some rfl) (
      I_cond (by simp only [List.length_map]) (
        I_some rfl) (
        I_call s20 fun y203 =>
        I_some rfl)))

/-- grammarlab/grammarlabref03.Among -/
theorem e37 (l0 : List (List UInt8)) (s1 : List UInt8) {r : Bool}
  (h : (
    t37_2 l0 s1 0 : Option Bool) = some r) :
  f37 l0 s1 = some r :=
  lift (E := E37) (b37 l0 s1) h (
    q37_2)

/-- grammarlab/grammarlabref03.Among, loop 2 -/
theorem k37_2 (l0 : List (List UInt8)) (s1 : List UInt8) (i5 : Int) {r : Bool}
  (h : (
    bif (decide (i5 < (List.length l0 : Int))) then (
      getK l0 i5 fun x201 =>
      bif (x201 == s1) then (
        some true)
      else (
        t37_2 l0 s1 (IntKind.wrap .i64 (i5 + 1))))
    else (
      some false) : Option Bool) = some r) :
  t37_2 l0 s1 i5 = some r :=
  lift (E := E37) (L37_2 l0 s1 i5) h (
    I_cond (by simp only [List.length_map]) (
      I_getK rfl fun x201 =>
      I_cond rfl (
        I_some rfl) (
        q37_2)) (
      I_some rfl))

/-- grammarlab/grammarlabref03.Light -/
theorem e38 (d0 : List TypeDecl) {r : Bool}
  (h : (
    bif (decide ((List.length d0 : Int) > 16)) then (
      some false)
    else (
      t38_4 d0 0) : Option Bool) = some r) :
  f38 d0 = some r :=
  lift (E := E38) (b38 d0) h (
    I_cond (by simp only [List.length_map]) (
      I_some rfl) (
      q38_4))

/-- grammarlab/grammarlabref03.Light, loop 4 -/
theorem k38_4 (d0 : List TypeDecl) (i3 : Int) {r : Bool}
  (h : (
    bif (decide (i3 < (List.length d0 : Int))) then (
      getK d0 i3 fun x201 =>
      bif (decide ((List.length x201.Supers : Int) > 20)) then (
        some false)
      else (
        getK d0 i3 fun x203 =>
        bif (decide ((List.length x203.Feats : Int) > 20)) then (
          some false)
        else (
          t38_4 d0 (IntKind.wrap .i64 (i3 + 1)))))
    else (
      some true) : Option Bool) = some r) :
  t38_4 d0 i3 = some r :=
  lift (E := E38) (L38_4 d0 i3) h (
    I_cond (by simp only [List.length_map]) (
      I_getK rfl fun x201 =>
      I_cond (by simp only [List.length_map]) (
        I_some rfl) (
        I_getK rfl fun x203 =>
        I_cond (by simp only [List.length_map]) (
          I_some rfl) (
          q38_4))) (
      I_some rfl))

/-- grammarlab/grammarlabref03.Names -/
theorem e52 (d0 : List TypeDecl) {r : (List (List UInt8))}
  (h : (
    t52_3 d0 ([] : List (List UInt8)) 0 : Option (List (List UInt8))) = some r) :
  f52 d0 = some r :=
  lift (E := E52) (b52 d0) h (
    q52_3)

/-- grammarlab/grammarlabref03.Names, loop 3 -/
theorem k52_3 (d0 : List TypeDecl) (out3 : List (List UInt8)) (i4 : Int) {r : (List (List UInt8))}
  (h : (
    bif (decide (i4 < (List.length d0 : Int))) then (
      getK d0 i4 fun x201 =>
      Option.bind (f98 out3 x201.Name) fun y203 =>
      t52_3 d0 y203 (IntKind.wrap .i64 (i4 + 1)))
    else (
      some out3) : Option (List (List UInt8))) = some r) :
  t52_3 d0 out3 i4 = some r :=
  lift (E := E52) (L52_3 d0 out3 i4) h (
    I_cond (by simp only [List.length_map]) (
      I_getK rfl fun x201 =>
      I_call s98 fun y203 =>
      q52_3) (
      I_some rfl))

/-- grammarlab/grammarlabref04.code -/
theorem e53 (d0 : List TypeDecl) (all1 : List (List UInt8)) (name2 : List UInt8) {r : (List Int)}
  (h : (
    Option.bind (f99 d0 name2) fun y201 =>
    t53_4 all1 y201 0 ([] : List Int) : Option (List Int)) = some r) :
  f53 d0 all1 name2 = some r :=
  lift (E := E53) (b53 d0 all1 name2) h (
    I_call s99 fun y201 =>
    q53_4)

/-- grammarlab/grammarlabref04.code, loop 4 -/
theorem k53_4 (all1 : List (List UInt8)) (low7 : List (List UInt8)) (i9 : Int) (o8 : List Int) {r : (List Int)}
  (h : (
    bif (decide (i9 < (List.length all1 : Int))) then (
      getK all1 i9 fun x201 =>
      Option.bind (f37 low7 x201) fun y203 =>
      bif y203 then (
        check ((List.length o8 + List.length [i9]) * 8 ≤ 140737488355328 ∧ List.length o8 + List.length [i9] ≤ 4611686018427387904) (
        t53_4 all1 low7 (IntKind.wrap .i64 (i9 + 1)) (o8 ++ [i9])))
      else (
        t53_4 all1 low7 (IntKind.wrap .i64 (i9 + 1)) o8))
    else (
      Option.bind (f100 o8) fun y205 =>
      Option.bind (f100 o8) fun y207 =>
      some y207.1) : Option (List Int)) = some r) :
  t53_4 all1 low7 i9 o8 = some r :=
  lift (E := E53) (L53_4 all1 low7 i9 o8) h (
    I_cond (by simp only [List.length_map]) (
      I_getK rfl fun x201 =>
      I_call s37 fun y203 =>
      I_cond rfl (
        I_check (by simp only [List.length_map]; exact id) (
        (fun _ h => by simpa only [List.map_append] using q53_4 _ h))) (
        q53_4)) (
      I_call s100 fun y205 =>
      I_call s100 fun y207 =>
      I_some rfl))

/-- grammarlab/grammarlabref04.family -/
theorem e54 (codes0 : List (List Int)) {r : (List (List Int))}
  (h : (
    check ((List.length ([] : List (List Int)) + List.length codes0) * 24 ≤ 140737488355328 ∧ List.length ([] : List (List Int)) + List.length codes0 ≤ 4611686018427387904) (
    t54_3 0 (([] : List (List Int)) ++ codes0)) : Option (List (List Int))) = some r) :
  f54 codes0 = some r :=
  lift (E := E54) (b54 codes0) h (
    I_check (by simp only [List.length_map]; exact id) (
    (fun _ h => by simpa only [List.map_append] using q54_3 _ h)))

/-- grammarlab/grammarlabref04.family, loop 3 -/
theorem k54_3 (i4 : Int) (o7 : List (List Int)) {r : (List (List Int))}
  (h : (
    bif (decide (i4 < (List.length o7 : Int))) then (
      bif (decide ((List.length o7 : Int) ≤ 256)) then (
        t54_6 i4 0 o7)
      else (
        some o7))
    else (
      some o7) : Option (List (List Int))) = some r) :
  t54_3 i4 o7 = some r :=
  lift (E := E54) (L54_3 i4 o7) h (
    I_cond (by simp only [List.length_map]) (
      I_cond (by simp only [List.length_map]) (
        q54_6) (
        I_some rfl)) (
      I_some rfl))

/-- grammarlab/grammarlabref04.family, loop 6 -/
theorem k54_6 (i4 : Int) (k5 : Int) (o7 : List (List Int)) {r : (List (List Int))}
  (h : (
    bif (decide (k5 < i4)) then (
      bif (decide ((List.length o7 : Int) ≤ 256)) then (
        check (0 ≤ i4 ∧ Int.toNat i4 < List.length o7) (
        getN o7 (Int.toNat i4) fun x201 =>
        check (0 ≤ k5 ∧ Int.toNat k5 < List.length o7) (
        getN o7 (Int.toNat k5) fun x203 =>
        Option.bind (f61 x201 x203) fun y205 =>
        bif (decide ((List.length y205 : Int) > 0)) then (
          Option.bind (f101 o7 y205) fun y207 =>
          bif (!y207) then (
            check ((List.length o7 + List.length [y205]) * 24 ≤ 140737488355328 ∧ List.length o7 + List.length [y205] ≤ 4611686018427387904) (
            t54_6 i4 (IntKind.wrap .i64 (k5 + 1)) (o7 ++ [y205])))
          else (
            t54_6 i4 (IntKind.wrap .i64 (k5 + 1)) o7))
        else (
          t54_6 i4 (IntKind.wrap .i64 (k5 + 1)) o7))))
      else (
        t54_3 (IntKind.wrap .i64 (i4 + 1)) o7))
    else (
      t54_3 (IntKind.wrap .i64 (i4 + 1)) o7) : Option (List (List Int))) = some r) :
  t54_6 i4 k5 o7 = some r :=
  lift (E := E54) (L54_6 i4 k5 o7) h (
    I_cond rfl (
      I_cond (by simp only [List.length_map]) (
        I_check (by simp only [List.length_map]; exact id) (
        I_getN rfl fun x201 =>
        I_check (by simp only [List.length_map]; exact id) (
        I_getN rfl fun x203 =>
        I_call s61 fun y205 =>
        I_cond (by simp only [List.length_map]) (
          I_call s101 fun y207 =>
          I_cond rfl (
            I_check (by simp only [List.length_map]; exact id) (
            (fun _ h => by simpa only [List.map_append] using q54_6 _ h))) (
            q54_6)) (
          q54_6)))) (
        q54_3)) (
      q54_3))

/-- grammarlab/grammarlabref04.name -/
theorem e55 (d0 : List TypeDecl) (all1 : List (List UInt8)) (codes2 : List (List Int)) (b3 : List Int) {r : (List UInt8)}
  (h : (
    t55_3 d0 all1 codes2 b3 0 ([] : List (List UInt8)) : Option (List UInt8)) = some r) :
  f55 d0 all1 codes2 b3 = some r :=
  lift (E := E55) (b55 d0 all1 codes2 b3) h (
    q55_3)

/-- grammarlab/grammarlabref04.name, loop 3 -/
theorem k55_3 (d0 : List TypeDecl) (all1 : List (List UInt8)) (codes2 : List (List Int)) (b3 : List Int) (i10 : Int) (o9 : List (List UInt8)) {r : (List UInt8)}
  (h : (
    bif (decide (i10 < (List.length all1 : Int))) then (
      getK codes2 i10 fun x201 =>
      Option.bind (f102 x201 b3) fun y203 =>
      bif y203 then (
        getK all1 i10 fun x205 =>
        some x205)
      else (
        Option.bind (f103 b3 i10) fun y207 =>
        bif y207 then (
          getK all1 i10 fun x209 =>
          check ((List.length o9 + List.length [x209]) * 16 ≤ 140737488355328 ∧ List.length o9 + List.length [x209] ≤ 4611686018427387904) (
          t55_3 d0 all1 codes2 b3 (IntKind.wrap .i64 (i10 + 1)) (o9 ++ [x209])))
        else (
          t55_3 d0 all1 codes2 b3 (IntKind.wrap .i64 (i10 + 1)) o9)))
    else (
      Option.bind (f104 d0 o9) fun y211 =>
      Option.bind (f104 d0 o9) fun y213 =>
      t55_12 y213 [] 0) : Option (List UInt8)) = some r) :
  t55_3 d0 all1 codes2 b3 i10 o9 = some r :=
  lift (E := E55) (L55_3 d0 all1 codes2 b3 i10 o9) h (
    I_cond (by simp only [List.length_map]) (
      I_getK rfl fun x201 =>
      I_call s102 fun y203 =>
      I_cond rfl (
        I_getK rfl fun x205 =>
        I_some rfl) (
        I_call s103 fun y207 =>
        I_cond rfl (
          I_getK rfl fun x209 =>
          I_check (by simp only [List.length_map]; exact id) (
          (fun _ h => by simpa only [List.map_append] using q55_3 _ h))) (
          q55_3))) (
      I_call s104 fun y211 =>
      I_call s104 fun y213 =>
      q55_12))

/-- grammarlab/grammarlabref04.name, loop 12 -/
theorem k55_12 (l9 : List (List UInt8)) (s11 : List UInt8) (i12 : Int) {r : (List UInt8)}
  (h : (
    bif (decide (i12 < (List.length l9 : Int))) then (
      bif (decide (i12 > 0)) then (
        check (List.length s11 + List.length ([38] : List UInt8) ≤ 9223372036854775807) (
        getK l9 i12 fun x201 =>
        check (List.length (s11 ++ [38]) + List.length x201 ≤ 9223372036854775807) (
        t55_12 l9 ((s11 ++ [38]) ++ x201) (IntKind.wrap .i64 (i12 + 1)))))
      else (
        getK l9 i12 fun x203 =>
        check (List.length s11 + List.length x203 ≤ 9223372036854775807) (
        t55_12 l9 (s11 ++ x203) (IntKind.wrap .i64 (i12 + 1)))))
    else (
      some s11) : Option (List UInt8)) = some r) :
  t55_12 l9 s11 i12 = some r :=
  lift (E := E55) (L55_12 l9 s11 i12) h (
    I_cond (by simp only [List.length_map]) (
      I_cond rfl (
        I_check id (
        I_getK rfl fun x201 =>
        I_check id (
        (fun _ h => by simpa only [List.map_append] using q55_12 _ h)))) (
        I_getK rfl fun x203 =>
        I_check id (
        (fun _ h => by simpa only [List.map_append] using q55_12 _ h)))) (
      I_some rfl))

/-- grammarlab/grammarlabref04.before -/
theorem e56 (a0 : Coded) (b1 : Coded) {r : Bool}
  (h : (
    Option.bind (f105 a0.Code) fun y201 =>
    Option.bind (f105 b1.Code) fun y203 =>
    bif (decide (y201 > y203)) then (
      some true)
    else (
      bif (y201 == y203) then (
        some (Op.bytesLess a0.Name b1.Name))
      else (
        some false)) : Option Bool) = some r) :
  f56 a0 b1 = some r :=
  lift (E := E56) (b56 a0 b1) h (
    I_call s105 fun y201 =>
    I_call s105 fun y203 =>
    I_cond rfl (
      I_some rfl) (
      I_cond rfl (
        I_some rfl) (
        I_some rfl)))

/-- grammarlab/grammarlabref02.Same -/
theorem e57 (a0 : List Int) (b1 : List Int) {r : Bool}
  (h : (
    bif ((List.length a0 : Int) != (List.length b1 : Int)) then (
      some false)
    else (
      t57_4 a0 b1 0) : Option Bool) = some r) :
  f57 a0 b1 = some r :=
  lift (E := E57) (b57 a0 b1) h (
    I_cond (by simp only [List.length_map]) (
      I_some rfl) (
      q57_4))

/-- grammarlab/grammarlabref02.Same, loop 4 -/
theorem k57_4 (a0 : List Int) (b1 : List Int) (i5 : Int) {r : Bool}
  (h : (
    bif (decide (i5 < (List.length a0 : Int))) then (
      getK a0 i5 fun x201 =>
      getK b1 i5 fun x203 =>
      bif (x201 != x203) then (
        some false)
      else (
        t57_4 a0 b1 (IntKind.wrap .i64 (i5 + 1))))
    else (
      some true) : Option Bool) = some r) :
  t57_4 a0 b1 i5 = some r :=
  lift (E := E57) (L57_4 a0 b1 i5) h (
    I_cond (by simp only [List.length_map]) (
      I_getK rfl fun x201 =>
      I_getK rfl fun x203 =>
      I_cond rfl (
        I_some rfl) (
        q57_4)) (
      I_some rfl))

/-- grammarlab/closure.lookup[grammarlab/api.Coded] -/
theorem e58 (l0 : List Coded) (is1_0 : List Int) {r : Int}
  (h : (
    t58_2 is1_0 l0 (List.length l0 : Int) 0 : Option Int) = some r) :
  f58 l0 is1_0 = some r :=
  lift (E := E58) (b58 l0 is1_0) h (
    (fun _ h => by simpa only [List.length_map] using q58_2 _ h))

/-- grammarlab/closure.lookup[grammarlab/api.Coded], loop 2 -/
theorem k58_2 (is1_0 : List Int) (v7 : List Coded) (v8 : Int) (v9 : Int) {r : Int}
  (h : (
    bif (decide (v9 < v8)) then (
      getK v7 v9 fun x201 =>
      Option.bind (f59 x201 is1_0) fun y203 =>
      bif y203 then (
        some v9)
      else (
        t58_2 is1_0 v7 v8 (IntKind.wrap .i64 (v9 + 1))))
    else (
      some (-1)) : Option Int) = some r) :
  t58_2 is1_0 v7 v8 v9 = some r :=
  lift (E := E58) (L58_2 is1_0 v7 v8 v9) h (
    I_cond rfl (
      I_getK rfl fun x201 =>
      I_call s59 fun y203 =>
      I_cond rfl (
        I_some rfl) (
        q58_2)) (
      I_some rfl))

/-- grammarlab/closure.Find$1 -/
theorem e59 (x0 : Coded) (a1 : List Int) {r : Bool}
  (h : (
    Option.bind (f31 x0.Code a1) fun y201 =>
    some y201 : Option Bool) = some r) :
  f59 x0 a1 = some r :=
  lift (E := E59) (b59 x0 a1) h (
    I_call s31 fun y201 =>
    I_some rfl)

/-- grammarlab/grammarlabref02.Normal -/
theorem e60 (b0 : List Int) {r : (List Int)}
  (h : (
    t60_2 b0 (List.length b0 : Int) : Option (List Int)) = some r) :
  f60 b0 = some r :=
  lift (E := E60) (b60 b0) h (
    (fun _ h => by simpa only [List.length_map] using q60_2 _ h))

/-- grammarlab/grammarlabref02.Normal, loop 2 -/
theorem k60_2 (b0 : List Int) (n3 : Int) {r : (List Int)}
  (h : (
    bif (decide (n3 > 0)) then (
      getK b0 (IntKind.wrap .i64 (n3 - 1)) fun x201 =>
      bif (x201 == 0) then (
        t60_2 b0 (IntKind.wrap .i64 (n3 - 1)))
      else (
        check (0 ≤ n3 ∧ n3 ≤ (List.length b0 : Nat)) (
        check ((List.length ([] : List Int) + List.length ((b0.take (Int.toNat n3)).drop 0)) * 8 ≤ 140737488355328 ∧ List.length ([] : List Int) + List.length ((b0.take (Int.toNat n3)).drop 0) ≤ 4611686018427387904) (
        some (([] : List Int) ++ ((b0.take (Int.toNat n3)).drop 0))))))
    else (
      check (0 ≤ n3 ∧ n3 ≤ (List.length b0 : Nat)) (
      check ((List.length ([] : List Int) + List.length ((b0.take (Int.toNat n3)).drop 0)) * 8 ≤ 140737488355328 ∧ List.length ([] : List Int) + List.length ((b0.take (Int.toNat n3)).drop 0) ≤ 4611686018427387904) (
      some (([] : List Int) ++ ((b0.take (Int.toNat n3)).drop 0))))) : Option (List Int)) = some r) :
  t60_2 b0 n3 = some r :=
  lift (E := E60) (L60_2 b0 n3) h (
    I_cond rfl (
      I_getK rfl fun x201 =>
      I_cond rfl (
        q60_2) (
        I_check (by simp only [List.length_map]; exact id) (
        I_check (by simp only [List.length_map, List.map_take, List.map_drop, List.length_take, List.length_drop]; exact id) (
        I_some (by simp only [E60, R60.enc, List.map_append, List.map_take, List.map_drop]))))) (
      I_check (by simp only [List.length_map]; exact id) (
      I_check (by simp only [List.length_map, List.map_take, List.map_drop, List.length_take, List.length_drop]; exact id) (
      I_some (by simp only [E60, R60.enc, List.map_append, List.map_take, List.map_drop])))))

/-- grammarlab/grammarlabref02.And -/
theorem e61 (a0 : List Int) (b1 : List Int) {r : (List Int)}
  (h : (
    t61_3 a0 b1 0 ([] : List Int) : Option (List Int)) = some r) :
  f61 a0 b1 = some r :=
  lift (E := E61) (b61 a0 b1) h (
    q61_3)

/-- grammarlab/grammarlabref02.And, loop 3 -/
theorem k61_3 (a0 : List Int) (b1 : List Int) (i6 : Int) (o5 : List Int) {r : (List Int)}
  (h : (
    bif (decide (i6 < (List.length a0 : Int))) then (
      getK a0 i6 fun x201 =>
      Option.bind (f106 b1 i6) fun y203 =>
      check ((List.length o5 + List.length [(IntKind.wrap .u64 ((BitVec.ofInt (IntKind.bits .u64) x201 &&& BitVec.ofInt (IntKind.bits .u64) y203).toNat : Int))]) * 8 ≤ 140737488355328 ∧ List.length o5 + List.length [(IntKind.wrap .u64 ((BitVec.ofInt (IntKind.bits .u64) x201 &&& BitVec.ofInt (IntKind.bits .u64) y203).toNat : Int))] ≤ 4611686018427387904) (
      t61_3 a0 b1 (IntKind.wrap .i64 (i6 + 1)) (o5 ++ [(IntKind.wrap .u64 ((BitVec.ofInt (IntKind.bits .u64) x201 &&& BitVec.ofInt (IntKind.bits .u64) y203).toNat : Int))])))
    else (
      Option.bind (f60 o5) fun y205 =>
      Option.bind (f60 o5) fun y207 =>
      some y207) : Option (List Int)) = some r) :
  t61_3 a0 b1 i6 o5 = some r :=
  lift (E := E61) (L61_3 a0 b1 i6 o5) h (
    I_cond (by simp only [List.length_map]) (
      I_getK rfl fun x201 =>
      I_call s106 fun y203 =>
      I_check (by simp only [List.length_map]; exact id) (
      (fun _ h => by simpa only [List.map_append] using q61_3 _ h))) (
      I_call s60 fun y205 =>
      I_call s60 fun y207 =>
      I_some rfl))

/-- grammarlab/bits.Or -/
theorem e62 (a0 : List Int) (b1 : List Int) {r : (List Int)}
  (h : (
    check (0 ≤ (if (List.length b1 : Int) > (List.length a0 : Int) then (List.length b1 : Int) else (List.length a0 : Int)) ∧ (if (List.length b1 : Int) > (List.length a0 : Int) then (List.length b1 : Int) else (List.length a0 : Int)) ≤ (if (List.length b1 : Int) > (List.length a0 : Int) then (List.length b1 : Int) else (List.length a0 : Int)) ∧ 8 * Int.toNat (if (List.length b1 : Int) > (List.length a0 : Int) then (List.length b1 : Int) else (List.length a0 : Int)) ≤ 281474976710656 ∧ (if (List.length b1 : Int) > (List.length a0 : Int) then (List.length b1 : Int) else (List.length a0 : Int)) ≤ 9223372036854775807) (
    t62_3 a0 b1 (List.length (List.replicate (Int.toNat (if (List.length b1 : Int) > (List.length a0 : Int) then (List.length b1 : Int) else (List.length a0 : Int))) 0) : Int) 0 (List.replicate (Int.toNat (if (List.length b1 : Int) > (List.length a0 : Int) then (List.length b1 : Int) else (List.length a0 : Int))) 0)) : Option (List Int)) = some r) :
  f62 a0 b1 = some r :=
  lift (E := E62) (b62 a0 b1) h (
    I_check (by simp only [List.length_map]; exact id) (
    (fun _ h => by simpa only [List.length_map, List.map_replicate, List.length_replicate] using q62_3 _ h)))

/-- grammarlab/bits.Or, loop 3 -/
theorem k62_3 (a0 : List Int) (b1 : List Int) (v14 : Int) (v15 : Int) (o12 : List Int) {r : (List Int)}
  (h : (
    bif (decide (v15 < v14)) then (
      Option.bind (f107 a0 v15) fun y201 =>
      Option.bind (f107 b1 v15) fun y203 =>
      check (0 ≤ v15 ∧ Int.toNat v15 < List.length o12) (
      getN o12 (Int.toNat v15) fun x205 =>
      t62_3 a0 b1 v14 (IntKind.wrap .i64 (v15 + 1)) (o12.set (Int.toNat v15) (IntKind.wrap .u64 ((BitVec.ofInt (IntKind.bits .u64) y201 ||| BitVec.ofInt (IntKind.bits .u64) y203).toNat : Int)))))
    else (
      Option.bind (f68 o12) fun y207 =>
      Option.bind (f68 o12) fun y209 =>
      some y209) : Option (List Int)) = some r) :
  t62_3 a0 b1 v14 v15 o12 = some r :=
  lift (E := E62) (L62_3 a0 b1 v14 v15 o12) h (
    I_cond rfl (
      I_call s107 fun y201 =>
      I_call s107 fun y203 =>
      I_check (by simp only [List.length_map]; exact id) (
      I_getN rfl fun x205 =>
      (fun _ h => by simpa only [List.map_set] using q62_3 _ h))) (
      I_call s68 fun y207 =>
      I_call s68 fun y209 =>
      I_some rfl))

/-- grammarlab/bits.Subset -/
theorem e63 (a0 : List Int) (b1 : List Int) {r : Bool}
  (h : (
    t63_2 b1 a0 (List.length a0 : Int) 0 : Option Bool) = some r) :
  f63 a0 b1 = some r :=
  lift (E := E63) (b63 a0 b1) h (
    (fun _ h => by simpa only [List.length_map] using q63_2 _ h))

/-- grammarlab/bits.Subset, loop 2 -/
theorem k63_2 (b1 : List Int) (v7 : List Int) (v8 : Int) (v9 : Int) {r : Bool}
  (h : (
    bif (decide (v9 < v8)) then (
      getK v7 v9 fun x201 =>
      Option.bind (f107 b1 v9) fun y203 =>
      bif ((IntKind.wrap .u64 ((BitVec.ofInt (IntKind.bits .u64) x201 &&& ~~~BitVec.ofInt (IntKind.bits .u64) y203).toNat : Int)) != 0) then (
        some false)
      else (
        t63_2 b1 v7 v8 (IntKind.wrap .i64 (v9 + 1))))
    else (
      some true) : Option Bool) = some r) :
  t63_2 b1 v7 v8 v9 = some r :=
  lift (E := E63) (L63_2 b1 v7 v8 v9) h (
    I_cond rfl (
      I_getK rfl fun x201 =>
      I_call s107 fun y203 =>
      I_cond rfl (
        I_some rfl) (
        q63_2)) (
      I_some rfl))

/-- grammarlab/grammarlabref02.Or -/
theorem e64 (a0 : List Int) (b1 : List Int) {r : (List Int)}
  (h : (
    t64_3 a0 b1 0 ([] : List Int) : Option (List Int)) = some r) :
  f64 a0 b1 = some r :=
  lift (E := E64) (b64 a0 b1) h (
    q64_3)

/-- grammarlab/grammarlabref02.Or, loop 3 -/
theorem k64_3 (a0 : List Int) (b1 : List Int) (i6 : Int) (o5 : List Int) {r : (List Int)}
  (h : (
    bif (decide (i6 < (if (List.length b1 : Int) > (List.length a0 : Int) then (List.length b1 : Int) else (List.length a0 : Int)))) then (
      Option.bind (f106 a0 i6) fun y201 =>
      Option.bind (f106 b1 i6) fun y203 =>
      check ((List.length o5 + List.length [(IntKind.wrap .u64 ((BitVec.ofInt (IntKind.bits .u64) y201 ||| BitVec.ofInt (IntKind.bits .u64) y203).toNat : Int))]) * 8 ≤ 140737488355328 ∧ List.length o5 + List.length [(IntKind.wrap .u64 ((BitVec.ofInt (IntKind.bits .u64) y201 ||| BitVec.ofInt (IntKind.bits .u64) y203).toNat : Int))] ≤ 4611686018427387904) (
      t64_3 a0 b1 (IntKind.wrap .i64 (i6 + 1)) (o5 ++ [(IntKind.wrap .u64 ((BitVec.ofInt (IntKind.bits .u64) y201 ||| BitVec.ofInt (IntKind.bits .u64) y203).toNat : Int))])))
    else (
      Option.bind (f60 o5) fun y205 =>
      Option.bind (f60 o5) fun y207 =>
      some y207) : Option (List Int)) = some r) :
  t64_3 a0 b1 i6 o5 = some r :=
  lift (E := E64) (L64_3 a0 b1 i6 o5) h (
    I_cond (by simp only [List.length_map]) (
      I_call s106 fun y201 =>
      I_call s106 fun y203 =>
      I_check (by simp only [List.length_map]; exact id) (
      (fun _ h => by simpa only [List.map_append] using q64_3 _ h))) (
      I_call s60 fun y205 =>
      I_call s60 fun y207 =>
      I_some rfl))

/-- grammarlab/grammarlabref02.Subset -/
theorem e65 (a0 : List Int) (b1 : List Int) {r : Bool}
  (h : (
    Option.bind (f108 a0 b1) fun y201 =>
    some ((List.length y201 : Int) == 0) : Option Bool) = some r) :
  f65 a0 b1 = some r :=
  lift (E := E65) (b65 a0 b1) h (
    I_call s108 fun y201 =>
    I_some (by simp only [E65, R65.enc, List.length_map]))

/-- grammarlab/closure.Supers$1 -/
theorem e66 (m0 : Int) (a1 : Int) (a2 : List Coded) {r : Bool}
  (h : (
    bif (m0 != a1) then (
      Option.bind (f24 a2 a1 m0) fun y201 =>
      some y201)
    else (
      some false) : Option Bool) = some r) :
  f66 m0 a1 a2 = some r :=
  lift (E := E66) (b66 m0 a1 a2) h (
    I_cond rfl (
      I_call s24 fun y201 =>
      I_some rfl) (
      I_some rfl))

/-- slices.ContainsFunc[[]int,int] -/
theorem e67 (s0 : List Int) (f1_0 : Int) (f1_1 : List Coded) {r : Bool}
  (h : (
    Option.bind (f109 s0 f1_0 f1_1) fun y201 =>
    some (decide (y201 ≥ 0)) : Option Bool) = some r) :
  f67 s0 f1_0 f1_1 = some r :=
  lift (E := E67) (b67 s0 f1_0 f1_1) h (
    I_call s109 fun y201 =>
    I_some rfl)

/-- grammarlab/bits.normal -/
theorem e68 (b0 : List Int) {r : (List Int)}
  (h : (
    t68_2 b0 (List.length b0 : Int) : Option (List Int)) = some r) :
  f68 b0 = some r :=
  lift (E := E68) (b68 b0) h (
    (fun _ h => by simpa only [List.length_map] using q68_2 _ h))

/-- grammarlab/bits.normal, loop 2 -/
theorem k68_2 (b0 : List Int) (n3 : Int) {r : (List Int)}
  (h : (
    bif (decide (n3 > 0)) then (
      getK b0 (IntKind.wrap .i64 (n3 - 1)) fun x201 =>
      bif (x201 == 0) then (
        t68_2 b0 (IntKind.wrap .i64 (n3 - 1)))
      else (
        check (0 ≤ n3 ∧ n3 ≤ (List.length b0 : Nat)) (
        some ((b0.take (Int.toNat n3)).drop 0))))
    else (
      check (0 ≤ n3 ∧ n3 ≤ (List.length b0 : Nat)) (
      some ((b0.take (Int.toNat n3)).drop 0))) : Option (List Int)) = some r) :
  t68_2 b0 n3 = some r :=
  lift (E := E68) (L68_2 b0 n3) h (
    I_cond rfl (
      I_getK rfl fun x201 =>
      I_cond rfl (
        q68_2) (
        I_check (by simp only [List.length_map]; exact id) (
        I_some (by simp only [E68, R68.enc, List.map_take, List.map_drop])))) (
      I_check (by simp only [List.length_map]; exact id) (
      I_some (by simp only [E68, R68.enc, List.map_take, List.map_drop]))))

/-- grammarlab/grammarlabref03.sizes -/
theorem e70 (d0 : List TypeDecl) {r : Int}
  (h : (
    bif (decide ((List.length d0 : Int) > 256)) then (
      some 7)
    else (
      t70_4 d0 0) : Option Int) = some r) :
  f70 d0 = some r :=
  lift (E := E70) (b70 d0) h (
    I_cond (by simp only [List.length_map]) (
      I_some rfl) (
      q70_4))

/-- grammarlab/grammarlabref03.sizes, loop 4 -/
theorem k70_4 (d0 : List TypeDecl) (i3 : Int) {r : Int}
  (h : (
    bif (decide (i3 < (List.length d0 : Int))) then (
      getK d0 i3 fun x201 =>
      bif (decide ((List.length x201.Supers : Int) > 256)) then (
        some 7)
      else (
        getK d0 i3 fun x203 =>
        bif (decide ((List.length x203.Feats : Int) > 256)) then (
          some 7)
        else (
          t70_4 d0 (IntKind.wrap .i64 (i3 + 1)))))
    else (
      some 0) : Option Int) = some r) :
  t70_4 d0 i3 = some r :=
  lift (E := E70) (L70_4 d0 i3) h (
    I_cond (by simp only [List.length_map]) (
      I_getK rfl fun x201 =>
      I_cond (by simp only [List.length_map]) (
        I_some rfl) (
        I_getK rfl fun x203 =>
        I_cond (by simp only [List.length_map]) (
          I_some rfl) (
          q70_4))) (
      I_some rfl))

/-- grammarlab/grammarlabref03.names -/
theorem e71 (d0 : List TypeDecl) {r : Int}
  (h : (
    t71_2 d0 0 : Option Int) = some r) :
  f71 d0 = some r :=
  lift (E := E71) (b71 d0) h (
    q71_2)

/-- grammarlab/grammarlabref03.names, loop 2 -/
theorem k71_2 (d0 : List TypeDecl) (i3 : Int) {r : Int}
  (h : (
    bif (decide (i3 < (List.length d0 : Int))) then (
      getK d0 i3 fun x201 =>
      Option.bind (f110 x201.Name) fun y203 =>
      bif (!y203) then (
        some 1)
      else (
        getK d0 i3 fun x205 =>
        Option.bind (f111 d0 x205.Name) fun y207 =>
        bif (decide (y207 < i3)) then (
          some 4)
        else (
          t71_2 d0 (IntKind.wrap .i64 (i3 + 1)))))
    else (
      some 0) : Option Int) = some r) :
  t71_2 d0 i3 = some r :=
  lift (E := E71) (L71_2 d0 i3) h (
    I_cond (by simp only [List.length_map]) (
      I_getK rfl fun x201 =>
      I_call s110 fun y203 =>
      I_cond rfl (
        I_some rfl) (
        I_getK rfl fun x205 =>
        I_call s111 fun y207 =>
        I_cond rfl (
          I_some rfl) (
          q71_2))) (
      I_some rfl))

/-- grammarlab/grammarlabref03.supers -/
theorem e72 (d0 : List TypeDecl) {r : Int}
  (h : (
    t72_2 d0 0 : Option Int) = some r) :
  f72 d0 = some r :=
  lift (E := E72) (b72 d0) h (
    q72_2)

/-- grammarlab/grammarlabref03.supers, loop 2 -/
theorem k72_2 (d0 : List TypeDecl) (i3 : Int) {r : Int}
  (h : (
    bif (decide (i3 < (List.length d0 : Int))) then (
      getK d0 i3 fun x201 =>
      t72_6 d0 i3 x201.Supers 0)
    else (
      some 0) : Option Int) = some r) :
  t72_2 d0 i3 = some r :=
  lift (E := E72) (L72_2 d0 i3) h (
    I_cond (by simp only [List.length_map]) (
      I_getK rfl fun x201 =>
      q72_6) (
      I_some rfl))

/-- grammarlab/grammarlabref03.supers, loop 6 -/
theorem k72_6 (d0 : List TypeDecl) (i3 : Int) (l4 : List (List UInt8)) (k5 : Int) {r : Int}
  (h : (
    bif (decide (k5 < (List.length l4 : Int))) then (
      getK l4 k5 fun x201 =>
      Option.bind (f111 d0 x201) fun y203 =>
      bif (decide (y203 < 0)) then (
        some 5)
      else (
        check (0 ≤ k5 ∧ k5 ≤ (List.length l4 : Nat)) (
        getK l4 k5 fun x205 =>
        Option.bind (f37 ((l4.take (Int.toNat k5)).drop 0) x205) fun y207 =>
        bif y207 then (
          some 4)
        else (
          t72_6 d0 i3 l4 (IntKind.wrap .i64 (k5 + 1))))))
    else (
      t72_2 d0 (IntKind.wrap .i64 (i3 + 1))) : Option Int) = some r) :
  t72_6 d0 i3 l4 k5 = some r :=
  lift (E := E72) (L72_6 d0 i3 l4 k5) h (
    I_cond (by simp only [List.length_map]) (
      I_getK rfl fun x201 =>
      I_call s111 fun y203 =>
      I_cond rfl (
        I_some rfl) (
        I_check (by simp only [List.length_map]; exact id) (
        I_getK rfl fun x205 =>
        I_call (fun _ h => by simpa only [List.map_take, List.map_drop] using s37 _ h) fun y207 =>
        I_cond rfl (
          I_some rfl) (
          q72_6)))) (
      q72_2))

/-- grammarlab/grammarlabref03.placed -/
theorem e73 (d0 : List TypeDecl) {r : (List (List UInt8))}
  (h : (
    t73_3 d0 true ([] : List (List UInt8)) : Option (List (List UInt8))) = some r) :
  f73 d0 = some r :=
  lift (E := E73) (b73 d0) h (
    q73_3)

/-- grammarlab/grammarlabref03.placed, loop 3 -/
theorem k73_3 (d0 : List TypeDecl) (more4 : Bool) (o3 : List (List UInt8)) {r : (List (List UInt8))}
  (h : (
    bif more4 then (
      t73_7 d0 false [] 0 o3)
    else (
      some o3) : Option (List (List UInt8))) = some r) :
  t73_3 d0 more4 o3 = some r :=
  lift (E := E73) (L73_3 d0 more4 o3) h (
    I_cond rfl (
      q73_7) (
      I_some rfl))

/-- grammarlab/grammarlabref03.placed, loop 7 -/
theorem k73_7 (d0 : List TypeDecl) (more4 : Bool) (next5 : List UInt8) (i6 : Int) (o3 : List (List UInt8)) {r : (List (List UInt8))}
  (h : (
    bif (decide (i6 < (List.length d0 : Int))) then (
      getK d0 i6 fun x201 =>
      Option.bind (f37 o3 x201.Name) fun y203 =>
      bif y203 then (
        t73_7 d0 more4 next5 (IntKind.wrap .i64 (i6 + 1)) o3)
      else (
        getK d0 i6 fun x205 =>
        Option.bind (f112 x205 o3) fun y207 =>
        bif (!y207) then (
          t73_7 d0 more4 next5 (IntKind.wrap .i64 (i6 + 1)) o3)
        else (
          bif (!more4) then (
            getK d0 i6 fun x209 =>
            t73_7 d0 true x209.Name (IntKind.wrap .i64 (i6 + 1)) o3)
          else (
            getK d0 i6 fun x211 =>
            bif (Op.bytesLess x211.Name next5) then (
              getK d0 i6 fun x213 =>
              t73_7 d0 true x213.Name (IntKind.wrap .i64 (i6 + 1)) o3)
            else (
              t73_7 d0 true next5 (IntKind.wrap .i64 (i6 + 1)) o3)))))
    else (
      bif more4 then (
        check ((List.length o3 + List.length [next5]) * 16 ≤ 140737488355328 ∧ List.length o3 + List.length [next5] ≤ 4611686018427387904) (
        t73_3 d0 more4 (o3 ++ [next5])))
      else (
        t73_3 d0 more4 o3)) : Option (List (List UInt8))) = some r) :
  t73_7 d0 more4 next5 i6 o3 = some r :=
  lift (E := E73) (L73_7 d0 more4 next5 i6 o3) h (
    I_cond (by simp only [List.length_map]) (
      I_getK rfl fun x201 =>
      I_call s37 fun y203 =>
      I_cond rfl (
        q73_7) (
        I_getK rfl fun x205 =>
        I_call s112 fun y207 =>
        I_cond rfl (
          q73_7) (
          I_cond rfl (
            I_getK rfl fun x209 =>
            q73_7) (
            I_getK rfl fun x211 =>
            I_cond rfl (
              I_getK rfl fun x213 =>
              q73_7) (
              q73_7))))) (
      I_cond rfl (
        I_check (by simp only [List.length_map]; exact id) (
        (fun _ h => by simpa only [List.map_append] using q73_3 _ h))) (
        q73_3)))

/-- grammarlab/grammarlabref03.Put -/
theorem e98 (l0 : List (List UInt8)) (s1 : List UInt8) {r : (List (List UInt8))}
  (h : (
    t98_3 l0 s1 0 ([] : List (List UInt8)) : Option (List (List UInt8))) = some r) :
  f98 l0 s1 = some r :=
  lift (E := E98) (b98 l0 s1) h (
    q98_3)

/-- grammarlab/grammarlabref03.Put, loop 3 -/
theorem k98_3 (l0 : List (List UInt8)) (s1 : List UInt8) (v6 : Int) (o5 : List (List UInt8)) {r : (List (List UInt8))}
  (h : (
    bif (decide (v6 < (List.length l0 : Int))) then (
      getK l0 v6 fun x201 =>
      bif (Op.bytesLess x201 s1) then (
        t98_3 l0 s1 (IntKind.wrap .i64 (v6 + 1)) o5)
      else (
        bif (decide (v6 < (List.length l0 : Int))) then (
          getK l0 v6 fun x203 =>
          bif (x203 == s1) then (
            some l0)
          else (
            check (0 ≤ v6 ∧ v6 ≤ (List.length l0 : Nat)) (
            check ((List.length o5 + List.length ((l0.take (Int.toNat v6)).drop 0)) * 16 ≤ 140737488355328 ∧ List.length o5 + List.length ((l0.take (Int.toNat v6)).drop 0) ≤ 4611686018427387904) (
            check ((List.length (o5 ++ ((l0.take (Int.toNat v6)).drop 0)) + List.length [s1]) * 16 ≤ 140737488355328 ∧ List.length (o5 ++ ((l0.take (Int.toNat v6)).drop 0)) + List.length [s1] ≤ 4611686018427387904) (
            check (0 ≤ v6 ∧ v6 ≤ (List.length l0 : Nat)) (
            check ((List.length ((o5 ++ ((l0.take (Int.toNat v6)).drop 0)) ++ [s1]) + List.length ((l0.take (List.length l0)).drop (Int.toNat v6))) * 16 ≤ 140737488355328 ∧ List.length ((o5 ++ ((l0.take (Int.toNat v6)).drop 0)) ++ [s1]) + List.length ((l0.take (List.length l0)).drop (Int.toNat v6)) ≤ 4611686018427387904) (
            some (((o5 ++ ((l0.take (Int.toNat v6)).drop 0)) ++ [s1]) ++ ((l0.take (List.length l0)).drop (Int.toNat v6))))))))))
        else (
          check (0 ≤ v6 ∧ v6 ≤ (List.length l0 : Nat)) (
          check ((List.length o5 + List.length ((l0.take (Int.toNat v6)).drop 0)) * 16 ≤ 140737488355328 ∧ List.length o5 + List.length ((l0.take (Int.toNat v6)).drop 0) ≤ 4611686018427387904) (
          check ((List.length (o5 ++ ((l0.take (Int.toNat v6)).drop 0)) + List.length [s1]) * 16 ≤ 140737488355328 ∧ List.length (o5 ++ ((l0.take (Int.toNat v6)).drop 0)) + List.length [s1] ≤ 4611686018427387904) (
          check (0 ≤ v6 ∧ v6 ≤ (List.length l0 : Nat)) (
          check ((List.length ((o5 ++ ((l0.take (Int.toNat v6)).drop 0)) ++ [s1]) + List.length ((l0.take (List.length l0)).drop (Int.toNat v6))) * 16 ≤ 140737488355328 ∧ List.length ((o5 ++ ((l0.take (Int.toNat v6)).drop 0)) ++ [s1]) + List.length ((l0.take (List.length l0)).drop (Int.toNat v6)) ≤ 4611686018427387904) (
          some (((o5 ++ ((l0.take (Int.toNat v6)).drop 0)) ++ [s1]) ++ ((l0.take (List.length l0)).drop (Int.toNat v6)))))))))))
    else (
      bif (decide (v6 < (List.length l0 : Int))) then (
        getK l0 v6 fun x205 =>
        bif (x205 == s1) then (
          some l0)
        else (
          check (0 ≤ v6 ∧ v6 ≤ (List.length l0 : Nat)) (
          check ((List.length o5 + List.length ((l0.take (Int.toNat v6)).drop 0)) * 16 ≤ 140737488355328 ∧ List.length o5 + List.length ((l0.take (Int.toNat v6)).drop 0) ≤ 4611686018427387904) (
          check ((List.length (o5 ++ ((l0.take (Int.toNat v6)).drop 0)) + List.length [s1]) * 16 ≤ 140737488355328 ∧ List.length (o5 ++ ((l0.take (Int.toNat v6)).drop 0)) + List.length [s1] ≤ 4611686018427387904) (
          check (0 ≤ v6 ∧ v6 ≤ (List.length l0 : Nat)) (
          check ((List.length ((o5 ++ ((l0.take (Int.toNat v6)).drop 0)) ++ [s1]) + List.length ((l0.take (List.length l0)).drop (Int.toNat v6))) * 16 ≤ 140737488355328 ∧ List.length ((o5 ++ ((l0.take (Int.toNat v6)).drop 0)) ++ [s1]) + List.length ((l0.take (List.length l0)).drop (Int.toNat v6)) ≤ 4611686018427387904) (
          some (((o5 ++ ((l0.take (Int.toNat v6)).drop 0)) ++ [s1]) ++ ((l0.take (List.length l0)).drop (Int.toNat v6))))))))))
      else (
        check (0 ≤ v6 ∧ v6 ≤ (List.length l0 : Nat)) (
        check ((List.length o5 + List.length ((l0.take (Int.toNat v6)).drop 0)) * 16 ≤ 140737488355328 ∧ List.length o5 + List.length ((l0.take (Int.toNat v6)).drop 0) ≤ 4611686018427387904) (
        check ((List.length (o5 ++ ((l0.take (Int.toNat v6)).drop 0)) + List.length [s1]) * 16 ≤ 140737488355328 ∧ List.length (o5 ++ ((l0.take (Int.toNat v6)).drop 0)) + List.length [s1] ≤ 4611686018427387904) (
        check (0 ≤ v6 ∧ v6 ≤ (List.length l0 : Nat)) (
        check ((List.length ((o5 ++ ((l0.take (Int.toNat v6)).drop 0)) ++ [s1]) + List.length ((l0.take (List.length l0)).drop (Int.toNat v6))) * 16 ≤ 140737488355328 ∧ List.length ((o5 ++ ((l0.take (Int.toNat v6)).drop 0)) ++ [s1]) + List.length ((l0.take (List.length l0)).drop (Int.toNat v6)) ≤ 4611686018427387904) (
        some (((o5 ++ ((l0.take (Int.toNat v6)).drop 0)) ++ [s1]) ++ ((l0.take (List.length l0)).drop (Int.toNat v6)))))))))) : Option (List (List UInt8))) = some r) :
  t98_3 l0 s1 v6 o5 = some r :=
  lift (E := E98) (L98_3 l0 s1 v6 o5) h (
    I_cond (by simp only [List.length_map]) (
      I_getK rfl fun x201 =>
      I_cond rfl (
        q98_3) (
        I_cond (by simp only [List.length_map]) (
          I_getK rfl fun x203 =>
          I_cond rfl (
            I_some rfl) (
            I_check (by simp only [List.length_map]; exact id) (
            I_check (by simp only [List.length_map, List.map_take, List.map_drop, List.length_take, List.length_drop]; exact id) (
            I_check (by simp only [List.length_map, List.map_append, List.length_append, List.map_take, List.map_drop, List.length_take, List.length_drop]; exact id) (
            I_check (by simp only [List.length_map]; exact id) (
            I_check (by simp only [List.length_map, List.map_append, List.length_append, List.map_take, List.map_drop, List.length_take, List.length_drop]; exact id) (
            I_some (by simp only [E98, R98.enc, List.length_map, List.map_append, List.length_append, List.map_take, List.map_drop, List.length_take, List.length_drop])))))))) (
          I_check (by simp only [List.length_map]; exact id) (
          I_check (by simp only [List.length_map, List.map_take, List.map_drop, List.length_take, List.length_drop]; exact id) (
          I_check (by simp only [List.length_map, List.map_append, List.length_append, List.map_take, List.map_drop, List.length_take, List.length_drop]; exact id) (
          I_check (by simp only [List.length_map]; exact id) (
          I_check (by simp only [List.length_map, List.map_append, List.length_append, List.map_take, List.map_drop, List.length_take, List.length_drop]; exact id) (
          I_some (by simp only [E98, R98.enc, List.length_map, List.map_append, List.length_append, List.map_take, List.map_drop, List.length_take, List.length_drop]))))))))) (
      I_cond (by simp only [List.length_map]) (
        I_getK rfl fun x205 =>
        I_cond rfl (
          I_some rfl) (
          I_check (by simp only [List.length_map]; exact id) (
          I_check (by simp only [List.length_map, List.map_take, List.map_drop, List.length_take, List.length_drop]; exact id) (
          I_check (by simp only [List.length_map, List.map_append, List.length_append, List.map_take, List.map_drop, List.length_take, List.length_drop]; exact id) (
          I_check (by simp only [List.length_map]; exact id) (
          I_check (by simp only [List.length_map, List.map_append, List.length_append, List.map_take, List.map_drop, List.length_take, List.length_drop]; exact id) (
          I_some (by simp only [E98, R98.enc, List.length_map, List.map_append, List.length_append, List.map_take, List.map_drop, List.length_take, List.length_drop])))))))) (
        I_check (by simp only [List.length_map]; exact id) (
        I_check (by simp only [List.length_map, List.map_take, List.map_drop, List.length_take, List.length_drop]; exact id) (
        I_check (by simp only [List.length_map, List.map_append, List.length_append, List.map_take, List.map_drop, List.length_take, List.length_drop]; exact id) (
        I_check (by simp only [List.length_map]; exact id) (
        I_check (by simp only [List.length_map, List.map_append, List.length_append, List.map_take, List.map_drop, List.length_take, List.length_drop]; exact id) (
        I_some (by simp only [E98, R98.enc, List.length_map, List.map_append, List.length_append, List.map_take, List.map_drop, List.length_take, List.length_drop])))))))))

/-- grammarlab/grammarlabref03.Below -/
theorem e99 (d0 : List TypeDecl) (name1 : List UInt8) {r : (List (List UInt8))}
  (h : (
    Option.bind (f111 d0 name1) fun y201 =>
    bif (decide (y201 < 0)) then (
      some ([] : List (List UInt8)))
    else (
      t99_5 d0 0 [name1]) : Option (List (List UInt8))) = some r) :
  f99 d0 name1 = some r :=
  lift (E := E99) (b99 d0 name1) h (
    I_call s111 fun y201 =>
    I_cond rfl (
      I_some rfl) (
      q99_5))

/-- grammarlab/grammarlabref03.Below, loop 5 -/
theorem k99_5 (d0 : List TypeDecl) (i6 : Int) (o15 : List (List UInt8)) {r : (List (List UInt8))}
  (h : (
    bif (decide (i6 < (List.length o15 : Int))) then (
      t99_8 d0 i6 0 o15)
    else (
      t99_14 ([] : List (List UInt8)) 0 o15) : Option (List (List UInt8))) = some r) :
  t99_5 d0 i6 o15 = some r :=
  lift (E := E99) (L99_5 d0 i6 o15) h (
    I_cond (by simp only [List.length_map]) (
      q99_8) (
      q99_14))

/-- grammarlab/grammarlabref03.Below, loop 8 -/
theorem k99_8 (d0 : List TypeDecl) (i6 : Int) (k7 : Int) (o15 : List (List UInt8)) {r : (List (List UInt8))}
  (h : (
    bif (decide (k7 < (List.length d0 : Int))) then (
      getK d0 k7 fun x201 =>
      check (0 ≤ i6 ∧ Int.toNat i6 < List.length o15) (
      getN o15 (Int.toNat i6) fun x203 =>
      Option.bind (f37 x201.Supers x203) fun y205 =>
      bif y205 then (
        getK d0 k7 fun x207 =>
        Option.bind (f37 o15 x207.Name) fun y209 =>
        bif (!y209) then (
          getK d0 k7 fun x211 =>
          check ((List.length o15 + List.length [x211.Name]) * 16 ≤ 140737488355328 ∧ List.length o15 + List.length [x211.Name] ≤ 4611686018427387904) (
          t99_8 d0 i6 (IntKind.wrap .i64 (k7 + 1)) (o15 ++ [x211.Name])))
        else (
          t99_8 d0 i6 (IntKind.wrap .i64 (k7 + 1)) o15))
      else (
        t99_8 d0 i6 (IntKind.wrap .i64 (k7 + 1)) o15)))
    else (
      t99_5 d0 (IntKind.wrap .i64 (i6 + 1)) o15) : Option (List (List UInt8))) = some r) :
  t99_8 d0 i6 k7 o15 = some r :=
  lift (E := E99) (L99_8 d0 i6 k7 o15) h (
    I_cond (by simp only [List.length_map]) (
      I_getK rfl fun x201 =>
      I_check (by simp only [List.length_map]; exact id) (
      I_getN rfl fun x203 =>
      I_call s37 fun y205 =>
      I_cond rfl (
        I_getK rfl fun x207 =>
        I_call s37 fun y209 =>
        I_cond rfl (
          I_getK rfl fun x211 =>
          I_check (by simp only [List.length_map]; exact id) (
          (fun _ h => by simpa only [List.map_append] using q99_8 _ h))) (
          q99_8)) (
        q99_8))) (
      q99_5))

/-- grammarlab/grammarlabref03.Below, loop 14 -/
theorem k99_14 (out8 : List (List UInt8)) (i9 : Int) (o15 : List (List UInt8)) {r : (List (List UInt8))}
  (h : (
    bif (decide (i9 < (List.length o15 : Int))) then (
      check (0 ≤ i9 ∧ Int.toNat i9 < List.length o15) (
      getN o15 (Int.toNat i9) fun x201 =>
      Option.bind (f98 out8 x201) fun y203 =>
      t99_14 y203 (IntKind.wrap .i64 (i9 + 1)) o15))
    else (
      some out8) : Option (List (List UInt8))) = some r) :
  t99_14 out8 i9 o15 = some r :=
  lift (E := E99) (L99_14 out8 i9 o15) h (
    I_cond (by simp only [List.length_map]) (
      I_check (by simp only [List.length_map]; exact id) (
      I_getN rfl fun x201 =>
      I_call s98 fun y203 =>
      q99_14)) (
      I_some rfl))

/-- grammarlab/grammarlabref02.Of -/
theorem e100 (l0 : List Int) {r : ((List Int) × Int)}
  (h : (
    check (0 ≤ 64 ∧ 64 ≤ 64 ∧ 8 * Int.toNat 64 ≤ 281474976710656 ∧ 64 ≤ 9223372036854775807) (
    t100_3 l0 0 (List.replicate (Int.toNat 64) 0)) : Option ((List Int) × Int)) = some r) :
  f100 l0 = some r :=
  lift (E := E100) (b100 l0) h (
    I_check id (
    (fun _ h => by simpa only [List.map_replicate] using q100_3 _ h)))

/-- grammarlab/grammarlabref02.Of, loop 3 -/
theorem k100_3 (l0 : List Int) (i5 : Int) (o6 : List Int) {r : ((List Int) × Int)}
  (h : (
    bif (decide (i5 < (List.length l0 : Int))) then (
      getK l0 i5 fun x201 =>
      bif (decide (x201 < 0)) then (
        some (([] : List Int), 2))
      else (
        getK l0 i5 fun x203 =>
        bif (decide (x203 > 4095)) then (
          some (([] : List Int), 2))
        else (
          getK l0 i5 fun x205 =>
          check (64 ≠ 0) (
          getK l0 i5 fun x207 =>
          check (64 ≠ 0) (
          check (0 ≤ (IntKind.wrap .i64 (Int.tdiv x207 64)) ∧ Int.toNat (IntKind.wrap .i64 (Int.tdiv x207 64)) < List.length o6) (
          getN o6 (Int.toNat (IntKind.wrap .i64 (Int.tdiv x207 64))) fun x209 =>
          getK l0 i5 fun x211 =>
          check (64 ≠ 0) (
          check (0 ≤ (IntKind.wrap .u64 ((Int.tmod x211 64)))) (
          check (0 ≤ (IntKind.wrap .i64 (Int.tdiv x205 64)) ∧ Int.toNat (IntKind.wrap .i64 (Int.tdiv x205 64)) < List.length o6) (
          getN o6 (Int.toNat (IntKind.wrap .i64 (Int.tdiv x205 64))) fun x213 =>
          t100_3 l0 (IntKind.wrap .i64 (i5 + 1)) (o6.set (Int.toNat (IntKind.wrap .i64 (Int.tdiv x205 64))) (IntKind.wrap .u64 ((BitVec.ofInt (IntKind.bits .u64) x209 ||| BitVec.ofInt (IntKind.bits .u64) (IntKind.wrap .u64 (1 * 2 ^ min (Int.toNat (IntKind.wrap .u64 ((Int.tmod x211 64)))) (IntKind.bits .u64)))).toNat : Int))))))))))))
    else (
      Option.bind (f60 o6) fun y215 =>
      Option.bind (f60 o6) fun y217 =>
      some (y217, 0)) : Option ((List Int) × Int)) = some r) :
  t100_3 l0 i5 o6 = some r :=
  lift (E := E100) (L100_3 l0 i5 o6) h (
    I_cond (by simp only [List.length_map]) (
      I_getK rfl fun x201 =>
      I_cond rfl (
        I_some rfl) (
        I_getK rfl fun x203 =>
        I_cond rfl (
          I_some rfl) (
          I_getK rfl fun x205 =>
          I_check id (
          I_getK rfl fun x207 =>
          I_check id (
          I_check (by simp only [List.length_map]; exact id) (
          I_getN rfl fun x209 =>
          I_getK rfl fun x211 =>
          I_check id (
          I_check id (
          I_check (by simp only [List.length_map]; exact id) (
          I_getN rfl fun x213 =>
          (fun _ h => by simpa only [List.map_set] using q100_3 _ h)))))))))) (
      I_call s60 fun y215 =>
      I_call s60 fun y217 =>
      I_some rfl))

/-- grammarlab/grammarlabref04.in -/
theorem e101 (l0 : List (List Int)) (b1 : List Int) {r : Bool}
  (h : (
    t101_2 l0 b1 0 : Option Bool) = some r) :
  f101 l0 b1 = some r :=
  lift (E := E101) (b101 l0 b1) h (
    q101_2)

/-- grammarlab/grammarlabref04.in, loop 2 -/
theorem k101_2 (l0 : List (List Int)) (b1 : List Int) (i5 : Int) {r : Bool}
  (h : (
    bif (decide (i5 < (List.length l0 : Int))) then (
      getK l0 i5 fun x201 =>
      Option.bind (f57 x201 b1) fun y203 =>
      bif y203 then (
        some true)
      else (
        t101_2 l0 b1 (IntKind.wrap .i64 (i5 + 1))))
    else (
      some false) : Option Bool) = some r) :
  t101_2 l0 b1 i5 = some r :=
  lift (E := E101) (L101_2 l0 b1 i5) h (
    I_cond (by simp only [List.length_map]) (
      I_getK rfl fun x201 =>
      I_call s57 fun y203 =>
      I_cond rfl (
        I_some rfl) (
        q101_2)) (
      I_some rfl))

/-- grammarlab/grammarlabref02.Equal -/
theorem e102 (a0 : List Int) (b1 : List Int) {r : Bool}
  (h : (
    Option.bind (f65 a0 b1) fun y201 =>
    bif y201 then (
      Option.bind (f65 b1 a0) fun y203 =>
      some y203)
    else (
      some false) : Option Bool) = some r) :
  f102 a0 b1 = some r :=
  lift (E := E102) (b102 a0 b1) h (
    I_call s65 fun y201 =>
    I_cond rfl (
      I_call s65 fun y203 =>
      I_some rfl) (
      I_some rfl))

/-- grammarlab/grammarlabref02.Has -/
theorem e103 (b0 : List Int) (i1 : Int) {r : Bool}
  (h : (
    bif (decide (i1 < 0)) then (
      some false)
    else (
      check (64 ≠ 0) (
      bif (decide ((IntKind.wrap .i64 (Int.tdiv i1 64)) ≥ (List.length b0 : Int))) then (
        some false)
      else (
        check (64 ≠ 0) (
        getK b0 (IntKind.wrap .i64 (Int.tdiv i1 64)) fun x201 =>
        check (64 ≠ 0) (
        check (0 ≤ (IntKind.wrap .u64 ((Int.tmod i1 64)))) (
        some ((IntKind.wrap .u64 ((BitVec.ofInt (IntKind.bits .u64) (Int.fdiv x201 (2 ^ min (Int.toNat (IntKind.wrap .u64 ((Int.tmod i1 64)))) (IntKind.bits .u64))) &&& BitVec.ofInt (IntKind.bits .u64) 1).toNat : Int)) == 1))))))) : Option Bool) = some r) :
  f103 b0 i1 = some r :=
  lift (E := E103) (b103 b0 i1) h (
    I_cond rfl (
      I_some rfl) (
      I_check id (
      I_cond (by simp only [List.length_map]) (
        I_some rfl) (
        I_check id (
        I_getK rfl fun x201 =>
        I_check id (
        I_check id (
        I_some rfl)))))))

/-- grammarlab/grammarlabref03.Maximal -/
theorem e104 (d0 : List TypeDecl) (l1 : List (List UInt8)) {r : (List (List UInt8))}
  (h : (
    Option.bind (f137 d0 l1) fun y201 =>
    t104_4 d0 y201 0 ([] : List (List UInt8)) : Option (List (List UInt8))) = some r) :
  f104 d0 l1 = some r :=
  lift (E := E104) (b104 d0 l1) h (
    I_call s137 fun y201 =>
    q104_4)

/-- grammarlab/grammarlabref03.Maximal, loop 4 -/
theorem k104_4 (d0 : List TypeDecl) (all6 : List (List UInt8)) (i7 : Int) (o5 : List (List UInt8)) {r : (List (List UInt8))}
  (h : (
    bif (decide (i7 < (List.length all6 : Int))) then (
      getK all6 i7 fun x201 =>
      Option.bind (f138 d0 x201) fun y203 =>
      t104_9 d0 all6 i7 y203 true 0 o5)
    else (
      some o5) : Option (List (List UInt8))) = some r) :
  t104_4 d0 all6 i7 o5 = some r :=
  lift (E := E104) (L104_4 d0 all6 i7 o5) h (
    I_cond (by simp only [List.length_map]) (
      I_getK rfl fun x201 =>
      I_call s138 fun y203 =>
      q104_9) (
      I_some rfl))

/-- grammarlab/grammarlabref03.Maximal, loop 9 -/
theorem k104_9 (d0 : List TypeDecl) (all6 : List (List UInt8)) (i7 : Int) (up8 : List (List UInt8)) (free9 : Bool) (k10 : Int) (o5 : List (List UInt8)) {r : (List (List UInt8))}
  (h : (
    bif (decide (k10 < (List.length all6 : Int))) then (
      bif free9 then (
        bif (k10 == i7) then (
          t104_9 d0 all6 i7 up8 true (IntKind.wrap .i64 (k10 + 1)) o5)
        else (
          getK all6 k10 fun x201 =>
          Option.bind (f37 up8 x201) fun y203 =>
          t104_9 d0 all6 i7 up8 (!y203) (IntKind.wrap .i64 (k10 + 1)) o5))
      else (
        t104_9 d0 all6 i7 up8 false (IntKind.wrap .i64 (k10 + 1)) o5))
    else (
      bif free9 then (
        getK all6 i7 fun x205 =>
        check ((List.length o5 + List.length [x205]) * 16 ≤ 140737488355328 ∧ List.length o5 + List.length [x205] ≤ 4611686018427387904) (
        t104_4 d0 all6 (IntKind.wrap .i64 (i7 + 1)) (o5 ++ [x205])))
      else (
        t104_4 d0 all6 (IntKind.wrap .i64 (i7 + 1)) o5)) : Option (List (List UInt8))) = some r) :
  t104_9 d0 all6 i7 up8 free9 k10 o5 = some r :=
  lift (E := E104) (L104_9 d0 all6 i7 up8 free9 k10 o5) h (
    I_cond (by simp only [List.length_map]) (
      I_cond rfl (
        I_cond rfl (
          q104_9) (
          I_getK rfl fun x201 =>
          I_call s37 fun y203 =>
          q104_9)) (
        q104_9)) (
      I_cond rfl (
        I_getK rfl fun x205 =>
        I_check (by simp only [List.length_map]; exact id) (
        (fun _ h => by simpa only [List.map_append] using q104_4 _ h))) (
        q104_4)))

/-- grammarlab/grammarlabref02.Count -/
theorem e105 (b0 : List Int) {r : Int}
  (h : (
    Option.bind (f139 b0) fun y201 =>
    some (List.length y201 : Int) : Option Int) = some r) :
  f105 b0 = some r :=
  lift (E := E105) (b105 b0) h (
    I_call s139 fun y201 =>
    I_some (by simp only [E105, R105.enc, List.length_map]))

/-- grammarlab/grammarlabref02.word -/
theorem e106 (b0 : List Int) (i1 : Int) {r : Int}
  (h : (
    bif (decide (i1 < (List.length b0 : Int))) then (
      getK b0 i1 fun x201 =>
      some x201)
    else (
      some 0) : Option Int) = some r) :
  f106 b0 i1 = some r :=
  lift (E := E106) (b106 b0 i1) h (
    I_cond (by simp only [List.length_map]) (
      I_getK rfl fun x201 =>
      I_some rfl) (
      I_some rfl))

/-- grammarlab/bits.word -/
theorem e107 (b0 : List Int) (i1 : Int) {r : Int}
  (h : (
    bif (decide (i1 < (List.length b0 : Int))) then (
      getK b0 i1 fun x201 =>
      some x201)
    else (
      some 0) : Option Int) = some r) :
  f107 b0 i1 = some r :=
  lift (E := E107) (b107 b0 i1) h (
    I_cond (by simp only [List.length_map]) (
      I_getK rfl fun x201 =>
      I_some rfl) (
      I_some rfl))

/-- grammarlab/grammarlabref02.Minus -/
theorem e108 (a0 : List Int) (b1 : List Int) {r : (List Int)}
  (h : (
    t108_3 a0 b1 0 ([] : List Int) : Option (List Int)) = some r) :
  f108 a0 b1 = some r :=
  lift (E := E108) (b108 a0 b1) h (
    q108_3)

/-- grammarlab/grammarlabref02.Minus, loop 3 -/
theorem k108_3 (a0 : List Int) (b1 : List Int) (i6 : Int) (o5 : List Int) {r : (List Int)}
  (h : (
    bif (decide (i6 < (List.length a0 : Int))) then (
      getK a0 i6 fun x201 =>
      Option.bind (f106 b1 i6) fun y203 =>
      check ((List.length o5 + List.length [(IntKind.wrap .u64 ((BitVec.ofInt (IntKind.bits .u64) x201 &&& ~~~BitVec.ofInt (IntKind.bits .u64) y203).toNat : Int))]) * 8 ≤ 140737488355328 ∧ List.length o5 + List.length [(IntKind.wrap .u64 ((BitVec.ofInt (IntKind.bits .u64) x201 &&& ~~~BitVec.ofInt (IntKind.bits .u64) y203).toNat : Int))] ≤ 4611686018427387904) (
      t108_3 a0 b1 (IntKind.wrap .i64 (i6 + 1)) (o5 ++ [(IntKind.wrap .u64 ((BitVec.ofInt (IntKind.bits .u64) x201 &&& ~~~BitVec.ofInt (IntKind.bits .u64) y203).toNat : Int))])))
    else (
      Option.bind (f60 o5) fun y205 =>
      Option.bind (f60 o5) fun y207 =>
      some y207) : Option (List Int)) = some r) :
  t108_3 a0 b1 i6 o5 = some r :=
  lift (E := E108) (L108_3 a0 b1 i6 o5) h (
    I_cond (by simp only [List.length_map]) (
      I_getK rfl fun x201 =>
      I_call s106 fun y203 =>
      I_check (by simp only [List.length_map]; exact id) (
      (fun _ h => by simpa only [List.map_append] using q108_3 _ h))) (
      I_call s60 fun y205 =>
      I_call s60 fun y207 =>
      I_some rfl))

/-- slices.IndexFunc[[]int,int] -/
theorem e109 (s0 : List Int) (f1_0 : Int) (f1_1 : List Coded) {r : Int}
  (h : (
    t109_2 s0 f1_0 f1_1 (List.length s0 : Int) 0 : Option Int) = some r) :
  f109 s0 f1_0 f1_1 = some r :=
  lift (E := E109) (b109 s0 f1_0 f1_1) h (
    (fun _ h => by simpa only [List.length_map] using q109_2 _ h))

/-- slices.IndexFunc[[]int,int], loop 2 -/
theorem k109_2 (s0 : List Int) (f1_0 : Int) (f1_1 : List Coded) (v7 : Int) (v8 : Int) {r : Int}
  (h : (
    bif (decide (v8 < v7)) then (
      getK s0 v8 fun x201 =>
      Option.bind (f66 x201 f1_0 f1_1) fun y203 =>
      bif y203 then (
        some v8)
      else (
        t109_2 s0 f1_0 f1_1 v7 (IntKind.wrap .i64 (v8 + 1))))
    else (
      some (-1)) : Option Int) = some r) :
  t109_2 s0 f1_0 f1_1 v7 v8 = some r :=
  lift (E := E109) (L109_2 s0 f1_0 f1_1 v7 v8) h (
    I_cond rfl (
      I_getK rfl fun x201 =>
      I_call s66 fun y203 =>
      I_cond rfl (
        I_some rfl) (
        q109_2)) (
      I_some rfl))

/-- grammarlab/grammarlabref01.Name -/
theorem e110 (s0 : List UInt8) {r : Bool}
  (h : (
    Option.bind (f140 s0 false) fun y201 =>
    some y201 : Option Bool) = some r) :
  f110 s0 = some r :=
  lift (E := E110) (b110 s0) h (
    I_call s140 fun y201 =>
    I_some rfl)

/-- grammarlab/grammarlabref03.find -/
theorem e111 (d0 : List TypeDecl) (name1 : List UInt8) {r : Int}
  (h : (
    t111_2 d0 name1 0 : Option Int) = some r) :
  f111 d0 name1 = some r :=
  lift (E := E111) (b111 d0 name1) h (
    q111_2)

/-- grammarlab/grammarlabref03.find, loop 2 -/
theorem k111_2 (d0 : List TypeDecl) (name1 : List UInt8) (i5 : Int) {r : Int}
  (h : (
    bif (decide (i5 < (List.length d0 : Int))) then (
      getK d0 i5 fun x201 =>
      bif (x201.Name == name1) then (
        some i5)
      else (
        t111_2 d0 name1 (IntKind.wrap .i64 (i5 + 1))))
    else (
      some (-1)) : Option Int) = some r) :
  t111_2 d0 name1 i5 = some r :=
  lift (E := E111) (L111_2 d0 name1 i5) h (
    I_cond (by simp only [List.length_map]) (
      I_getK rfl fun x201 =>
      I_cond rfl (
        I_some rfl) (
        q111_2)) (
      I_some rfl))

/-- grammarlab/grammarlabref03.ready -/
theorem e112 (x0 : TypeDecl) (done1 : List (List UInt8)) {r : Bool}
  (h : (
    t112_2 done1 0 x0 : Option Bool) = some r) :
  f112 x0 done1 = some r :=
  lift (E := E112) (b112 x0 done1) h (
    q112_2)

/-- grammarlab/grammarlabref03.ready, loop 2 -/
theorem k112_2 (done1 : List (List UInt8)) (i5 : Int) (o2 : TypeDecl) {r : Bool}
  (h : (
    bif (decide (i5 < (List.length o2.Supers : Int))) then (
      getK o2.Supers i5 fun x201 =>
      Option.bind (f37 done1 x201) fun y203 =>
      bif (!y203) then (
        some false)
      else (
        t112_2 done1 (IntKind.wrap .i64 (i5 + 1)) o2))
    else (
      some true) : Option Bool) = some r) :
  t112_2 done1 i5 o2 = some r :=
  lift (E := E112) (L112_2 done1 i5 o2) h (
    I_cond (by simp only [List.length_map]) (
      I_getK rfl fun x201 =>
      I_call s37 fun y203 =>
      I_cond rfl (
        I_some rfl) (
        q112_2)) (
      I_some rfl))

/-- grammarlab/grammarlabref03.declared -/
theorem e137 (d0 : List TypeDecl) (l1 : List (List UInt8)) {r : (List (List UInt8))}
  (h : (
    t137_3 d0 l1 ([] : List (List UInt8)) 0 : Option (List (List UInt8))) = some r) :
  f137 d0 l1 = some r :=
  lift (E := E137) (b137 d0 l1) h (
    q137_3)

/-- grammarlab/grammarlabref03.declared, loop 3 -/
theorem k137_3 (d0 : List TypeDecl) (l1 : List (List UInt8)) (out5 : List (List UInt8)) (i6 : Int) {r : (List (List UInt8))}
  (h : (
    bif (decide (i6 < (List.length l1 : Int))) then (
      getK l1 i6 fun x201 =>
      Option.bind (f111 d0 x201) fun y203 =>
      bif (decide (y203 ≥ 0)) then (
        getK l1 i6 fun x205 =>
        Option.bind (f98 out5 x205) fun y207 =>
        t137_3 d0 l1 y207 (IntKind.wrap .i64 (i6 + 1)))
      else (
        t137_3 d0 l1 out5 (IntKind.wrap .i64 (i6 + 1))))
    else (
      some out5) : Option (List (List UInt8))) = some r) :
  t137_3 d0 l1 out5 i6 = some r :=
  lift (E := E137) (L137_3 d0 l1 out5 i6) h (
    I_cond (by simp only [List.length_map]) (
      I_getK rfl fun x201 =>
      I_call s111 fun y203 =>
      I_cond rfl (
        I_getK rfl fun x205 =>
        I_call s98 fun y207 =>
        q137_3) (
        q137_3)) (
      I_some rfl))

/-- grammarlab/grammarlabref03.Above -/
theorem e138 (d0 : List TypeDecl) (name1 : List UInt8) {r : (List (List UInt8))}
  (h : (
    Option.bind (f111 d0 name1) fun y201 =>
    bif (decide (y201 < 0)) then (
      some ([] : List (List UInt8)))
    else (
      t138_5 d0 0 [name1]) : Option (List (List UInt8))) = some r) :
  f138 d0 name1 = some r :=
  lift (E := E138) (b138 d0 name1) h (
    I_call s111 fun y201 =>
    I_cond rfl (
      I_some rfl) (
      q138_5))

/-- grammarlab/grammarlabref03.Above, loop 5 -/
theorem k138_5 (d0 : List TypeDecl) (i6 : Int) (o16 : List (List UInt8)) {r : (List (List UInt8))}
  (h : (
    bif (decide (i6 < (List.length o16 : Int))) then (
      check (0 ≤ i6 ∧ Int.toNat i6 < List.length o16) (
      getN o16 (Int.toNat i6) fun x201 =>
      Option.bind (f111 d0 x201) fun y203 =>
      getK d0 y203 fun x205 =>
      t138_9 d0 i6 x205.Supers 0 o16))
    else (
      t138_15 ([] : List (List UInt8)) 0 o16) : Option (List (List UInt8))) = some r) :
  t138_5 d0 i6 o16 = some r :=
  lift (E := E138) (L138_5 d0 i6 o16) h (
    I_cond (by simp only [List.length_map]) (
      I_check (by simp only [List.length_map]; exact id) (
      I_getN rfl fun x201 =>
      I_call s111 fun y203 =>
      I_getK rfl fun x205 =>
      q138_9)) (
      q138_15))

/-- grammarlab/grammarlabref03.Above, loop 9 -/
theorem k138_9 (d0 : List TypeDecl) (i6 : Int) (l7 : List (List UInt8)) (k8 : Int) (o16 : List (List UInt8)) {r : (List (List UInt8))}
  (h : (
    bif (decide (k8 < (List.length l7 : Int))) then (
      getK l7 k8 fun x201 =>
      Option.bind (f37 o16 x201) fun y203 =>
      bif (!y203) then (
        getK l7 k8 fun x205 =>
        check ((List.length o16 + List.length [x205]) * 16 ≤ 140737488355328 ∧ List.length o16 + List.length [x205] ≤ 4611686018427387904) (
        t138_9 d0 i6 l7 (IntKind.wrap .i64 (k8 + 1)) (o16 ++ [x205])))
      else (
        t138_9 d0 i6 l7 (IntKind.wrap .i64 (k8 + 1)) o16))
    else (
      t138_5 d0 (IntKind.wrap .i64 (i6 + 1)) o16) : Option (List (List UInt8))) = some r) :
  t138_9 d0 i6 l7 k8 o16 = some r :=
  lift (E := E138) (L138_9 d0 i6 l7 k8 o16) h (
    I_cond (by simp only [List.length_map]) (
      I_getK rfl fun x201 =>
      I_call s37 fun y203 =>
      I_cond rfl (
        I_getK rfl fun x205 =>
        I_check (by simp only [List.length_map]; exact id) (
        (fun _ h => by simpa only [List.map_append] using q138_9 _ h))) (
        q138_9)) (
      q138_5))

/-- grammarlab/grammarlabref03.Above, loop 15 -/
theorem k138_15 (out9 : List (List UInt8)) (i10 : Int) (o16 : List (List UInt8)) {r : (List (List UInt8))}
  (h : (
    bif (decide (i10 < (List.length o16 : Int))) then (
      check (0 ≤ i10 ∧ Int.toNat i10 < List.length o16) (
      getN o16 (Int.toNat i10) fun x201 =>
      Option.bind (f98 out9 x201) fun y203 =>
      t138_15 y203 (IntKind.wrap .i64 (i10 + 1)) o16))
    else (
      some out9) : Option (List (List UInt8))) = some r) :
  t138_15 out9 i10 o16 = some r :=
  lift (E := E138) (L138_15 out9 i10 o16) h (
    I_cond (by simp only [List.length_map]) (
      I_check (by simp only [List.length_map]; exact id) (
      I_getN rfl fun x201 =>
      I_call s98 fun y203 =>
      q138_15)) (
      I_some rfl))

/-- grammarlab/grammarlabref02.List -/
theorem e139 (b0 : List Int) {r : (List Int)}
  (h : (
    t139_3 b0 0 ([] : List Int) : Option (List Int)) = some r) :
  f139 b0 = some r :=
  lift (E := E139) (b139 b0) h (
    q139_3)

/-- grammarlab/grammarlabref02.List, loop 3 -/
theorem k139_3 (b0 : List Int) (i4 : Int) (o3 : List Int) {r : (List Int)}
  (h : (
    bif (decide (i4 < (IntKind.wrap .i64 (64 * (List.length b0 : Int))))) then (
      Option.bind (f103 b0 i4) fun y201 =>
      bif y201 then (
        check ((List.length o3 + List.length [i4]) * 8 ≤ 140737488355328 ∧ List.length o3 + List.length [i4] ≤ 4611686018427387904) (
        t139_3 b0 (IntKind.wrap .i64 (i4 + 1)) (o3 ++ [i4])))
      else (
        t139_3 b0 (IntKind.wrap .i64 (i4 + 1)) o3))
    else (
      some o3) : Option (List Int)) = some r) :
  t139_3 b0 i4 o3 = some r :=
  lift (E := E139) (L139_3 b0 i4 o3) h (
    I_cond (by simp only [List.length_map]) (
      I_call s103 fun y201 =>
      I_cond rfl (
        I_check (by simp only [List.length_map]; exact id) (
        (fun _ h => by simpa only [List.map_append] using q139_3 _ h))) (
        q139_3)) (
      I_some rfl))

/-- grammarlab/grammarlabref01.named -/
theorem e140 (s0 : List UInt8) (big1 : Bool) {r : Bool}
  (h : (
    bif (decide ((List.length s0 : Int) < 1)) then (
      some false)
    else (
      bif (decide ((List.length s0 : Int) > 32)) then (
        some false)
      else (
        getK s0 0 fun b201 =>
        Option.bind (f159 (UInt8.toNat b201 : Int)) fun y202 =>
        bif y202 then (
          some false)
        else (
          getK s0 0 fun b204 =>
          bif ((UInt8.toNat b204 : Int) == 45) then (
            some false)
          else (
            t140_4 s0 big1 0)))) : Option Bool) = some r) :
  f140 s0 big1 = some r :=
  lift (E := E140) (b140 s0 big1) h (
    I_cond rfl (
      I_some rfl) (
      I_cond rfl (
        I_some rfl) (
        I_getb fun b201 =>
        I_call s159 fun y202 =>
        I_cond rfl (
          I_some rfl) (
          I_getb fun b204 =>
          I_cond rfl (
            I_some rfl) (
            q140_4)))))

/-- grammarlab/grammarlabref01.named, loop 4 -/
theorem k140_4 (s0 : List UInt8) (big1 : Bool) (i5 : Int) {r : Bool}
  (h : (
    bif (decide (i5 < (List.length s0 : Int))) then (
      getK s0 i5 fun b201 =>
      Option.bind (f160 (UInt8.toNat b201 : Int) big1) fun y202 =>
      bif (!y202) then (
        some false)
      else (
        t140_4 s0 big1 (IntKind.wrap .i64 (i5 + 1))))
    else (
      some true) : Option Bool) = some r) :
  t140_4 s0 big1 i5 = some r :=
  lift (E := E140) (L140_4 s0 big1 i5) h (
    I_cond rfl (
      I_getb fun b201 =>
      I_call s160 fun y202 =>
      I_cond rfl (
        I_some rfl) (
        q140_4)) (
      I_some rfl))

/-- grammarlab/grammarlabref01.digit -/
theorem e159 (c0 : Int) {r : Bool}
  (h : (
    bif (decide (c0 ≥ 48)) then (
      some (decide (c0 ≤ 57)))
    else (
      some false) : Option Bool) = some r) :
  f159 c0 = some r :=
  lift (E := E159) (b159 c0) h (
    I_cond rfl (
      I_some rfl) (
      I_some rfl))

/-- grammarlab/grammarlabref01.part -/
theorem e160 (c0 : Int) (big1 : Bool) {r : Bool}
  (h : (
    Option.bind (f159 c0) fun y201 =>
    bif y201 then (
      some true)
    else (
      bif (c0 == 45) then (
        some true)
      else (
        bif big1 then (
          Option.bind (f166 c0) fun y203 =>
          bif y203 then (
            some true)
          else (
            bif (!big1) then (
              Option.bind (f167 c0) fun y205 =>
              some y205)
            else (
              some false)))
        else (
          bif (!big1) then (
            Option.bind (f167 c0) fun y207 =>
            some y207)
          else (
            some false)))) : Option Bool) = some r) :
  f160 c0 big1 = some r :=
  lift (E := E160) (b160 c0 big1) h (
    I_call s159 fun y201 =>
    I_cond rfl (
      I_some rfl) (
      I_cond rfl (
        I_some rfl) (
        I_cond rfl (
          I_call s166 fun y203 =>
          I_cond rfl (
            I_some rfl) (
            I_cond rfl (
              I_call s167 fun y205 =>
              I_some rfl) (
              I_some rfl))) (
          I_cond rfl (
            I_call s167 fun y207 =>
            I_some rfl) (
            I_some rfl)))))

/-- grammarlab/grammarlabref01.upper -/
theorem e166 (c0 : Int) {r : Bool}
  (h : (
    bif (decide (c0 ≥ 65)) then (
      some (decide (c0 ≤ 90)))
    else (
      some false) : Option Bool) = some r) :
  f166 c0 = some r :=
  lift (E := E166) (b166 c0) h (
    I_cond rfl (
      I_some rfl) (
      I_some rfl))

/-- grammarlab/grammarlabref01.lower -/
theorem e167 (c0 : Int) {r : Bool}
  (h : (
    bif (decide (c0 ≥ 97)) then (
      some (decide (c0 ≤ 122)))
    else (
      some false) : Option Bool) = some r) :
  f167 c0 = some r :=
  lift (E := E167) (b167 c0) h (
    I_cond rfl (
      I_some rfl) (
      I_some rfl))

end Go.Proofs.YtneahmpmicoplaaGreatDoor.cl
