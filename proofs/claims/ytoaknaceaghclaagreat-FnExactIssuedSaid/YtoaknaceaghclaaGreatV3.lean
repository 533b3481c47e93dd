/- What each Go function computes, and that the machine does so: printed by a program of this session (avgen.py). -/
import Derived.Test.YtoaknaceaghclaaGreatV2
namespace Go.Proofs.YtoaknaceaghclaaGreat.V
open Go Go.Av Go.Proofs Go.Proofs.Tryz
set_option linter.unusedVariables false
set_option maxRecDepth 100000
/-! ### impl_around: function 213 -/
def impl_around.f (a0 : S38) (a1 : Int) : Option (List Int) := (impl_isFree.f a0 a1).bind fun t1 => if t1 = true then ((impl_isFree.f a0 (w64 (a1 - a0.f0))).bind fun t2 => if t2 = true then (if (([] : List Int).length + 1) * 8 ≤ 140737488355328 then (if a0.f0 ≠ 0 then (if 0 < (a1.tmod a0.f0) then ((impl_isFree.f a0 (w64 (a1 - 1))).bind fun t3 => if t3 = true then (if ((([] : List Int) ++ [(w64 (a1 - a0.f0))]).length + 1) * 8 ≤ 140737488355328 then (if (a1.tmod a0.f0) < (w64 (a0.f0 - 1)) then ((impl_isFree.f a0 (w64 (a1 + 1))).bind fun t4 => if t4 = true then (if (((([] : List Int) ++ [(w64 (a1 - a0.f0))]) ++ [(w64 (a1 - 1))]).length + 1) * 8 ≤ 140737488355328 then ((impl_isFree.f a0 (w64 (a1 + a0.f0))).bind fun t5 => if t5 = true then (if ((((([] : List Int) ++ [(w64 (a1 - a0.f0))]) ++ [(w64 (a1 - 1))]) ++ [(w64 (a1 + 1))]).length + 1) * 8 ≤ 140737488355328 then (some ((((([] : List Int) ++ [(w64 (a1 - a0.f0))]) ++ [(w64 (a1 - 1))]) ++ [(w64 (a1 + 1))]) ++ [(w64 (a1 + a0.f0))])) else none) else (some (((([] : List Int) ++ [(w64 (a1 - a0.f0))]) ++ [(w64 (a1 - 1))]) ++ [(w64 (a1 + 1))]))) else none) else ((impl_isFree.f a0 (w64 (a1 + a0.f0))).bind fun t6 => if t6 = true then (if (((([] : List Int) ++ [(w64 (a1 - a0.f0))]) ++ [(w64 (a1 - 1))]).length + 1) * 8 ≤ 140737488355328 then (some (((([] : List Int) ++ [(w64 (a1 - a0.f0))]) ++ [(w64 (a1 - 1))]) ++ [(w64 (a1 + a0.f0))])) else none) else (some ((([] : List Int) ++ [(w64 (a1 - a0.f0))]) ++ [(w64 (a1 - 1))])))) else ((impl_isFree.f a0 (w64 (a1 + a0.f0))).bind fun t7 => if t7 = true then (if (((([] : List Int) ++ [(w64 (a1 - a0.f0))]) ++ [(w64 (a1 - 1))]).length + 1) * 8 ≤ 140737488355328 then (some (((([] : List Int) ++ [(w64 (a1 - a0.f0))]) ++ [(w64 (a1 - 1))]) ++ [(w64 (a1 + a0.f0))])) else none) else (some ((([] : List Int) ++ [(w64 (a1 - a0.f0))]) ++ [(w64 (a1 - 1))])))) else none) else (if (a1.tmod a0.f0) < (w64 (a0.f0 - 1)) then ((impl_isFree.f a0 (w64 (a1 + 1))).bind fun t8 => if t8 = true then (if ((([] : List Int) ++ [(w64 (a1 - a0.f0))]).length + 1) * 8 ≤ 140737488355328 then ((impl_isFree.f a0 (w64 (a1 + a0.f0))).bind fun t9 => if t9 = true then (if (((([] : List Int) ++ [(w64 (a1 - a0.f0))]) ++ [(w64 (a1 + 1))]).length + 1) * 8 ≤ 140737488355328 then (some (((([] : List Int) ++ [(w64 (a1 - a0.f0))]) ++ [(w64 (a1 + 1))]) ++ [(w64 (a1 + a0.f0))])) else none) else (some ((([] : List Int) ++ [(w64 (a1 - a0.f0))]) ++ [(w64 (a1 + 1))]))) else none) else ((impl_isFree.f a0 (w64 (a1 + a0.f0))).bind fun t10 => if t10 = true then (if ((([] : List Int) ++ [(w64 (a1 - a0.f0))]).length + 1) * 8 ≤ 140737488355328 then (some ((([] : List Int) ++ [(w64 (a1 - a0.f0))]) ++ [(w64 (a1 + a0.f0))])) else none) else (some (([] : List Int) ++ [(w64 (a1 - a0.f0))])))) else ((impl_isFree.f a0 (w64 (a1 + a0.f0))).bind fun t11 => if t11 = true then (if ((([] : List Int) ++ [(w64 (a1 - a0.f0))]).length + 1) * 8 ≤ 140737488355328 then (some ((([] : List Int) ++ [(w64 (a1 - a0.f0))]) ++ [(w64 (a1 + a0.f0))])) else none) else (some (([] : List Int) ++ [(w64 (a1 - a0.f0))]))))) else (if (a1.tmod a0.f0) < (w64 (a0.f0 - 1)) then ((impl_isFree.f a0 (w64 (a1 + 1))).bind fun t12 => if t12 = true then (if ((([] : List Int) ++ [(w64 (a1 - a0.f0))]).length + 1) * 8 ≤ 140737488355328 then ((impl_isFree.f a0 (w64 (a1 + a0.f0))).bind fun t13 => if t13 = true then (if (((([] : List Int) ++ [(w64 (a1 - a0.f0))]) ++ [(w64 (a1 + 1))]).length + 1) * 8 ≤ 140737488355328 then (some (((([] : List Int) ++ [(w64 (a1 - a0.f0))]) ++ [(w64 (a1 + 1))]) ++ [(w64 (a1 + a0.f0))])) else none) else (some ((([] : List Int) ++ [(w64 (a1 - a0.f0))]) ++ [(w64 (a1 + 1))]))) else none) else ((impl_isFree.f a0 (w64 (a1 + a0.f0))).bind fun t14 => if t14 = true then (if ((([] : List Int) ++ [(w64 (a1 - a0.f0))]).length + 1) * 8 ≤ 140737488355328 then (some ((([] : List Int) ++ [(w64 (a1 - a0.f0))]) ++ [(w64 (a1 + a0.f0))])) else none) else (some (([] : List Int) ++ [(w64 (a1 - a0.f0))])))) else ((impl_isFree.f a0 (w64 (a1 + a0.f0))).bind fun t15 => if t15 = true then (if ((([] : List Int) ++ [(w64 (a1 - a0.f0))]).length + 1) * 8 ≤ 140737488355328 then (some ((([] : List Int) ++ [(w64 (a1 - a0.f0))]) ++ [(w64 (a1 + a0.f0))])) else none) else (some (([] : List Int) ++ [(w64 (a1 - a0.f0))]))))) else none) else none) else (if a0.f0 ≠ 0 then (if 0 < (a1.tmod a0.f0) then ((impl_isFree.f a0 (w64 (a1 - 1))).bind fun t16 => if t16 = true then (if (([] : List Int).length + 1) * 8 ≤ 140737488355328 then (if (a1.tmod a0.f0) < (w64 (a0.f0 - 1)) then ((impl_isFree.f a0 (w64 (a1 + 1))).bind fun t17 => if t17 = true then (if ((([] : List Int) ++ [(w64 (a1 - 1))]).length + 1) * 8 ≤ 140737488355328 then ((impl_isFree.f a0 (w64 (a1 + a0.f0))).bind fun t18 => if t18 = true then (if (((([] : List Int) ++ [(w64 (a1 - 1))]) ++ [(w64 (a1 + 1))]).length + 1) * 8 ≤ 140737488355328 then (some (((([] : List Int) ++ [(w64 (a1 - 1))]) ++ [(w64 (a1 + 1))]) ++ [(w64 (a1 + a0.f0))])) else none) else (some ((([] : List Int) ++ [(w64 (a1 - 1))]) ++ [(w64 (a1 + 1))]))) else none) else ((impl_isFree.f a0 (w64 (a1 + a0.f0))).bind fun t19 => if t19 = true then (if ((([] : List Int) ++ [(w64 (a1 - 1))]).length + 1) * 8 ≤ 140737488355328 then (some ((([] : List Int) ++ [(w64 (a1 - 1))]) ++ [(w64 (a1 + a0.f0))])) else none) else (some (([] : List Int) ++ [(w64 (a1 - 1))])))) else ((impl_isFree.f a0 (w64 (a1 + a0.f0))).bind fun t20 => if t20 = true then (if ((([] : List Int) ++ [(w64 (a1 - 1))]).length + 1) * 8 ≤ 140737488355328 then (some ((([] : List Int) ++ [(w64 (a1 - 1))]) ++ [(w64 (a1 + a0.f0))])) else none) else (some (([] : List Int) ++ [(w64 (a1 - 1))])))) else none) else (if (a1.tmod a0.f0) < (w64 (a0.f0 - 1)) then ((impl_isFree.f a0 (w64 (a1 + 1))).bind fun t21 => if t21 = true then (if (([] : List Int).length + 1) * 8 ≤ 140737488355328 then ((impl_isFree.f a0 (w64 (a1 + a0.f0))).bind fun t22 => if t22 = true then (if ((([] : List Int) ++ [(w64 (a1 + 1))]).length + 1) * 8 ≤ 140737488355328 then (some ((([] : List Int) ++ [(w64 (a1 + 1))]) ++ [(w64 (a1 + a0.f0))])) else none) else (some (([] : List Int) ++ [(w64 (a1 + 1))]))) else none) else ((impl_isFree.f a0 (w64 (a1 + a0.f0))).bind fun t23 => if t23 = true then (if (([] : List Int).length + 1) * 8 ≤ 140737488355328 then (some (([] : List Int) ++ [(w64 (a1 + a0.f0))])) else none) else (some ([] : List Int)))) else ((impl_isFree.f a0 (w64 (a1 + a0.f0))).bind fun t24 => if t24 = true then (if (([] : List Int).length + 1) * 8 ≤ 140737488355328 then (some (([] : List Int) ++ [(w64 (a1 + a0.f0))])) else none) else (some ([] : List Int))))) else (if (a1.tmod a0.f0) < (w64 (a0.f0 - 1)) then ((impl_isFree.f a0 (w64 (a1 + 1))).bind fun t25 => if t25 = true then (if (([] : List Int).length + 1) * 8 ≤ 140737488355328 then ((impl_isFree.f a0 (w64 (a1 + a0.f0))).bind fun t26 => if t26 = true then (if ((([] : List Int) ++ [(w64 (a1 + 1))]).length + 1) * 8 ≤ 140737488355328 then (some ((([] : List Int) ++ [(w64 (a1 + 1))]) ++ [(w64 (a1 + a0.f0))])) else none) else (some (([] : List Int) ++ [(w64 (a1 + 1))]))) else none) else ((impl_isFree.f a0 (w64 (a1 + a0.f0))).bind fun t27 => if t27 = true then (if (([] : List Int).length + 1) * 8 ≤ 140737488355328 then (some (([] : List Int) ++ [(w64 (a1 + a0.f0))])) else none) else (some ([] : List Int)))) else ((impl_isFree.f a0 (w64 (a1 + a0.f0))).bind fun t28 => if t28 = true then (if (([] : List Int).length + 1) * 8 ≤ 140737488355328 then (some (([] : List Int) ++ [(w64 (a1 + a0.f0))])) else none) else (some ([] : List Int))))) else none)) else (some ([] : List Int))
theorem impl_around.go : Callable prog 213 := ⟨_, func213, by kernel_rfl, rfl⟩
theorem impl_around.ok (a0 : S38) (a1 : Int) (r : (List Int)) (h : impl_around.f a0 a1 = some r) : VCalls prog 213 [.agg (e38 a0), .c (iI a1)] [.c (.own 3 1 r.length (fun j => (eI .i64) (r.getD j 0)))] := by
  unfold impl_around.f at h
  refine VCalls.of (fn := f213) (N := 70) func213 rfl rfl (fun w0 => ?_)
  obtain ⟨t1, g1, h⟩ := bindN h
  let C1 := mkCon (impl_isFree.ok a0 a1 t1 g1) impl_isFree.go
  by_cases c2 : t1 = true
  · replace h := ip c2 h
    obtain ⟨t2, g3, h⟩ := bindN h
    let C3 := mkCon (impl_isFree.ok a0 (w64 (a1 - a0.f0)) t2 g3) impl_isFree.go
    by_cases c4 : t2 = true
    · replace h := ip c4 h
      obtain ⟨c5, h⟩ := ifN h
      obtain ⟨c6, h⟩ := ifN h
      by_cases c7 : 0 < (a1.tmod a0.f0)
      · replace h := ip c7 h
        obtain ⟨t3, g8, h⟩ := bindN h
        let C8 := mkCon (impl_isFree.ok a0 (w64 (a1 - 1)) t3 g8) impl_isFree.go
        by_cases c9 : t3 = true
        · replace h := ip c9 h
          obtain ⟨c10, h⟩ := ifN h
          by_cases c11 : (a1.tmod a0.f0) < (w64 (a0.f0 - 1))
          · replace h := ip c11 h
            obtain ⟨t4, g12, h⟩ := bindN h
            let C12 := mkCon (impl_isFree.ok a0 (w64 (a1 + 1)) t4 g12) impl_isFree.go
            by_cases c13 : t4 = true
            · replace h := ip c13 h
              obtain ⟨c14, h⟩ := ifN h
              obtain ⟨t5, g15, h⟩ := bindN h
              let C15 := mkCon (impl_isFree.ok a0 (w64 (a1 + a0.f0)) t5 g15) impl_isFree.go
              by_cases c16 : t5 = true
              · replace h := ip c16 h
                obtain ⟨c17, h⟩ := ifN h
                cases h
                exact rt func213 [.call C1, .b false, .call C3, .b true, rowe 21 (eI .i64) 0 ([(w64 (a1 - a0.f0))]), .op 22, .nil 19 321216 3 1, orow 321216 (eI .i64) 0 ([] : List Int), .aft 22, orow 321216 (eI .i64) 0 (([] : List Int) ++ [(w64 (a1 - a0.f0))]), .dec 28 true, .call C8, .b true, rowe 37 (eI .i64) 0 ([(w64 (a1 - 1))]), .aft 38, orow 321216 (eI .i64) 0 ((([] : List Int) ++ [(w64 (a1 - a0.f0))]) ++ [(w64 (a1 - 1))]), .dec 47 true, .call C12, .b true, rowe 56 (eI .i64) 0 ([(w64 (a1 + 1))]), .aft 57, orow 321216 (eI .i64) 0 (((([] : List Int) ++ [(w64 (a1 - a0.f0))]) ++ [(w64 (a1 - 1))]) ++ [(w64 (a1 + 1))]), .call C15, .b true, rowe 67 (eI .i64) 0 ([(w64 (a1 + a0.f0))]), .aft 68, orow 321216 (eI .i64) 0 ((((([] : List Int) ++ [(w64 (a1 - a0.f0))]) ++ [(w64 (a1 - 1))]) ++ [(w64 (a1 + 1))]) ++ [(w64 (a1 + a0.f0))]), .fin] (oc C1 (o1 (bnf c2) (oc C3 (o1 c4 (o1 (GE.lit 1 (eI .i64) 0 [(w64 (a1 - a0.f0))] (by intro x; rfl)) (o1 (GE.nil (eI .i64) 0) (o1 c5 (o1 (GE.app (e := (eI .i64)) (d := 0) ([] : List Int) ([(w64 (a1 - a0.f0))]) rfl (fun _ _ => CE.refl _) rfl) (o1 c6 (oT c7 (oc C8 (o1 c9 (o1 (GE.lit 1 (eI .i64) 0 [(w64 (a1 - 1))] (by intro x; rfl)) (o1 c10 (o1 (GE.app (e := (eI .i64)) (d := 0) (([] : List Int) ++ [(w64 (a1 - a0.f0))]) ([(w64 (a1 - 1))]) rfl (fun _ _ => CE.refl _) rfl) (o1 c6 (oT c11 (oc C12 (o1 c13 (o1 (GE.lit 1 (eI .i64) 0 [(w64 (a1 + 1))] (by intro x; rfl)) (o1 c14 (o1 (GE.app (e := (eI .i64)) (d := 0) ((([] : List Int) ++ [(w64 (a1 - a0.f0))]) ++ [(w64 (a1 - 1))]) ([(w64 (a1 + 1))]) rfl (fun _ _ => CE.refl _) rfl) (oc C15 (o1 c16 (o1 (GE.lit 1 (eI .i64) 0 [(w64 (a1 + a0.f0))] (by intro x; rfl)) (o1 c17 (o1 (GE.app (e := (eI .i64)) (d := 0) (((([] : List Int) ++ [(w64 (a1 - a0.f0))]) ++ [(w64 (a1 - 1))]) ++ [(w64 (a1 + 1))]) ([(w64 (a1 + a0.f0))]) rfl (fun _ _ => CE.refl _) rfl) on)))))))))))))))))))))))))))
              · replace h := iq c16 h
                cases h
                exact rt func213 [.call C1, .b false, .call C3, .b true, rowe 21 (eI .i64) 0 ([(w64 (a1 - a0.f0))]), .op 22, .nil 19 321216 3 1, orow 321216 (eI .i64) 0 ([] : List Int), .aft 22, orow 321216 (eI .i64) 0 (([] : List Int) ++ [(w64 (a1 - a0.f0))]), .dec 28 true, .call C8, .b true, rowe 37 (eI .i64) 0 ([(w64 (a1 - 1))]), .aft 38, orow 321216 (eI .i64) 0 ((([] : List Int) ++ [(w64 (a1 - a0.f0))]) ++ [(w64 (a1 - 1))]), .dec 47 true, .call C12, .b true, rowe 56 (eI .i64) 0 ([(w64 (a1 + 1))]), .aft 57, orow 321216 (eI .i64) 0 (((([] : List Int) ++ [(w64 (a1 - a0.f0))]) ++ [(w64 (a1 - 1))]) ++ [(w64 (a1 + 1))]), .call C15, .b false, .fin] (oc C1 (o1 (bnf c2) (oc C3 (o1 c4 (o1 (GE.lit 1 (eI .i64) 0 [(w64 (a1 - a0.f0))] (by intro x; rfl)) (o1 (GE.nil (eI .i64) 0) (o1 c5 (o1 (GE.app (e := (eI .i64)) (d := 0) ([] : List Int) ([(w64 (a1 - a0.f0))]) rfl (fun _ _ => CE.refl _) rfl) (o1 c6 (oT c7 (oc C8 (o1 c9 (o1 (GE.lit 1 (eI .i64) 0 [(w64 (a1 - 1))] (by intro x; rfl)) (o1 c10 (o1 (GE.app (e := (eI .i64)) (d := 0) (([] : List Int) ++ [(w64 (a1 - a0.f0))]) ([(w64 (a1 - 1))]) rfl (fun _ _ => CE.refl _) rfl) (o1 c6 (oT c11 (oc C12 (o1 c13 (o1 (GE.lit 1 (eI .i64) 0 [(w64 (a1 + 1))] (by intro x; rfl)) (o1 c14 (o1 (GE.app (e := (eI .i64)) (d := 0) ((([] : List Int) ++ [(w64 (a1 - a0.f0))]) ++ [(w64 (a1 - 1))]) ([(w64 (a1 + 1))]) rfl (fun _ _ => CE.refl _) rfl) (oc C15 (o1 (eqf c16) on))))))))))))))))))))))))
            · replace h := iq c13 h
              obtain ⟨t6, g18, h⟩ := bindN h
              let C18 := mkCon (impl_isFree.ok a0 (w64 (a1 + a0.f0)) t6 g18) impl_isFree.go
              by_cases c19 : t6 = true
              · replace h := ip c19 h
                obtain ⟨c20, h⟩ := ifN h
                cases h
                exact rt func213 [.call C1, .b false, .call C3, .b true, rowe 21 (eI .i64) 0 ([(w64 (a1 - a0.f0))]), .op 22, .nil 19 321216 3 1, orow 321216 (eI .i64) 0 ([] : List Int), .aft 22, orow 321216 (eI .i64) 0 (([] : List Int) ++ [(w64 (a1 - a0.f0))]), .dec 28 true, .call C8, .b true, rowe 37 (eI .i64) 0 ([(w64 (a1 - 1))]), .aft 38, orow 321216 (eI .i64) 0 ((([] : List Int) ++ [(w64 (a1 - a0.f0))]) ++ [(w64 (a1 - 1))]), .dec 47 true, .call C12, .b false, .call C18, .b true, rowe 67 (eI .i64) 0 ([(w64 (a1 + a0.f0))]), .aft 68, orow 321216 (eI .i64) 0 (((([] : List Int) ++ [(w64 (a1 - a0.f0))]) ++ [(w64 (a1 - 1))]) ++ [(w64 (a1 + a0.f0))]), .fin] (oc C1 (o1 (bnf c2) (oc C3 (o1 c4 (o1 (GE.lit 1 (eI .i64) 0 [(w64 (a1 - a0.f0))] (by intro x; rfl)) (o1 (GE.nil (eI .i64) 0) (o1 c5 (o1 (GE.app (e := (eI .i64)) (d := 0) ([] : List Int) ([(w64 (a1 - a0.f0))]) rfl (fun _ _ => CE.refl _) rfl) (o1 c6 (oT c7 (oc C8 (o1 c9 (o1 (GE.lit 1 (eI .i64) 0 [(w64 (a1 - 1))] (by intro x; rfl)) (o1 c10 (o1 (GE.app (e := (eI .i64)) (d := 0) (([] : List Int) ++ [(w64 (a1 - a0.f0))]) ([(w64 (a1 - 1))]) rfl (fun _ _ => CE.refl _) rfl) (o1 c6 (oT c11 (oc C12 (o1 (eqf c13) (oc C18 (o1 c19 (o1 (GE.lit 1 (eI .i64) 0 [(w64 (a1 + a0.f0))] (by intro x; rfl)) (o1 c20 (o1 (GE.app (e := (eI .i64)) (d := 0) ((([] : List Int) ++ [(w64 (a1 - a0.f0))]) ++ [(w64 (a1 - 1))]) ([(w64 (a1 + a0.f0))]) rfl (fun _ _ => CE.refl _) rfl) on))))))))))))))))))))))))
              · replace h := iq c19 h
                cases h
                exact rt func213 [.call C1, .b false, .call C3, .b true, rowe 21 (eI .i64) 0 ([(w64 (a1 - a0.f0))]), .op 22, .nil 19 321216 3 1, orow 321216 (eI .i64) 0 ([] : List Int), .aft 22, orow 321216 (eI .i64) 0 (([] : List Int) ++ [(w64 (a1 - a0.f0))]), .dec 28 true, .call C8, .b true, rowe 37 (eI .i64) 0 ([(w64 (a1 - 1))]), .aft 38, orow 321216 (eI .i64) 0 ((([] : List Int) ++ [(w64 (a1 - a0.f0))]) ++ [(w64 (a1 - 1))]), .dec 47 true, .call C12, .b false, .call C18, .b false, .fin] (oc C1 (o1 (bnf c2) (oc C3 (o1 c4 (o1 (GE.lit 1 (eI .i64) 0 [(w64 (a1 - a0.f0))] (by intro x; rfl)) (o1 (GE.nil (eI .i64) 0) (o1 c5 (o1 (GE.app (e := (eI .i64)) (d := 0) ([] : List Int) ([(w64 (a1 - a0.f0))]) rfl (fun _ _ => CE.refl _) rfl) (o1 c6 (oT c7 (oc C8 (o1 c9 (o1 (GE.lit 1 (eI .i64) 0 [(w64 (a1 - 1))] (by intro x; rfl)) (o1 c10 (o1 (GE.app (e := (eI .i64)) (d := 0) (([] : List Int) ++ [(w64 (a1 - a0.f0))]) ([(w64 (a1 - 1))]) rfl (fun _ _ => CE.refl _) rfl) (o1 c6 (oT c11 (oc C12 (o1 (eqf c13) (oc C18 (o1 (eqf c19) on)))))))))))))))))))))
          · replace h := iq c11 h
            obtain ⟨t7, g21, h⟩ := bindN h
            let C21 := mkCon (impl_isFree.ok a0 (w64 (a1 + a0.f0)) t7 g21) impl_isFree.go
            by_cases c22 : t7 = true
            · replace h := ip c22 h
              obtain ⟨c23, h⟩ := ifN h
              cases h
              exact rt func213 [.call C1, .b false, .call C3, .b true, rowe 21 (eI .i64) 0 ([(w64 (a1 - a0.f0))]), .op 22, .nil 19 321216 3 1, orow 321216 (eI .i64) 0 ([] : List Int), .aft 22, orow 321216 (eI .i64) 0 (([] : List Int) ++ [(w64 (a1 - a0.f0))]), .dec 28 true, .call C8, .b true, rowe 37 (eI .i64) 0 ([(w64 (a1 - 1))]), .aft 38, orow 321216 (eI .i64) 0 ((([] : List Int) ++ [(w64 (a1 - a0.f0))]) ++ [(w64 (a1 - 1))]), .dec 47 false, .b false, .call C21, .b true, rowe 67 (eI .i64) 0 ([(w64 (a1 + a0.f0))]), .aft 68, orow 321216 (eI .i64) 0 (((([] : List Int) ++ [(w64 (a1 - a0.f0))]) ++ [(w64 (a1 - 1))]) ++ [(w64 (a1 + a0.f0))]), .fin] (oc C1 (o1 (bnf c2) (oc C3 (o1 c4 (o1 (GE.lit 1 (eI .i64) 0 [(w64 (a1 - a0.f0))] (by intro x; rfl)) (o1 (GE.nil (eI .i64) 0) (o1 c5 (o1 (GE.app (e := (eI .i64)) (d := 0) ([] : List Int) ([(w64 (a1 - a0.f0))]) rfl (fun _ _ => CE.refl _) rfl) (o1 c6 (oT c7 (oc C8 (o1 c9 (o1 (GE.lit 1 (eI .i64) 0 [(w64 (a1 - 1))] (by intro x; rfl)) (o1 c10 (o1 (GE.app (e := (eI .i64)) (d := 0) (([] : List Int) ++ [(w64 (a1 - a0.f0))]) ([(w64 (a1 - 1))]) rfl (fun _ _ => CE.refl _) rfl) (o1 c6 (oF c11 (o1 (rfl : false = false) (oc C21 (o1 c22 (o1 (GE.lit 1 (eI .i64) 0 [(w64 (a1 + a0.f0))] (by intro x; rfl)) (o1 c23 (o1 (GE.app (e := (eI .i64)) (d := 0) ((([] : List Int) ++ [(w64 (a1 - a0.f0))]) ++ [(w64 (a1 - 1))]) ([(w64 (a1 + a0.f0))]) rfl (fun _ _ => CE.refl _) rfl) on)))))))))))))))))))))))
            · replace h := iq c22 h
              cases h
              exact rt func213 [.call C1, .b false, .call C3, .b true, rowe 21 (eI .i64) 0 ([(w64 (a1 - a0.f0))]), .op 22, .nil 19 321216 3 1, orow 321216 (eI .i64) 0 ([] : List Int), .aft 22, orow 321216 (eI .i64) 0 (([] : List Int) ++ [(w64 (a1 - a0.f0))]), .dec 28 true, .call C8, .b true, rowe 37 (eI .i64) 0 ([(w64 (a1 - 1))]), .aft 38, orow 321216 (eI .i64) 0 ((([] : List Int) ++ [(w64 (a1 - a0.f0))]) ++ [(w64 (a1 - 1))]), .dec 47 false, .b false, .call C21, .b false, .fin] (oc C1 (o1 (bnf c2) (oc C3 (o1 c4 (o1 (GE.lit 1 (eI .i64) 0 [(w64 (a1 - a0.f0))] (by intro x; rfl)) (o1 (GE.nil (eI .i64) 0) (o1 c5 (o1 (GE.app (e := (eI .i64)) (d := 0) ([] : List Int) ([(w64 (a1 - a0.f0))]) rfl (fun _ _ => CE.refl _) rfl) (o1 c6 (oT c7 (oc C8 (o1 c9 (o1 (GE.lit 1 (eI .i64) 0 [(w64 (a1 - 1))] (by intro x; rfl)) (o1 c10 (o1 (GE.app (e := (eI .i64)) (d := 0) (([] : List Int) ++ [(w64 (a1 - a0.f0))]) ([(w64 (a1 - 1))]) rfl (fun _ _ => CE.refl _) rfl) (o1 c6 (oF c11 (o1 (rfl : false = false) (oc C21 (o1 (eqf c22) on))))))))))))))))))))
        · replace h := iq c9 h
          by_cases c24 : (a1.tmod a0.f0) < (w64 (a0.f0 - 1))
          · replace h := ip c24 h
            obtain ⟨t8, g25, h⟩ := bindN h
            let C25 := mkCon (impl_isFree.ok a0 (w64 (a1 + 1)) t8 g25) impl_isFree.go
            by_cases c26 : t8 = true
            · replace h := ip c26 h
              obtain ⟨c27, h⟩ := ifN h
              obtain ⟨t9, g28, h⟩ := bindN h
              let C28 := mkCon (impl_isFree.ok a0 (w64 (a1 + a0.f0)) t9 g28) impl_isFree.go
              by_cases c29 : t9 = true
              · replace h := ip c29 h
                obtain ⟨c30, h⟩ := ifN h
                cases h
                exact rt func213 [.call C1, .b false, .call C3, .b true, rowe 21 (eI .i64) 0 ([(w64 (a1 - a0.f0))]), .op 22, .nil 19 321216 3 1, orow 321216 (eI .i64) 0 ([] : List Int), .aft 22, orow 321216 (eI .i64) 0 (([] : List Int) ++ [(w64 (a1 - a0.f0))]), .dec 28 true, .call C8, .b false, .dec 47 true, .call C25, .b true, rowe 56 (eI .i64) 0 ([(w64 (a1 + 1))]), .aft 57, orow 321216 (eI .i64) 0 ((([] : List Int) ++ [(w64 (a1 - a0.f0))]) ++ [(w64 (a1 + 1))]), .call C28, .b true, rowe 67 (eI .i64) 0 ([(w64 (a1 + a0.f0))]), .aft 68, orow 321216 (eI .i64) 0 (((([] : List Int) ++ [(w64 (a1 - a0.f0))]) ++ [(w64 (a1 + 1))]) ++ [(w64 (a1 + a0.f0))]), .fin] (oc C1 (o1 (bnf c2) (oc C3 (o1 c4 (o1 (GE.lit 1 (eI .i64) 0 [(w64 (a1 - a0.f0))] (by intro x; rfl)) (o1 (GE.nil (eI .i64) 0) (o1 c5 (o1 (GE.app (e := (eI .i64)) (d := 0) ([] : List Int) ([(w64 (a1 - a0.f0))]) rfl (fun _ _ => CE.refl _) rfl) (o1 c6 (oT c7 (oc C8 (o1 (eqf c9) (o1 c6 (oT c24 (oc C25 (o1 c26 (o1 (GE.lit 1 (eI .i64) 0 [(w64 (a1 + 1))] (by intro x; rfl)) (o1 c27 (o1 (GE.app (e := (eI .i64)) (d := 0) (([] : List Int) ++ [(w64 (a1 - a0.f0))]) ([(w64 (a1 + 1))]) rfl (fun _ _ => CE.refl _) rfl) (oc C28 (o1 c29 (o1 (GE.lit 1 (eI .i64) 0 [(w64 (a1 + a0.f0))] (by intro x; rfl)) (o1 c30 (o1 (GE.app (e := (eI .i64)) (d := 0) ((([] : List Int) ++ [(w64 (a1 - a0.f0))]) ++ [(w64 (a1 + 1))]) ([(w64 (a1 + a0.f0))]) rfl (fun _ _ => CE.refl _) rfl) on))))))))))))))))))))))))
              · replace h := iq c29 h
                cases h
                exact rt func213 [.call C1, .b false, .call C3, .b true, rowe 21 (eI .i64) 0 ([(w64 (a1 - a0.f0))]), .op 22, .nil 19 321216 3 1, orow 321216 (eI .i64) 0 ([] : List Int), .aft 22, orow 321216 (eI .i64) 0 (([] : List Int) ++ [(w64 (a1 - a0.f0))]), .dec 28 true, .call C8, .b false, .dec 47 true, .call C25, .b true, rowe 56 (eI .i64) 0 ([(w64 (a1 + 1))]), .aft 57, orow 321216 (eI .i64) 0 ((([] : List Int) ++ [(w64 (a1 - a0.f0))]) ++ [(w64 (a1 + 1))]), .call C28, .b false, .fin] (oc C1 (o1 (bnf c2) (oc C3 (o1 c4 (o1 (GE.lit 1 (eI .i64) 0 [(w64 (a1 - a0.f0))] (by intro x; rfl)) (o1 (GE.nil (eI .i64) 0) (o1 c5 (o1 (GE.app (e := (eI .i64)) (d := 0) ([] : List Int) ([(w64 (a1 - a0.f0))]) rfl (fun _ _ => CE.refl _) rfl) (o1 c6 (oT c7 (oc C8 (o1 (eqf c9) (o1 c6 (oT c24 (oc C25 (o1 c26 (o1 (GE.lit 1 (eI .i64) 0 [(w64 (a1 + 1))] (by intro x; rfl)) (o1 c27 (o1 (GE.app (e := (eI .i64)) (d := 0) (([] : List Int) ++ [(w64 (a1 - a0.f0))]) ([(w64 (a1 + 1))]) rfl (fun _ _ => CE.refl _) rfl) (oc C28 (o1 (eqf c29) on)))))))))))))))))))))
            · replace h := iq c26 h
              obtain ⟨t10, g31, h⟩ := bindN h
              let C31 := mkCon (impl_isFree.ok a0 (w64 (a1 + a0.f0)) t10 g31) impl_isFree.go
              by_cases c32 : t10 = true
              · replace h := ip c32 h
                obtain ⟨c33, h⟩ := ifN h
                cases h
                exact rt func213 [.call C1, .b false, .call C3, .b true, rowe 21 (eI .i64) 0 ([(w64 (a1 - a0.f0))]), .op 22, .nil 19 321216 3 1, orow 321216 (eI .i64) 0 ([] : List Int), .aft 22, orow 321216 (eI .i64) 0 (([] : List Int) ++ [(w64 (a1 - a0.f0))]), .dec 28 true, .call C8, .b false, .dec 47 true, .call C25, .b false, .call C31, .b true, rowe 67 (eI .i64) 0 ([(w64 (a1 + a0.f0))]), .aft 68, orow 321216 (eI .i64) 0 ((([] : List Int) ++ [(w64 (a1 - a0.f0))]) ++ [(w64 (a1 + a0.f0))]), .fin] (oc C1 (o1 (bnf c2) (oc C3 (o1 c4 (o1 (GE.lit 1 (eI .i64) 0 [(w64 (a1 - a0.f0))] (by intro x; rfl)) (o1 (GE.nil (eI .i64) 0) (o1 c5 (o1 (GE.app (e := (eI .i64)) (d := 0) ([] : List Int) ([(w64 (a1 - a0.f0))]) rfl (fun _ _ => CE.refl _) rfl) (o1 c6 (oT c7 (oc C8 (o1 (eqf c9) (o1 c6 (oT c24 (oc C25 (o1 (eqf c26) (oc C31 (o1 c32 (o1 (GE.lit 1 (eI .i64) 0 [(w64 (a1 + a0.f0))] (by intro x; rfl)) (o1 c33 (o1 (GE.app (e := (eI .i64)) (d := 0) (([] : List Int) ++ [(w64 (a1 - a0.f0))]) ([(w64 (a1 + a0.f0))]) rfl (fun _ _ => CE.refl _) rfl) on)))))))))))))))))))))
              · replace h := iq c32 h
                cases h
                exact rt func213 [.call C1, .b false, .call C3, .b true, rowe 21 (eI .i64) 0 ([(w64 (a1 - a0.f0))]), .op 22, .nil 19 321216 3 1, orow 321216 (eI .i64) 0 ([] : List Int), .aft 22, orow 321216 (eI .i64) 0 (([] : List Int) ++ [(w64 (a1 - a0.f0))]), .dec 28 true, .call C8, .b false, .dec 47 true, .call C25, .b false, .call C31, .b false, .fin] (oc C1 (o1 (bnf c2) (oc C3 (o1 c4 (o1 (GE.lit 1 (eI .i64) 0 [(w64 (a1 - a0.f0))] (by intro x; rfl)) (o1 (GE.nil (eI .i64) 0) (o1 c5 (o1 (GE.app (e := (eI .i64)) (d := 0) ([] : List Int) ([(w64 (a1 - a0.f0))]) rfl (fun _ _ => CE.refl _) rfl) (o1 c6 (oT c7 (oc C8 (o1 (eqf c9) (o1 c6 (oT c24 (oc C25 (o1 (eqf c26) (oc C31 (o1 (eqf c32) on))))))))))))))))))
          · replace h := iq c24 h
            obtain ⟨t11, g34, h⟩ := bindN h
            let C34 := mkCon (impl_isFree.ok a0 (w64 (a1 + a0.f0)) t11 g34) impl_isFree.go
            by_cases c35 : t11 = true
            · replace h := ip c35 h
              obtain ⟨c36, h⟩ := ifN h
              cases h
              exact rt func213 [.call C1, .b false, .call C3, .b true, rowe 21 (eI .i64) 0 ([(w64 (a1 - a0.f0))]), .op 22, .nil 19 321216 3 1, orow 321216 (eI .i64) 0 ([] : List Int), .aft 22, orow 321216 (eI .i64) 0 (([] : List Int) ++ [(w64 (a1 - a0.f0))]), .dec 28 true, .call C8, .b false, .dec 47 false, .b false, .call C34, .b true, rowe 67 (eI .i64) 0 ([(w64 (a1 + a0.f0))]), .aft 68, orow 321216 (eI .i64) 0 ((([] : List Int) ++ [(w64 (a1 - a0.f0))]) ++ [(w64 (a1 + a0.f0))]), .fin] (oc C1 (o1 (bnf c2) (oc C3 (o1 c4 (o1 (GE.lit 1 (eI .i64) 0 [(w64 (a1 - a0.f0))] (by intro x; rfl)) (o1 (GE.nil (eI .i64) 0) (o1 c5 (o1 (GE.app (e := (eI .i64)) (d := 0) ([] : List Int) ([(w64 (a1 - a0.f0))]) rfl (fun _ _ => CE.refl _) rfl) (o1 c6 (oT c7 (oc C8 (o1 (eqf c9) (o1 c6 (oF c24 (o1 (rfl : false = false) (oc C34 (o1 c35 (o1 (GE.lit 1 (eI .i64) 0 [(w64 (a1 + a0.f0))] (by intro x; rfl)) (o1 c36 (o1 (GE.app (e := (eI .i64)) (d := 0) (([] : List Int) ++ [(w64 (a1 - a0.f0))]) ([(w64 (a1 + a0.f0))]) rfl (fun _ _ => CE.refl _) rfl) on))))))))))))))))))))
            · replace h := iq c35 h
              cases h
              exact rt func213 [.call C1, .b false, .call C3, .b true, rowe 21 (eI .i64) 0 ([(w64 (a1 - a0.f0))]), .op 22, .nil 19 321216 3 1, orow 321216 (eI .i64) 0 ([] : List Int), .aft 22, orow 321216 (eI .i64) 0 (([] : List Int) ++ [(w64 (a1 - a0.f0))]), .dec 28 true, .call C8, .b false, .dec 47 false, .b false, .call C34, .b false, .fin] (oc C1 (o1 (bnf c2) (oc C3 (o1 c4 (o1 (GE.lit 1 (eI .i64) 0 [(w64 (a1 - a0.f0))] (by intro x; rfl)) (o1 (GE.nil (eI .i64) 0) (o1 c5 (o1 (GE.app (e := (eI .i64)) (d := 0) ([] : List Int) ([(w64 (a1 - a0.f0))]) rfl (fun _ _ => CE.refl _) rfl) (o1 c6 (oT c7 (oc C8 (o1 (eqf c9) (o1 c6 (oF c24 (o1 (rfl : false = false) (oc C34 (o1 (eqf c35) on)))))))))))))))))
      · replace h := iq c7 h
        by_cases c37 : (a1.tmod a0.f0) < (w64 (a0.f0 - 1))
        · replace h := ip c37 h
          obtain ⟨t12, g38, h⟩ := bindN h
          let C38 := mkCon (impl_isFree.ok a0 (w64 (a1 + 1)) t12 g38) impl_isFree.go
          by_cases c39 : t12 = true
          · replace h := ip c39 h
            obtain ⟨c40, h⟩ := ifN h
            obtain ⟨t13, g41, h⟩ := bindN h
            let C41 := mkCon (impl_isFree.ok a0 (w64 (a1 + a0.f0)) t13 g41) impl_isFree.go
            by_cases c42 : t13 = true
            · replace h := ip c42 h
              obtain ⟨c43, h⟩ := ifN h
              cases h
              exact rt func213 [.call C1, .b false, .call C3, .b true, rowe 21 (eI .i64) 0 ([(w64 (a1 - a0.f0))]), .op 22, .nil 19 321216 3 1, orow 321216 (eI .i64) 0 ([] : List Int), .aft 22, orow 321216 (eI .i64) 0 (([] : List Int) ++ [(w64 (a1 - a0.f0))]), .dec 28 false, .b false, .dec 47 true, .call C38, .b true, rowe 56 (eI .i64) 0 ([(w64 (a1 + 1))]), .aft 57, orow 321216 (eI .i64) 0 ((([] : List Int) ++ [(w64 (a1 - a0.f0))]) ++ [(w64 (a1 + 1))]), .call C41, .b true, rowe 67 (eI .i64) 0 ([(w64 (a1 + a0.f0))]), .aft 68, orow 321216 (eI .i64) 0 (((([] : List Int) ++ [(w64 (a1 - a0.f0))]) ++ [(w64 (a1 + 1))]) ++ [(w64 (a1 + a0.f0))]), .fin] (oc C1 (o1 (bnf c2) (oc C3 (o1 c4 (o1 (GE.lit 1 (eI .i64) 0 [(w64 (a1 - a0.f0))] (by intro x; rfl)) (o1 (GE.nil (eI .i64) 0) (o1 c5 (o1 (GE.app (e := (eI .i64)) (d := 0) ([] : List Int) ([(w64 (a1 - a0.f0))]) rfl (fun _ _ => CE.refl _) rfl) (o1 c6 (oF c7 (o1 (rfl : false = false) (o1 c6 (oT c37 (oc C38 (o1 c39 (o1 (GE.lit 1 (eI .i64) 0 [(w64 (a1 + 1))] (by intro x; rfl)) (o1 c40 (o1 (GE.app (e := (eI .i64)) (d := 0) (([] : List Int) ++ [(w64 (a1 - a0.f0))]) ([(w64 (a1 + 1))]) rfl (fun _ _ => CE.refl _) rfl) (oc C41 (o1 c42 (o1 (GE.lit 1 (eI .i64) 0 [(w64 (a1 + a0.f0))] (by intro x; rfl)) (o1 c43 (o1 (GE.app (e := (eI .i64)) (d := 0) ((([] : List Int) ++ [(w64 (a1 - a0.f0))]) ++ [(w64 (a1 + 1))]) ([(w64 (a1 + a0.f0))]) rfl (fun _ _ => CE.refl _) rfl) on)))))))))))))))))))))))
            · replace h := iq c42 h
              cases h
              exact rt func213 [.call C1, .b false, .call C3, .b true, rowe 21 (eI .i64) 0 ([(w64 (a1 - a0.f0))]), .op 22, .nil 19 321216 3 1, orow 321216 (eI .i64) 0 ([] : List Int), .aft 22, orow 321216 (eI .i64) 0 (([] : List Int) ++ [(w64 (a1 - a0.f0))]), .dec 28 false, .b false, .dec 47 true, .call C38, .b true, rowe 56 (eI .i64) 0 ([(w64 (a1 + 1))]), .aft 57, orow 321216 (eI .i64) 0 ((([] : List Int) ++ [(w64 (a1 - a0.f0))]) ++ [(w64 (a1 + 1))]), .call C41, .b false, .fin] (oc C1 (o1 (bnf c2) (oc C3 (o1 c4 (o1 (GE.lit 1 (eI .i64) 0 [(w64 (a1 - a0.f0))] (by intro x; rfl)) (o1 (GE.nil (eI .i64) 0) (o1 c5 (o1 (GE.app (e := (eI .i64)) (d := 0) ([] : List Int) ([(w64 (a1 - a0.f0))]) rfl (fun _ _ => CE.refl _) rfl) (o1 c6 (oF c7 (o1 (rfl : false = false) (o1 c6 (oT c37 (oc C38 (o1 c39 (o1 (GE.lit 1 (eI .i64) 0 [(w64 (a1 + 1))] (by intro x; rfl)) (o1 c40 (o1 (GE.app (e := (eI .i64)) (d := 0) (([] : List Int) ++ [(w64 (a1 - a0.f0))]) ([(w64 (a1 + 1))]) rfl (fun _ _ => CE.refl _) rfl) (oc C41 (o1 (eqf c42) on))))))))))))))))))))
          · replace h := iq c39 h
            obtain ⟨t14, g44, h⟩ := bindN h
            let C44 := mkCon (impl_isFree.ok a0 (w64 (a1 + a0.f0)) t14 g44) impl_isFree.go
            by_cases c45 : t14 = true
            · replace h := ip c45 h
              obtain ⟨c46, h⟩ := ifN h
              cases h
              exact rt func213 [.call C1, .b false, .call C3, .b true, rowe 21 (eI .i64) 0 ([(w64 (a1 - a0.f0))]), .op 22, .nil 19 321216 3 1, orow 321216 (eI .i64) 0 ([] : List Int), .aft 22, orow 321216 (eI .i64) 0 (([] : List Int) ++ [(w64 (a1 - a0.f0))]), .dec 28 false, .b false, .dec 47 true, .call C38, .b false, .call C44, .b true, rowe 67 (eI .i64) 0 ([(w64 (a1 + a0.f0))]), .aft 68, orow 321216 (eI .i64) 0 ((([] : List Int) ++ [(w64 (a1 - a0.f0))]) ++ [(w64 (a1 + a0.f0))]), .fin] (oc C1 (o1 (bnf c2) (oc C3 (o1 c4 (o1 (GE.lit 1 (eI .i64) 0 [(w64 (a1 - a0.f0))] (by intro x; rfl)) (o1 (GE.nil (eI .i64) 0) (o1 c5 (o1 (GE.app (e := (eI .i64)) (d := 0) ([] : List Int) ([(w64 (a1 - a0.f0))]) rfl (fun _ _ => CE.refl _) rfl) (o1 c6 (oF c7 (o1 (rfl : false = false) (o1 c6 (oT c37 (oc C38 (o1 (eqf c39) (oc C44 (o1 c45 (o1 (GE.lit 1 (eI .i64) 0 [(w64 (a1 + a0.f0))] (by intro x; rfl)) (o1 c46 (o1 (GE.app (e := (eI .i64)) (d := 0) (([] : List Int) ++ [(w64 (a1 - a0.f0))]) ([(w64 (a1 + a0.f0))]) rfl (fun _ _ => CE.refl _) rfl) on))))))))))))))))))))
            · replace h := iq c45 h
              cases h
              exact rt func213 [.call C1, .b false, .call C3, .b true, rowe 21 (eI .i64) 0 ([(w64 (a1 - a0.f0))]), .op 22, .nil 19 321216 3 1, orow 321216 (eI .i64) 0 ([] : List Int), .aft 22, orow 321216 (eI .i64) 0 (([] : List Int) ++ [(w64 (a1 - a0.f0))]), .dec 28 false, .b false, .dec 47 true, .call C38, .b false, .call C44, .b false, .fin] (oc C1 (o1 (bnf c2) (oc C3 (o1 c4 (o1 (GE.lit 1 (eI .i64) 0 [(w64 (a1 - a0.f0))] (by intro x; rfl)) (o1 (GE.nil (eI .i64) 0) (o1 c5 (o1 (GE.app (e := (eI .i64)) (d := 0) ([] : List Int) ([(w64 (a1 - a0.f0))]) rfl (fun _ _ => CE.refl _) rfl) (o1 c6 (oF c7 (o1 (rfl : false = false) (o1 c6 (oT c37 (oc C38 (o1 (eqf c39) (oc C44 (o1 (eqf c45) on)))))))))))))))))
        · replace h := iq c37 h
          obtain ⟨t15, g47, h⟩ := bindN h
          let C47 := mkCon (impl_isFree.ok a0 (w64 (a1 + a0.f0)) t15 g47) impl_isFree.go
          by_cases c48 : t15 = true
          · replace h := ip c48 h
            obtain ⟨c49, h⟩ := ifN h
            cases h
            exact rt func213 [.call C1, .b false, .call C3, .b true, rowe 21 (eI .i64) 0 ([(w64 (a1 - a0.f0))]), .op 22, .nil 19 321216 3 1, orow 321216 (eI .i64) 0 ([] : List Int), .aft 22, orow 321216 (eI .i64) 0 (([] : List Int) ++ [(w64 (a1 - a0.f0))]), .dec 28 false, .b false, .dec 47 false, .b false, .call C47, .b true, rowe 67 (eI .i64) 0 ([(w64 (a1 + a0.f0))]), .aft 68, orow 321216 (eI .i64) 0 ((([] : List Int) ++ [(w64 (a1 - a0.f0))]) ++ [(w64 (a1 + a0.f0))]), .fin] (oc C1 (o1 (bnf c2) (oc C3 (o1 c4 (o1 (GE.lit 1 (eI .i64) 0 [(w64 (a1 - a0.f0))] (by intro x; rfl)) (o1 (GE.nil (eI .i64) 0) (o1 c5 (o1 (GE.app (e := (eI .i64)) (d := 0) ([] : List Int) ([(w64 (a1 - a0.f0))]) rfl (fun _ _ => CE.refl _) rfl) (o1 c6 (oF c7 (o1 (rfl : false = false) (o1 c6 (oF c37 (o1 (rfl : false = false) (oc C47 (o1 c48 (o1 (GE.lit 1 (eI .i64) 0 [(w64 (a1 + a0.f0))] (by intro x; rfl)) (o1 c49 (o1 (GE.app (e := (eI .i64)) (d := 0) (([] : List Int) ++ [(w64 (a1 - a0.f0))]) ([(w64 (a1 + a0.f0))]) rfl (fun _ _ => CE.refl _) rfl) on)))))))))))))))))))
          · replace h := iq c48 h
            cases h
            exact rt func213 [.call C1, .b false, .call C3, .b true, rowe 21 (eI .i64) 0 ([(w64 (a1 - a0.f0))]), .op 22, .nil 19 321216 3 1, orow 321216 (eI .i64) 0 ([] : List Int), .aft 22, orow 321216 (eI .i64) 0 (([] : List Int) ++ [(w64 (a1 - a0.f0))]), .dec 28 false, .b false, .dec 47 false, .b false, .call C47, .b false, .fin] (oc C1 (o1 (bnf c2) (oc C3 (o1 c4 (o1 (GE.lit 1 (eI .i64) 0 [(w64 (a1 - a0.f0))] (by intro x; rfl)) (o1 (GE.nil (eI .i64) 0) (o1 c5 (o1 (GE.app (e := (eI .i64)) (d := 0) ([] : List Int) ([(w64 (a1 - a0.f0))]) rfl (fun _ _ => CE.refl _) rfl) (o1 c6 (oF c7 (o1 (rfl : false = false) (o1 c6 (oF c37 (o1 (rfl : false = false) (oc C47 (o1 (eqf c48) on))))))))))))))))
    · replace h := iq c4 h
      obtain ⟨c50, h⟩ := ifN h
      by_cases c51 : 0 < (a1.tmod a0.f0)
      · replace h := ip c51 h
        obtain ⟨t16, g52, h⟩ := bindN h
        let C52 := mkCon (impl_isFree.ok a0 (w64 (a1 - 1)) t16 g52) impl_isFree.go
        by_cases c53 : t16 = true
        · replace h := ip c53 h
          obtain ⟨c54, h⟩ := ifN h
          by_cases c55 : (a1.tmod a0.f0) < (w64 (a0.f0 - 1))
          · replace h := ip c55 h
            obtain ⟨t17, g56, h⟩ := bindN h
            let C56 := mkCon (impl_isFree.ok a0 (w64 (a1 + 1)) t17 g56) impl_isFree.go
            by_cases c57 : t17 = true
            · replace h := ip c57 h
              obtain ⟨c58, h⟩ := ifN h
              obtain ⟨t18, g59, h⟩ := bindN h
              let C59 := mkCon (impl_isFree.ok a0 (w64 (a1 + a0.f0)) t18 g59) impl_isFree.go
              by_cases c60 : t18 = true
              · replace h := ip c60 h
                obtain ⟨c61, h⟩ := ifN h
                cases h
                exact rt func213 [.call C1, .b false, .call C3, .b false, .dec 28 true, .call C52, .b true, rowe 37 (eI .i64) 0 ([(w64 (a1 - 1))]), .op 38, .nil 34 322176 3 1, orow 322176 (eI .i64) 0 ([] : List Int), .aft 38, orow 322176 (eI .i64) 0 (([] : List Int) ++ [(w64 (a1 - 1))]), .dec 47 true, .call C56, .b true, rowe 56 (eI .i64) 0 ([(w64 (a1 + 1))]), .aft 57, orow 322176 (eI .i64) 0 ((([] : List Int) ++ [(w64 (a1 - 1))]) ++ [(w64 (a1 + 1))]), .call C59, .b true, rowe 67 (eI .i64) 0 ([(w64 (a1 + a0.f0))]), .aft 68, orow 322176 (eI .i64) 0 (((([] : List Int) ++ [(w64 (a1 - 1))]) ++ [(w64 (a1 + 1))]) ++ [(w64 (a1 + a0.f0))]), .fin] (oc C1 (o1 (bnf c2) (oc C3 (o1 (eqf c4) (o1 c50 (oT c51 (oc C52 (o1 c53 (o1 (GE.lit 1 (eI .i64) 0 [(w64 (a1 - 1))] (by intro x; rfl)) (o1 (GE.nil (eI .i64) 0) (o1 c54 (o1 (GE.app (e := (eI .i64)) (d := 0) ([] : List Int) ([(w64 (a1 - 1))]) rfl (fun _ _ => CE.refl _) rfl) (o1 c50 (oT c55 (oc C56 (o1 c57 (o1 (GE.lit 1 (eI .i64) 0 [(w64 (a1 + 1))] (by intro x; rfl)) (o1 c58 (o1 (GE.app (e := (eI .i64)) (d := 0) (([] : List Int) ++ [(w64 (a1 - 1))]) ([(w64 (a1 + 1))]) rfl (fun _ _ => CE.refl _) rfl) (oc C59 (o1 c60 (o1 (GE.lit 1 (eI .i64) 0 [(w64 (a1 + a0.f0))] (by intro x; rfl)) (o1 c61 (o1 (GE.app (e := (eI .i64)) (d := 0) ((([] : List Int) ++ [(w64 (a1 - 1))]) ++ [(w64 (a1 + 1))]) ([(w64 (a1 + a0.f0))]) rfl (fun _ _ => CE.refl _) rfl) on))))))))))))))))))))))))
              · replace h := iq c60 h
                cases h
                exact rt func213 [.call C1, .b false, .call C3, .b false, .dec 28 true, .call C52, .b true, rowe 37 (eI .i64) 0 ([(w64 (a1 - 1))]), .op 38, .nil 34 322176 3 1, orow 322176 (eI .i64) 0 ([] : List Int), .aft 38, orow 322176 (eI .i64) 0 (([] : List Int) ++ [(w64 (a1 - 1))]), .dec 47 true, .call C56, .b true, rowe 56 (eI .i64) 0 ([(w64 (a1 + 1))]), .aft 57, orow 322176 (eI .i64) 0 ((([] : List Int) ++ [(w64 (a1 - 1))]) ++ [(w64 (a1 + 1))]), .call C59, .b false, .fin] (oc C1 (o1 (bnf c2) (oc C3 (o1 (eqf c4) (o1 c50 (oT c51 (oc C52 (o1 c53 (o1 (GE.lit 1 (eI .i64) 0 [(w64 (a1 - 1))] (by intro x; rfl)) (o1 (GE.nil (eI .i64) 0) (o1 c54 (o1 (GE.app (e := (eI .i64)) (d := 0) ([] : List Int) ([(w64 (a1 - 1))]) rfl (fun _ _ => CE.refl _) rfl) (o1 c50 (oT c55 (oc C56 (o1 c57 (o1 (GE.lit 1 (eI .i64) 0 [(w64 (a1 + 1))] (by intro x; rfl)) (o1 c58 (o1 (GE.app (e := (eI .i64)) (d := 0) (([] : List Int) ++ [(w64 (a1 - 1))]) ([(w64 (a1 + 1))]) rfl (fun _ _ => CE.refl _) rfl) (oc C59 (o1 (eqf c60) on)))))))))))))))))))))
            · replace h := iq c57 h
              obtain ⟨t19, g62, h⟩ := bindN h
              let C62 := mkCon (impl_isFree.ok a0 (w64 (a1 + a0.f0)) t19 g62) impl_isFree.go
              by_cases c63 : t19 = true
              · replace h := ip c63 h
                obtain ⟨c64, h⟩ := ifN h
                cases h
                exact rt func213 [.call C1, .b false, .call C3, .b false, .dec 28 true, .call C52, .b true, rowe 37 (eI .i64) 0 ([(w64 (a1 - 1))]), .op 38, .nil 34 322176 3 1, orow 322176 (eI .i64) 0 ([] : List Int), .aft 38, orow 322176 (eI .i64) 0 (([] : List Int) ++ [(w64 (a1 - 1))]), .dec 47 true, .call C56, .b false, .call C62, .b true, rowe 67 (eI .i64) 0 ([(w64 (a1 + a0.f0))]), .aft 68, orow 322176 (eI .i64) 0 ((([] : List Int) ++ [(w64 (a1 - 1))]) ++ [(w64 (a1 + a0.f0))]), .fin] (oc C1 (o1 (bnf c2) (oc C3 (o1 (eqf c4) (o1 c50 (oT c51 (oc C52 (o1 c53 (o1 (GE.lit 1 (eI .i64) 0 [(w64 (a1 - 1))] (by intro x; rfl)) (o1 (GE.nil (eI .i64) 0) (o1 c54 (o1 (GE.app (e := (eI .i64)) (d := 0) ([] : List Int) ([(w64 (a1 - 1))]) rfl (fun _ _ => CE.refl _) rfl) (o1 c50 (oT c55 (oc C56 (o1 (eqf c57) (oc C62 (o1 c63 (o1 (GE.lit 1 (eI .i64) 0 [(w64 (a1 + a0.f0))] (by intro x; rfl)) (o1 c64 (o1 (GE.app (e := (eI .i64)) (d := 0) (([] : List Int) ++ [(w64 (a1 - 1))]) ([(w64 (a1 + a0.f0))]) rfl (fun _ _ => CE.refl _) rfl) on)))))))))))))))))))))
              · replace h := iq c63 h
                cases h
                exact rt func213 [.call C1, .b false, .call C3, .b false, .dec 28 true, .call C52, .b true, rowe 37 (eI .i64) 0 ([(w64 (a1 - 1))]), .op 38, .nil 34 322176 3 1, orow 322176 (eI .i64) 0 ([] : List Int), .aft 38, orow 322176 (eI .i64) 0 (([] : List Int) ++ [(w64 (a1 - 1))]), .dec 47 true, .call C56, .b false, .call C62, .b false, .fin] (oc C1 (o1 (bnf c2) (oc C3 (o1 (eqf c4) (o1 c50 (oT c51 (oc C52 (o1 c53 (o1 (GE.lit 1 (eI .i64) 0 [(w64 (a1 - 1))] (by intro x; rfl)) (o1 (GE.nil (eI .i64) 0) (o1 c54 (o1 (GE.app (e := (eI .i64)) (d := 0) ([] : List Int) ([(w64 (a1 - 1))]) rfl (fun _ _ => CE.refl _) rfl) (o1 c50 (oT c55 (oc C56 (o1 (eqf c57) (oc C62 (o1 (eqf c63) on))))))))))))))))))
          · replace h := iq c55 h
            obtain ⟨t20, g65, h⟩ := bindN h
            let C65 := mkCon (impl_isFree.ok a0 (w64 (a1 + a0.f0)) t20 g65) impl_isFree.go
            by_cases c66 : t20 = true
            · replace h := ip c66 h
              obtain ⟨c67, h⟩ := ifN h
              cases h
              exact rt func213 [.call C1, .b false, .call C3, .b false, .dec 28 true, .call C52, .b true, rowe 37 (eI .i64) 0 ([(w64 (a1 - 1))]), .op 38, .nil 34 322176 3 1, orow 322176 (eI .i64) 0 ([] : List Int), .aft 38, orow 322176 (eI .i64) 0 (([] : List Int) ++ [(w64 (a1 - 1))]), .dec 47 false, .b false, .call C65, .b true, rowe 67 (eI .i64) 0 ([(w64 (a1 + a0.f0))]), .aft 68, orow 322176 (eI .i64) 0 ((([] : List Int) ++ [(w64 (a1 - 1))]) ++ [(w64 (a1 + a0.f0))]), .fin] (oc C1 (o1 (bnf c2) (oc C3 (o1 (eqf c4) (o1 c50 (oT c51 (oc C52 (o1 c53 (o1 (GE.lit 1 (eI .i64) 0 [(w64 (a1 - 1))] (by intro x; rfl)) (o1 (GE.nil (eI .i64) 0) (o1 c54 (o1 (GE.app (e := (eI .i64)) (d := 0) ([] : List Int) ([(w64 (a1 - 1))]) rfl (fun _ _ => CE.refl _) rfl) (o1 c50 (oF c55 (o1 (rfl : false = false) (oc C65 (o1 c66 (o1 (GE.lit 1 (eI .i64) 0 [(w64 (a1 + a0.f0))] (by intro x; rfl)) (o1 c67 (o1 (GE.app (e := (eI .i64)) (d := 0) (([] : List Int) ++ [(w64 (a1 - 1))]) ([(w64 (a1 + a0.f0))]) rfl (fun _ _ => CE.refl _) rfl) on))))))))))))))))))))
            · replace h := iq c66 h
              cases h
              exact rt func213 [.call C1, .b false, .call C3, .b false, .dec 28 true, .call C52, .b true, rowe 37 (eI .i64) 0 ([(w64 (a1 - 1))]), .op 38, .nil 34 322176 3 1, orow 322176 (eI .i64) 0 ([] : List Int), .aft 38, orow 322176 (eI .i64) 0 (([] : List Int) ++ [(w64 (a1 - 1))]), .dec 47 false, .b false, .call C65, .b false, .fin] (oc C1 (o1 (bnf c2) (oc C3 (o1 (eqf c4) (o1 c50 (oT c51 (oc C52 (o1 c53 (o1 (GE.lit 1 (eI .i64) 0 [(w64 (a1 - 1))] (by intro x; rfl)) (o1 (GE.nil (eI .i64) 0) (o1 c54 (o1 (GE.app (e := (eI .i64)) (d := 0) ([] : List Int) ([(w64 (a1 - 1))]) rfl (fun _ _ => CE.refl _) rfl) (o1 c50 (oF c55 (o1 (rfl : false = false) (oc C65 (o1 (eqf c66) on)))))))))))))))))
        · replace h := iq c53 h
          by_cases c68 : (a1.tmod a0.f0) < (w64 (a0.f0 - 1))
          · replace h := ip c68 h
            obtain ⟨t21, g69, h⟩ := bindN h
            let C69 := mkCon (impl_isFree.ok a0 (w64 (a1 + 1)) t21 g69) impl_isFree.go
            by_cases c70 : t21 = true
            · replace h := ip c70 h
              obtain ⟨c71, h⟩ := ifN h
              obtain ⟨t22, g72, h⟩ := bindN h
              let C72 := mkCon (impl_isFree.ok a0 (w64 (a1 + a0.f0)) t22 g72) impl_isFree.go
              by_cases c73 : t22 = true
              · replace h := ip c73 h
                obtain ⟨c74, h⟩ := ifN h
                cases h
                exact rt func213 [.call C1, .b false, .call C3, .b false, .dec 28 true, .call C52, .b false, .dec 47 true, .call C69, .b true, rowe 56 (eI .i64) 0 ([(w64 (a1 + 1))]), .op 57, .nil 53 323392 3 1, orow 323392 (eI .i64) 0 ([] : List Int), .aft 57, orow 323392 (eI .i64) 0 (([] : List Int) ++ [(w64 (a1 + 1))]), .call C72, .b true, rowe 67 (eI .i64) 0 ([(w64 (a1 + a0.f0))]), .aft 68, orow 323392 (eI .i64) 0 ((([] : List Int) ++ [(w64 (a1 + 1))]) ++ [(w64 (a1 + a0.f0))]), .fin] (oc C1 (o1 (bnf c2) (oc C3 (o1 (eqf c4) (o1 c50 (oT c51 (oc C52 (o1 (eqf c53) (o1 c50 (oT c68 (oc C69 (o1 c70 (o1 (GE.lit 1 (eI .i64) 0 [(w64 (a1 + 1))] (by intro x; rfl)) (o1 (GE.nil (eI .i64) 0) (o1 c71 (o1 (GE.app (e := (eI .i64)) (d := 0) ([] : List Int) ([(w64 (a1 + 1))]) rfl (fun _ _ => CE.refl _) rfl) (oc C72 (o1 c73 (o1 (GE.lit 1 (eI .i64) 0 [(w64 (a1 + a0.f0))] (by intro x; rfl)) (o1 c74 (o1 (GE.app (e := (eI .i64)) (d := 0) (([] : List Int) ++ [(w64 (a1 + 1))]) ([(w64 (a1 + a0.f0))]) rfl (fun _ _ => CE.refl _) rfl) on)))))))))))))))))))))
              · replace h := iq c73 h
                cases h
                exact rt func213 [.call C1, .b false, .call C3, .b false, .dec 28 true, .call C52, .b false, .dec 47 true, .call C69, .b true, rowe 56 (eI .i64) 0 ([(w64 (a1 + 1))]), .op 57, .nil 53 323392 3 1, orow 323392 (eI .i64) 0 ([] : List Int), .aft 57, orow 323392 (eI .i64) 0 (([] : List Int) ++ [(w64 (a1 + 1))]), .call C72, .b false, .fin] (oc C1 (o1 (bnf c2) (oc C3 (o1 (eqf c4) (o1 c50 (oT c51 (oc C52 (o1 (eqf c53) (o1 c50 (oT c68 (oc C69 (o1 c70 (o1 (GE.lit 1 (eI .i64) 0 [(w64 (a1 + 1))] (by intro x; rfl)) (o1 (GE.nil (eI .i64) 0) (o1 c71 (o1 (GE.app (e := (eI .i64)) (d := 0) ([] : List Int) ([(w64 (a1 + 1))]) rfl (fun _ _ => CE.refl _) rfl) (oc C72 (o1 (eqf c73) on))))))))))))))))))
            · replace h := iq c70 h
              obtain ⟨t23, g75, h⟩ := bindN h
              let C75 := mkCon (impl_isFree.ok a0 (w64 (a1 + a0.f0)) t23 g75) impl_isFree.go
              by_cases c76 : t23 = true
              · replace h := ip c76 h
                obtain ⟨c77, h⟩ := ifN h
                cases h
                exact rt func213 [.call C1, .b false, .call C3, .b false, .dec 28 true, .call C52, .b false, .dec 47 true, .call C69, .b false, .call C75, .b true, rowe 67 (eI .i64) 0 ([(w64 (a1 + a0.f0))]), .op 68, .nil 65 324160 3 1, orow 324160 (eI .i64) 0 ([] : List Int), .aft 68, orow 324160 (eI .i64) 0 (([] : List Int) ++ [(w64 (a1 + a0.f0))]), .fin] (oc C1 (o1 (bnf c2) (oc C3 (o1 (eqf c4) (o1 c50 (oT c51 (oc C52 (o1 (eqf c53) (o1 c50 (oT c68 (oc C69 (o1 (eqf c70) (oc C75 (o1 c76 (o1 (GE.lit 1 (eI .i64) 0 [(w64 (a1 + a0.f0))] (by intro x; rfl)) (o1 (GE.nil (eI .i64) 0) (o1 c77 (o1 (GE.app (e := (eI .i64)) (d := 0) ([] : List Int) ([(w64 (a1 + a0.f0))]) rfl (fun _ _ => CE.refl _) rfl) on))))))))))))))))))
              · replace h := iq c76 h
                cases h
                exact rt func213 [.call C1, .b false, .call C3, .b false, .dec 28 true, .call C52, .b false, .dec 47 true, .call C69, .b false, .call C75, .b false, .fin, .nil 4 384256 3 1, orow 384256 (eI .i64) 0 ([] : List Int)] (oc C1 (o1 (bnf c2) (oc C3 (o1 (eqf c4) (o1 c50 (oT c51 (oc C52 (o1 (eqf c53) (o1 c50 (oT c68 (oc C69 (o1 (eqf c70) (oc C75 (o1 (eqf c76) (o1 (GE.nil (eI .i64) 0) on)))))))))))))))
          · replace h := iq c68 h
            obtain ⟨t24, g78, h⟩ := bindN h
            let C78 := mkCon (impl_isFree.ok a0 (w64 (a1 + a0.f0)) t24 g78) impl_isFree.go
            by_cases c79 : t24 = true
            · replace h := ip c79 h
              obtain ⟨c80, h⟩ := ifN h
              cases h
              exact rt func213 [.call C1, .b false, .call C3, .b false, .dec 28 true, .call C52, .b false, .dec 47 false, .b false, .call C78, .b true, rowe 67 (eI .i64) 0 ([(w64 (a1 + a0.f0))]), .op 68, .nil 65 324160 3 1, orow 324160 (eI .i64) 0 ([] : List Int), .aft 68, orow 324160 (eI .i64) 0 (([] : List Int) ++ [(w64 (a1 + a0.f0))]), .fin] (oc C1 (o1 (bnf c2) (oc C3 (o1 (eqf c4) (o1 c50 (oT c51 (oc C52 (o1 (eqf c53) (o1 c50 (oF c68 (o1 (rfl : false = false) (oc C78 (o1 c79 (o1 (GE.lit 1 (eI .i64) 0 [(w64 (a1 + a0.f0))] (by intro x; rfl)) (o1 (GE.nil (eI .i64) 0) (o1 c80 (o1 (GE.app (e := (eI .i64)) (d := 0) ([] : List Int) ([(w64 (a1 + a0.f0))]) rfl (fun _ _ => CE.refl _) rfl) on)))))))))))))))))
            · replace h := iq c79 h
              cases h
              exact rt func213 [.call C1, .b false, .call C3, .b false, .dec 28 true, .call C52, .b false, .dec 47 false, .b false, .call C78, .b false, .fin, .nil 4 384256 3 1, orow 384256 (eI .i64) 0 ([] : List Int)] (oc C1 (o1 (bnf c2) (oc C3 (o1 (eqf c4) (o1 c50 (oT c51 (oc C52 (o1 (eqf c53) (o1 c50 (oF c68 (o1 (rfl : false = false) (oc C78 (o1 (eqf c79) (o1 (GE.nil (eI .i64) 0) on))))))))))))))
      · replace h := iq c51 h
        by_cases c81 : (a1.tmod a0.f0) < (w64 (a0.f0 - 1))
        · replace h := ip c81 h
          obtain ⟨t25, g82, h⟩ := bindN h
          let C82 := mkCon (impl_isFree.ok a0 (w64 (a1 + 1)) t25 g82) impl_isFree.go
          by_cases c83 : t25 = true
          · replace h := ip c83 h
            obtain ⟨c84, h⟩ := ifN h
            obtain ⟨t26, g85, h⟩ := bindN h
            let C85 := mkCon (impl_isFree.ok a0 (w64 (a1 + a0.f0)) t26 g85) impl_isFree.go
            by_cases c86 : t26 = true
            · replace h := ip c86 h
              obtain ⟨c87, h⟩ := ifN h
              cases h
              exact rt func213 [.call C1, .b false, .call C3, .b false, .dec 28 false, .b false, .dec 47 true, .call C82, .b true, rowe 56 (eI .i64) 0 ([(w64 (a1 + 1))]), .op 57, .nil 53 323392 3 1, orow 323392 (eI .i64) 0 ([] : List Int), .aft 57, orow 323392 (eI .i64) 0 (([] : List Int) ++ [(w64 (a1 + 1))]), .call C85, .b true, rowe 67 (eI .i64) 0 ([(w64 (a1 + a0.f0))]), .aft 68, orow 323392 (eI .i64) 0 ((([] : List Int) ++ [(w64 (a1 + 1))]) ++ [(w64 (a1 + a0.f0))]), .fin] (oc C1 (o1 (bnf c2) (oc C3 (o1 (eqf c4) (o1 c50 (oF c51 (o1 (rfl : false = false) (o1 c50 (oT c81 (oc C82 (o1 c83 (o1 (GE.lit 1 (eI .i64) 0 [(w64 (a1 + 1))] (by intro x; rfl)) (o1 (GE.nil (eI .i64) 0) (o1 c84 (o1 (GE.app (e := (eI .i64)) (d := 0) ([] : List Int) ([(w64 (a1 + 1))]) rfl (fun _ _ => CE.refl _) rfl) (oc C85 (o1 c86 (o1 (GE.lit 1 (eI .i64) 0 [(w64 (a1 + a0.f0))] (by intro x; rfl)) (o1 c87 (o1 (GE.app (e := (eI .i64)) (d := 0) (([] : List Int) ++ [(w64 (a1 + 1))]) ([(w64 (a1 + a0.f0))]) rfl (fun _ _ => CE.refl _) rfl) on))))))))))))))))))))
            · replace h := iq c86 h
              cases h
              exact rt func213 [.call C1, .b false, .call C3, .b false, .dec 28 false, .b false, .dec 47 true, .call C82, .b true, rowe 56 (eI .i64) 0 ([(w64 (a1 + 1))]), .op 57, .nil 53 323392 3 1, orow 323392 (eI .i64) 0 ([] : List Int), .aft 57, orow 323392 (eI .i64) 0 (([] : List Int) ++ [(w64 (a1 + 1))]), .call C85, .b false, .fin] (oc C1 (o1 (bnf c2) (oc C3 (o1 (eqf c4) (o1 c50 (oF c51 (o1 (rfl : false = false) (o1 c50 (oT c81 (oc C82 (o1 c83 (o1 (GE.lit 1 (eI .i64) 0 [(w64 (a1 + 1))] (by intro x; rfl)) (o1 (GE.nil (eI .i64) 0) (o1 c84 (o1 (GE.app (e := (eI .i64)) (d := 0) ([] : List Int) ([(w64 (a1 + 1))]) rfl (fun _ _ => CE.refl _) rfl) (oc C85 (o1 (eqf c86) on)))))))))))))))))
          · replace h := iq c83 h
            obtain ⟨t27, g88, h⟩ := bindN h
            let C88 := mkCon (impl_isFree.ok a0 (w64 (a1 + a0.f0)) t27 g88) impl_isFree.go
            by_cases c89 : t27 = true
            · replace h := ip c89 h
              obtain ⟨c90, h⟩ := ifN h
              cases h
              exact rt func213 [.call C1, .b false, .call C3, .b false, .dec 28 false, .b false, .dec 47 true, .call C82, .b false, .call C88, .b true, rowe 67 (eI .i64) 0 ([(w64 (a1 + a0.f0))]), .op 68, .nil 65 324160 3 1, orow 324160 (eI .i64) 0 ([] : List Int), .aft 68, orow 324160 (eI .i64) 0 (([] : List Int) ++ [(w64 (a1 + a0.f0))]), .fin] (oc C1 (o1 (bnf c2) (oc C3 (o1 (eqf c4) (o1 c50 (oF c51 (o1 (rfl : false = false) (o1 c50 (oT c81 (oc C82 (o1 (eqf c83) (oc C88 (o1 c89 (o1 (GE.lit 1 (eI .i64) 0 [(w64 (a1 + a0.f0))] (by intro x; rfl)) (o1 (GE.nil (eI .i64) 0) (o1 c90 (o1 (GE.app (e := (eI .i64)) (d := 0) ([] : List Int) ([(w64 (a1 + a0.f0))]) rfl (fun _ _ => CE.refl _) rfl) on)))))))))))))))))
            · replace h := iq c89 h
              cases h
              exact rt func213 [.call C1, .b false, .call C3, .b false, .dec 28 false, .b false, .dec 47 true, .call C82, .b false, .call C88, .b false, .fin, .nil 4 384256 3 1, orow 384256 (eI .i64) 0 ([] : List Int)] (oc C1 (o1 (bnf c2) (oc C3 (o1 (eqf c4) (o1 c50 (oF c51 (o1 (rfl : false = false) (o1 c50 (oT c81 (oc C82 (o1 (eqf c83) (oc C88 (o1 (eqf c89) (o1 (GE.nil (eI .i64) 0) on))))))))))))))
        · replace h := iq c81 h
          obtain ⟨t28, g91, h⟩ := bindN h
          let C91 := mkCon (impl_isFree.ok a0 (w64 (a1 + a0.f0)) t28 g91) impl_isFree.go
          by_cases c92 : t28 = true
          · replace h := ip c92 h
            obtain ⟨c93, h⟩ := ifN h
            cases h
            exact rt func213 [.call C1, .b false, .call C3, .b false, .dec 28 false, .b false, .dec 47 false, .b false, .call C91, .b true, rowe 67 (eI .i64) 0 ([(w64 (a1 + a0.f0))]), .op 68, .nil 65 324160 3 1, orow 324160 (eI .i64) 0 ([] : List Int), .aft 68, orow 324160 (eI .i64) 0 (([] : List Int) ++ [(w64 (a1 + a0.f0))]), .fin] (oc C1 (o1 (bnf c2) (oc C3 (o1 (eqf c4) (o1 c50 (oF c51 (o1 (rfl : false = false) (o1 c50 (oF c81 (o1 (rfl : false = false) (oc C91 (o1 c92 (o1 (GE.lit 1 (eI .i64) 0 [(w64 (a1 + a0.f0))] (by intro x; rfl)) (o1 (GE.nil (eI .i64) 0) (o1 c93 (o1 (GE.app (e := (eI .i64)) (d := 0) ([] : List Int) ([(w64 (a1 + a0.f0))]) rfl (fun _ _ => CE.refl _) rfl) on))))))))))))))))
          · replace h := iq c92 h
            cases h
            exact rt func213 [.call C1, .b false, .call C3, .b false, .dec 28 false, .b false, .dec 47 false, .b false, .call C91, .b false, .fin, .nil 4 384256 3 1, orow 384256 (eI .i64) 0 ([] : List Int)] (oc C1 (o1 (bnf c2) (oc C3 (o1 (eqf c4) (o1 c50 (oF c51 (o1 (rfl : false = false) (o1 c50 (oF c81 (o1 (rfl : false = false) (oc C91 (o1 (eqf c92) (o1 (GE.nil (eI .i64) 0) on)))))))))))))
  · replace h := iq c2 h
    cases h
    exact rt func213 [.call C1, .b true, .fin, .nil 4 384256 3 1, orow 384256 (eI .i64) 0 ([] : List Int)] (oc C1 (oN c2 (o1 (GE.nil (eI .i64) 0) on)))

/-! ### impl_Around: function 208 -/
def impl_Around.f (k : Nat) (a0 : S38) (a1 : Int) : Option (List Int) := (impl_GridOk.f k a0).bind fun t1 => if t1 = true then ((impl_around.f a0 a1).bind fun t2 => some t2) else (some ([] : List Int))
theorem impl_Around.go : Callable prog 208 := ⟨_, func208, by kernel_rfl, rfl⟩
theorem impl_Around.ok (k : Nat) (a0 : S38) (a1 : Int) (r : (List Int)) (h : impl_Around.f k a0 a1 = some r) : VCalls prog 208 [.agg (e38 a0), .c (iI a1)] [.c (.own 3 1 r.length (fun j => (eI .i64) (r.getD j 0)))] := by
  unfold impl_Around.f at h
  refine VCalls.of (fn := f208) (N := 11) func208 rfl rfl (fun w0 => ?_)
  obtain ⟨t1, g1, h⟩ := bindN h
  let C1 := mkCon (impl_GridOk.ok k a0 t1 g1) impl_GridOk.go
  by_cases c2 : t1 = true
  · replace h := ip c2 h
    obtain ⟨t2, g3, h⟩ := bindN h
    let C3 := mkCon (impl_around.ok a0 a1 t2 g3) impl_around.go
    cases h
    exact rt func208 [.call C1, .b false, .call C3, .fin] (oc C1 (o1 (bnf c2) (oc C3 on)))
  · replace h := iq c2 h
    cases h
    exact rt func208 [.call C1, .b true, .fin, .nil 4 384256 3 1, orow 384256 (eI .i64) 0 ([] : List Int)] (oc C1 (oN c2 (o1 (GE.nil (eI .i64) 0) on)))

/-! ### slices_Index_int_int: function 183 -/
def slices_Index_int_int.h0T (a0 : List Int) (a1 : Int) (v1 : Int) : List (Nat × AV) := [(0, .t (.c (.p false (R 1 (eI .i64) 0 a0)))), (1, .t (.c (.p false (iI a1)))), (7, .t (.c (.p true (.sc (.int .i64 (a0.length : Int)))))), (8, .t (.c (.p true (iI v1))))]
def slices_Index_int_int.h0H (a0 : List Int) (a1 : Int) (v1 : Int) : List (Nat × Content) := []
def slices_Index_int_int.l0 : Nat → List Int → Int → Int → Option Int
  | 0, _, _, _ => none
  | kq + 1, a0, a1, v1 => if v1 < (a0.length : Int) then (if 0 ≤ v1 then (if a1 = (rdD 0 a0 v1) then (some v1) else (slices_Index_int_int.l0 kq a0 a1 (w64 (v1 + 1)))) else none) else (some (-1))
def slices_Index_int_int.f (k : Nat) (a0 : List Int) (a1 : Int) : Option Int := slices_Index_int_int.l0 k a0 a1 0
theorem slices_Index_int_int.go : Callable prog 183 := ⟨_, func183, by kernel_rfl, rfl⟩
theorem slices_Index_int_int.ok (k : Nat) (a0 : List Int) (a1 : Int) (r : Int) (h : slices_Index_int_int.f k a0 a1 = some r) : VCalls prog 183 [.c (R 1 (eI .i64) 0 a0), .c (iI a1)] [.c (.p (iI r))] := by
  unfold slices_Index_int_int.f at h
  refine VCalls.of (fn := f183) (N := 19) func183 rfl rfl (fun w0 => ?_)
  have H0 : ∀ (kq : Nat) (v1 : Int), slices_Index_int_int.l0 kq a0 a1 v1 = some r → AG prog 183 19 [.c (.p (iI r))] w0 (headStk (codeOf f183) 0) (mkFS (slices_Index_int_int.h0T a0 a1 v1) (slices_Index_int_int.h0H a0 a1 v1)) := by
    intro kq
    induction kq with
    | zero => intro v1 h; cases h
    | succ kq ih =>
      intro v1 h
      rw [slices_Index_int_int.l0] at h
      by_cases c3 : v1 < (a0.length : Int)
      · replace h := ip c3 h
        obtain ⟨c4, h⟩ := ifN h
        by_cases c5 : a1 = (rdD 0 a0 v1)
        · replace h := ip c5 h
          cases h
          exact rt func183 [.b true, .b true, .fin] (oT c3 (o1 c4 (o1 c3 (oT c5 on))))
        · replace h := iq c5 h
          exact hd func183 [.b true, .b false, .fin] (oT c3 (o1 c4 (o1 c3 (oF c5 on)))) (ih (w64 (v1 + 1)) h)
      · replace h := iq c3 h
        cases h
        exact rt func183 [.b false, .fin, .fin] (oF c3 on)
  exact hd func183 [.fin] on (H0 k 0 h)

/-! ### slices_Contains_int_int: function 105 -/
def slices_Contains_int_int.f (k : Nat) (a0 : List Int) (a1 : Int) : Option Bool := (slices_Index_int_int.f k a0 a1).bind fun t1 => some (decide (0 ≤ t1))
theorem slices_Contains_int_int.go : Callable prog 105 := ⟨_, func105, by kernel_rfl, rfl⟩
theorem slices_Contains_int_int.ok (k : Nat) (a0 : List Int) (a1 : Int) (r : Bool) (h : slices_Contains_int_int.f k a0 a1 = some r) : VCalls prog 105 [.c (R 1 (eI .i64) 0 a0), .c (iI a1)] [.c (.p (.sc (.bool r)))] := by
  unfold slices_Contains_int_int.f at h
  refine VCalls.of (fn := f105) (N := 9) func105 rfl rfl (fun w0 => ?_)
  obtain ⟨t1, g1, h⟩ := bindN h
  let C1 := mkCon (slices_Index_int_int.ok k a0 a1 t1 g1) slices_Index_int_int.go
  cases h
  exact rt func105 [.call C1, .fin] (oc C1 on)

/-! ### impl_Beside: function 160 -/
def impl_Beside.f (k : Nat) (a0 : S38) (a1 : Int) (a2 : Int) : Option Bool := (impl_Around.f k a0 a1).bind fun t1 => (slices_Contains_int_int.f k t1 a2).bind fun t2 => some t2
theorem impl_Beside.go : Callable prog 160 := ⟨_, func160, by kernel_rfl, rfl⟩
theorem impl_Beside.ok (k : Nat) (a0 : S38) (a1 : Int) (a2 : Int) (r : Bool) (h : impl_Beside.f k a0 a1 a2 = some r) : VCalls prog 160 [.agg (e38 a0), .c (iI a1), .c (iI a2)] [.c (.p (.sc (.bool r)))] := by
  unfold impl_Beside.f at h
  refine VCalls.of (fn := f160) (N := 12) func160 rfl rfl (fun w0 => ?_)
  obtain ⟨t1, g1, h⟩ := bindN h
  let C1 := mkCon (impl_Around.ok k a0 a1 t1 g1) impl_Around.go
  obtain ⟨t2, g2, h⟩ := bindN h
  let C2 := mkCon (slices_Contains_int_int.ok k t1 a2 t2 g2) slices_Contains_int_int.go
  cases h
  exact rt func160 [.call C1, .call C2, .fin] (oc C1 (oc C2 on))

/-! ### impl_heldBy: function 103 -/
def impl_heldBy.f (a0 : S69) : Option (List Int) := if a0.f2 < 0 then (some ([a0.f1])) else (some ([a0.f1, a0.f2]))
theorem impl_heldBy.go : Callable prog 103 := ⟨_, func103, by kernel_rfl, rfl⟩
theorem impl_heldBy.ok (a0 : S69) (r : (List Int)) (h : impl_heldBy.f a0 = some r) : VCalls prog 103 [.agg (e69 a0)] [.c (.own 3 1 r.length (fun j => (eI .i64) (r.getD j 0)))] := by
  unfold impl_heldBy.f at h
  refine VCalls.of (fn := f103) (N := 14) func103 rfl rfl (fun w0 => ?_)
  by_cases c1 : a0.f2 < 0
  · replace h := ip c1 h
    cases h
    exact rt func103 [.b true, rowe 8 (eI .i64) 0 ([a0.f1]), .fin] (oT c1 (o1 (GE.lit 1 (eI .i64) 0 [a0.f1] (by intro x; rfl)) on))
  · replace h := iq c1 h
    cases h
    exact rt func103 [.b false, rowe 13 (eI .i64) 0 ([a0.f1, a0.f2]), .fin] (oF c1 (o1 (GE.lit 1 (eI .i64) 0 [a0.f1, a0.f2] (by intro x; rfl)) on))

/-! ### impl_areApart: function 161 -/
def impl_areApart.h1T (a0 : List S69) (v48 : Int) (t49 : List Int) (v61 : Int) (v59 : Nat) (v60 : List Int) : List (Nat × AV) := [(3, .t (.c (.h 512))), (5, .ptr 320 0), (9, .t (.c (.p false (R 4 e69 z69 a0)))), (10, .t (.c (.p true (.sc (.int .i64 (a0.length : Int)))))), (11, .t (.c (.p true (iI v48)))), (16, .t (.c (.h 1024))), (17, .t (.c (.p true (.sc (.int .i64 (t49.length : Int)))))), (18, .t (.c (.p true (iI v61))))]
noncomputable def impl_areApart.h1H (a0 : List S69) (v48 : Int) (t49 : List Int) (v61 : Int) (v59 : Nat) (v60 : List Int) : List (Nat × Content) := [(320, .box 69 [.p false (.sc (.int .i64 ((rdD z69 a0 v48).f0))), .p false (.sc (.int .i64 ((rdD z69 a0 v48).f1))), .p false (.sc (.int .i64 ((rdD z69 a0 v48).f2))), .p false (.sc (.bool ((rdD z69 a0 v48).f3)))]), (512, .set prog 3 4 v59 v60), (1024, .row 3 1 t49.length (fun j => (eI .i64) (t49.getD j 0)) true)]
def impl_areApart.x1T (a0 : List S69) (v48 : Int) (y62 : Nat × (List Int)) : List (Nat × AV) := [(3, .t (.c (.h 512))), (9, .t (.c (.p false (R 4 e69 z69 a0)))), (10, .t (.c (.p true (.sc (.int .i64 (a0.length : Int)))))), (11, .t (.c (.p true (iI v48))))]
noncomputable def impl_areApart.x1H (a0 : List S69) (v48 : Int) (y62 : Nat × (List Int)) : List (Nat × Content) := [(512, .set prog 3 4 y62.1 y62.2)]
def impl_areApart.l1 : Nat → List Int → List S69 → Int → Nat → List Int → Int → Option (Bool ⊕ (Nat × (List Int)))
  | 0, _, _, _, _, _, _ => none
  | kq + 1, t49, a0, v48, v59, v60, v61 => if v61 < (t49.length : Int) then (if 0 ≤ v61 then (if v61 = 1 then (if (rdD 0 t49 v61) = (rdD z69 a0 v48).f1 then (impl_areApart.l1 kq t49 a0 v48 v59 v60 (w64 (v61 + 1))) else (if (Lit.int .i64 (rdD 0 t49 v61)).wf = true then (if (List.contains v60 (rdD 0 t49 v61)) = true then (some (.inl false)) else (if v59 < maxLen then (impl_areApart.l1 kq t49 a0 v48 (v59 + 1) ((rdD 0 t49 v61) :: v60) (w64 (v61 + 1))) else none)) else none)) else (if (Lit.int .i64 (rdD 0 t49 v61)).wf = true then (if (List.contains v60 (rdD 0 t49 v61)) = true then (some (.inl false)) else (if v59 < maxLen then (impl_areApart.l1 kq t49 a0 v48 (v59 + 1) ((rdD 0 t49 v61) :: v60) (w64 (v61 + 1))) else none)) else none)) else none) else (some (.inr (v59, v60)))
def impl_areApart.h0T (a0 : List S69) (v48 : Int) (v46 : Nat) (v47 : List Int) : List (Nat × AV) := [(3, .t (.c (.h 512))), (9, .t (.c (.p false (R 4 e69 z69 a0)))), (10, .t (.c (.p true (.sc (.int .i64 (a0.length : Int)))))), (11, .t (.c (.p true (iI v48))))]
noncomputable def impl_areApart.h0H (a0 : List S69) (v48 : Int) (v46 : Nat) (v47 : List Int) : List (Nat × Content) := [(512, .set prog 3 4 v46 v47)]
def impl_areApart.l0 : Nat → List S69 → Nat → List Int → Int → Option Bool
  | 0, _, _, _, _ => none
  | kq + 1, a0, v46, v47, v48 => if v48 < (a0.length : Int) then (if 0 ≤ v48 then ((impl_heldBy.f (rdD z69 a0 v48)).bind fun t49 => (impl_areApart.l1 kq t49 a0 v48 v46 v47 0).bind fun x200 => match x200 with | .inl r => some r | .inr y62 => (impl_areApart.l0 kq a0 y62.1 y62.2 (w64 (v48 + 1)))) else none) else (some true)
def impl_areApart.f (k : Nat) (a0 : List S69) : Option Bool := impl_areApart.l0 k a0 0 ([] : List Int) 0
theorem impl_areApart.go : Callable prog 161 := ⟨_, func161, by kernel_rfl, rfl⟩
theorem impl_areApart.ok (k : Nat) (a0 : List S69) (r : Bool) (h : impl_areApart.f k a0 = some r) : VCalls prog 161 [.c (R 4 e69 z69 a0)] [.c (.p (.sc (.bool r)))] := by
  unfold impl_areApart.f at h
  refine VCalls.of (fn := f161) (N := 38) func161 rfl rfl (fun w0 => ?_)
  have H0 : ∀ (kq : Nat) (v46 : Nat) (v47 : List Int) (v48 : Int), impl_areApart.l0 kq a0 v46 v47 v48 = some r → AG prog 161 38 [.c (.p (.sc (.bool r)))] w0 (headStk (codeOf f161) 0) (mkFS (impl_areApart.h0T a0 v48 v46 v47) (impl_areApart.h0H a0 v48 v46 v47)) := by
    intro kq
    induction kq with
    | zero => intro v46 v47 v48 h; cases h
    | succ kq ih =>
      intro v46 v47 v48 h
      rw [impl_areApart.l0] at h
      by_cases c150 : v48 < (a0.length : Int)
      · replace h := ip c150 h
        obtain ⟨c151, h⟩ := ifN h
        obtain ⟨t49, g152, h⟩ := bindN h
        let C152 := mkCon (impl_heldBy.ok (rdD z69 a0 v48) t49 g152) impl_heldBy.go
        have H1 : ∀ (kq : Nat) (v59 : Nat) (v60 : List Int) (v61 : Int) (x : (Bool ⊕ (Nat × (List Int)))), impl_areApart.l1 kq t49 a0 v48 v59 v60 v61 = some x → (match x with | .inl r' => r' = r | .inr y62 => AG prog 161 38 [.c (.p (.sc (.bool r)))] w0 (exitStk (codeOf f161) 1) (mkFS (impl_areApart.x1T a0 v48 y62) (impl_areApart.x1H a0 v48 y62))) → AG prog 161 38 [.c (.p (.sc (.bool r)))] w0 (headStk (codeOf f161) 1) (mkFS (impl_areApart.h1T a0 v48 t49 v61 v59 v60) (impl_areApart.h1H a0 v48 t49 v61 v59 v60)) := by
          intro kq
          induction kq with
          | zero => intro v59 v60 v61 x h hx; cases h
          | succ kq ih =>
            intro v59 v60 v61 x h hx
            rw [impl_areApart.l1] at h
            by_cases c190 : v61 < (t49.length : Int)
            · replace h := ip c190 h
              obtain ⟨c191, h⟩ := ifN h
              by_cases c192 : v61 = 1
              · replace h := ip c192 h
                by_cases c193 : (rdD 0 t49 v61) = (rdD z69 a0 v48).f1
                · replace h := ip c193 h
                  exact hd func161 [.b true, .dec 25 true, .b true, .fin, .fin] (oT c190 (o1 c191 (o1 c190 (oT c192 (oT c193 on))))) (ih v59 v60 (w64 (v61 + 1)) _ h hx)
                · replace h := iq c193 h
                  obtain ⟨c194, h⟩ := ifN h
                  by_cases c195 : (List.contains v60 (rdD 0 t49 v61)) = true
                  · replace h := ip c195 h
                    cases h
                    subst hx
                    exact rt func161 [.b true, .dec 25 true, .b false, .b true, .fin] (oT c190 (o1 c191 (o1 c190 (oT c192 (oF c193 (o1 (rfl : prog = prog) (o1 c194 (o1 c195 on))))))))
                  · replace h := iq c195 h
                    obtain ⟨c196, h⟩ := ifN h
                    exact hd func161 [.b true, .dec 25 true, .b false, .b false, .fin] (oT c190 (o1 c191 (o1 c190 (oT c192 (oF c193 (o1 (rfl : prog = prog) (o1 c194 (o1 (eqf c195) (o1 (rfl : prog = prog) (o1 c196 (o1 c194 on))))))))))) (ih (v59 + 1) ((rdD 0 t49 v61) :: v60) (w64 (v61 + 1)) _ h hx)
              · replace h := iq c192 h
                obtain ⟨c197, h⟩ := ifN h
                by_cases c198 : (List.contains v60 (rdD 0 t49 v61)) = true
                · replace h := ip c198 h
                  cases h
                  subst hx
                  exact rt func161 [.b true, .dec 25 false, .b false, .b true, .fin] (oT c190 (o1 c191 (o1 c190 (oF c192 (o1 (rfl : false = false) (o1 (rfl : prog = prog) (o1 c197 (o1 c198 on))))))))
                · replace h := iq c198 h
                  obtain ⟨c199, h⟩ := ifN h
                  exact hd func161 [.b true, .dec 25 false, .b false, .b false, .fin] (oT c190 (o1 c191 (o1 c190 (oF c192 (o1 (rfl : false = false) (o1 (rfl : prog = prog) (o1 c197 (o1 (eqf c198) (o1 (rfl : prog = prog) (o1 c199 (o1 c197 on))))))))))) (ih (v59 + 1) ((rdD 0 t49 v61) :: v60) (w64 (v61 + 1)) _ h hx)
            · replace h := iq c190 h
              cases h
              exact st func161 [.b false, .fin] (oF c190 on) hx
        obtain ⟨x200, g200, h⟩ := bindN h
        cases x200 with
        | inl r' =>
          exact hd func161 [.b true, .call C152, .fin] (oT c150 (o1 c151 (o1 c150 (oc C152 on)))) (H1 kq v46 v47 0 _ g200 (Option.some.inj h))
        | inr y62 =>
          refine hd func161 [.b true, .call C152, .fin] (oT c150 (o1 c151 (o1 c150 (oc C152 on)))) (H1 kq v46 v47 0 _ g200 ?_)
          show AG prog 161 38 [.c (.p (.sc (.bool r)))] w0 (exitStk (codeOf f161) 1) (mkFS (impl_areApart.x1T a0 v48 y62) (impl_areApart.x1H a0 v48 y62))
          exact hd func161 [.fin] on (ih y62.1 y62.2 (w64 (v48 + 1)) h)
      · replace h := iq c150 h
        cases h
        exact rt func161 [.b false, .fin, .fin] (oF c150 on)
  exact hd func161 [.fin] on (H0 k 0 ([] : List Int) 0 h)

/-! ### impl_RobotsOk: function 91 -/
def impl_RobotsOk.h0T (a1 : List S69) (v3 : Int) (a0 : S38) : List (Nat × AV) := [(1, .t (.c (.p false (R 4 e69 z69 a1)))), (2, .ptr 128 0), (15, .t (.c (.p false (R 4 e69 z69 a1)))), (16, .t (.c (.p true (.sc (.int .i64 (a1.length : Int)))))), (17, .t (.c (.p true (iI v3))))]
def impl_RobotsOk.h0H (a1 : List S69) (v3 : Int) (a0 : S38) : List (Nat × Content) := [(128, .box 38 [.p false (iI a0.f0), .p false (iI a0.f1), .p false (.sc (.string a0.f2))])]
def impl_RobotsOk.l0 : Nat → List S69 → S38 → Int → Option Bool
  | 0, _, _, _ => none
  | kq + 1, a1, a0, v3 => if v3 < (a1.length : Int) then (if 0 ≤ v3 then (if (rdD z69 a1 v3).f0 < 0 then (some false) else (if 99 < (rdD z69 a1 v3).f0 then (some false) else (if 0 < v3 then (if 0 ≤ (w64 (v3 - 1)) then (if (w64 (v3 - 1)) < (a1.length : Int) then (if (rdD z69 a1 v3).f0 ≤ (rdD z69 a1 (w64 (v3 - 1))).f0 then (some false) else ((impl_isFree.f a0 ((rdD z69 a1 v3).f1)).bind fun t4 => if t4 = true then (if (rdD z69 a1 v3).f2 = (-1) then (impl_RobotsOk.l0 kq a1 a0 (w64 (v3 + 1))) else ((impl_Beside.f kq a0 ((rdD z69 a1 v3).f1) ((rdD z69 a1 v3).f2)).bind fun t5 => if t5 = true then (impl_RobotsOk.l0 kq a1 a0 (w64 (v3 + 1))) else (some false))) else (some false))) else none) else none) else ((impl_isFree.f a0 ((rdD z69 a1 v3).f1)).bind fun t6 => if t6 = true then (if (rdD z69 a1 v3).f2 = (-1) then (impl_RobotsOk.l0 kq a1 a0 (w64 (v3 + 1))) else ((impl_Beside.f kq a0 ((rdD z69 a1 v3).f1) ((rdD z69 a1 v3).f2)).bind fun t7 => if t7 = true then (impl_RobotsOk.l0 kq a1 a0 (w64 (v3 + 1))) else (some false))) else (some false))))) else none) else ((impl_areApart.f kq a1).bind fun t8 => some t8)
def impl_RobotsOk.f (k : Nat) (a0 : S38) (a1 : List S69) : Option Bool := (impl_GridOk.f k a0).bind fun t1 => if t1 = true then (if 10 < (a1.length : Int) then (some false) else (impl_RobotsOk.l0 k a1 a0 0)) else (some false)
theorem impl_RobotsOk.go : Callable prog 91 := ⟨_, func91, by kernel_rfl, rfl⟩
theorem impl_RobotsOk.ok (k : Nat) (a0 : S38) (a1 : List S69) (r : Bool) (h : impl_RobotsOk.f k a0 a1 = some r) : VCalls prog 91 [.agg (e38 a0), .c (R 4 e69 z69 a1)] [.c (.p (.sc (.bool r)))] := by
  unfold impl_RobotsOk.f at h
  refine VCalls.of (fn := f91) (N := 69) func91 rfl rfl (fun w0 => ?_)
  obtain ⟨t1, g1, h⟩ := bindN h
  let C1 := mkCon (impl_GridOk.ok k a0 t1 g1) impl_GridOk.go
  by_cases c2 : t1 = true
  · replace h := ip c2 h
    by_cases c3 : 10 < (a1.length : Int)
    · replace h := ip c3 h
      cases h
      exact rt func91 [.call C1, .dec 10 false, .b true, .fin] (oc C1 (o1 (bnf c2) (oT c3 on)))
    · replace h := iq c3 h
      have H0 : ∀ (kq : Nat) (v3 : Int), impl_RobotsOk.l0 kq a1 a0 v3 = some r → AG prog 91 69 [.c (.p (.sc (.bool r)))] w0 (headStk (codeOf f91) 0) (mkFS (impl_RobotsOk.h0T a1 v3 a0) (impl_RobotsOk.h0H a1 v3 a0)) := by
        intro kq
        induction kq with
        | zero => intro v3 h; cases h
        | succ kq ih =>
          intro v3 h
          rw [impl_RobotsOk.l0] at h
          by_cases c14 : v3 < (a1.length : Int)
          · replace h := ip c14 h
            obtain ⟨c15, h⟩ := ifN h
            by_cases c16 : (rdD z69 a1 v3).f0 < 0
            · replace h := ip c16 h
              cases h
              exact rt func91 [.b true, .dec 25 true, .b true, .fin] (oT c14 (o1 c15 (o1 c14 (oT c16 (oR on)))))
            · replace h := iq c16 h
              by_cases c17 : 99 < (rdD z69 a1 v3).f0
              · replace h := ip c17 h
                cases h
                exact rt func91 [.b true, .dec 25 false, .dec 30 true, .b true, .fin] (oT c14 (o1 c15 (o1 c14 (oF c16 (oT c17 (oR on))))))
              · replace h := iq c17 h
                by_cases c18 : 0 < v3
                · replace h := ip c18 h
                  obtain ⟨c19, h⟩ := ifN h
                  obtain ⟨c20, h⟩ := ifN h
                  by_cases c21 : (rdD z69 a1 v3).f0 ≤ (rdD z69 a1 (w64 (v3 - 1))).f0
                  · replace h := ip c21 h
                    cases h
                    exact rt func91 [.b true, .dec 25 false, .dec 30 false, .dec 33 true, .dec 45 true, .b true, .fin] (oT c14 (o1 c15 (o1 c14 (oF c16 (oF c17 (oT c18 (o1 c19 (o1 c20 (oT c21 (oR on))))))))))
                  · replace h := iq c21 h
                    obtain ⟨t4, g22, h⟩ := bindN h
                    let C22 := mkCon (impl_isFree.ok a0 ((rdD z69 a1 v3).f1) t4 g22) impl_isFree.go
                    by_cases c23 : t4 = true
                    · replace h := ip c23 h
                      by_cases c24 : (rdD z69 a1 v3).f2 = (-1)
                      · replace h := ip c24 h
                        exact hd func91 [.b true, .dec 25 false, .dec 30 false, .dec 33 true, .dec 45 false, .call C22, .dec 52 false, .dec 56 false, .b false, .fin] (oT c14 (o1 c15 (o1 c14 (oF c16 (oF c17 (oT c18 (o1 c19 (o1 c20 (oF c21 (oc C22 (o1 (bnf c23) (o1 (bnf (decide_eq_true c24)) (o1 (rfl : false = false) on))))))))))))) (ih (w64 (v3 + 1)) h)
                      · replace h := iq c24 h
                        obtain ⟨t5, g25, h⟩ := bindN h
                        let C25 := mkCon (impl_Beside.ok kq a0 ((rdD z69 a1 v3).f1) ((rdD z69 a1 v3).f2) t5 g25) impl_Beside.go
                        by_cases c26 : t5 = true
                        · replace h := ip c26 h
                          exact hd func91 [.b true, .dec 25 false, .dec 30 false, .dec 33 true, .dec 45 false, .call C22, .dec 52 false, .dec 56 true, .call C25, .b false, .fin] (oT c14 (o1 c15 (o1 c14 (oF c16 (oF c17 (oT c18 (o1 c19 (o1 c20 (oF c21 (oc C22 (o1 (bnf c23) (o1 (bnt (decide_eq_false c24)) (oc C25 (o1 (bnf c26) on)))))))))))))) (ih (w64 (v3 + 1)) h)
                        · replace h := iq c26 h
                          cases h
                          exact rt func91 [.b true, .dec 25 false, .dec 30 false, .dec 33 true, .dec 45 false, .call C22, .dec 52 false, .dec 56 true, .call C25, .b true, .fin] (oT c14 (o1 c15 (o1 c14 (oF c16 (oF c17 (oT c18 (o1 c19 (o1 c20 (oF c21 (oc C22 (o1 (bnf c23) (o1 (bnt (decide_eq_false c24)) (oc C25 (oN c26 on))))))))))))))
                    · replace h := iq c23 h
                      cases h
                      exact rt func91 [.b true, .dec 25 false, .dec 30 false, .dec 33 true, .dec 45 false, .call C22, .dec 52 true, .b true, .fin] (oT c14 (o1 c15 (o1 c14 (oF c16 (oF c17 (oT c18 (o1 c19 (o1 c20 (oF c21 (oc C22 (oN c23 (oR on))))))))))))
                · replace h := iq c18 h
                  obtain ⟨t6, g27, h⟩ := bindN h
                  let C27 := mkCon (impl_isFree.ok a0 ((rdD z69 a1 v3).f1) t6 g27) impl_isFree.go
                  by_cases c28 : t6 = true
                  · replace h := ip c28 h
                    by_cases c29 : (rdD z69 a1 v3).f2 = (-1)
                    · replace h := ip c29 h
                      exact hd func91 [.b true, .dec 25 false, .dec 30 false, .dec 33 false, .call C27, .dec 52 false, .dec 56 false, .b false, .fin] (oT c14 (o1 c15 (o1 c14 (oF c16 (oF c17 (oF c18 (oc C27 (o1 (bnf c28) (o1 (bnf (decide_eq_true c29)) (o1 (rfl : false = false) on)))))))))) (ih (w64 (v3 + 1)) h)
                    · replace h := iq c29 h
                      obtain ⟨t7, g30, h⟩ := bindN h
                      let C30 := mkCon (impl_Beside.ok kq a0 ((rdD z69 a1 v3).f1) ((rdD z69 a1 v3).f2) t7 g30) impl_Beside.go
                      by_cases c31 : t7 = true
                      · replace h := ip c31 h
                        exact hd func91 [.b true, .dec 25 false, .dec 30 false, .dec 33 false, .call C27, .dec 52 false, .dec 56 true, .call C30, .b false, .fin] (oT c14 (o1 c15 (o1 c14 (oF c16 (oF c17 (oF c18 (oc C27 (o1 (bnf c28) (o1 (bnt (decide_eq_false c29)) (oc C30 (o1 (bnf c31) on))))))))))) (ih (w64 (v3 + 1)) h)
                      · replace h := iq c31 h
                        cases h
                        exact rt func91 [.b true, .dec 25 false, .dec 30 false, .dec 33 false, .call C27, .dec 52 false, .dec 56 true, .call C30, .b true, .fin] (oT c14 (o1 c15 (o1 c14 (oF c16 (oF c17 (oF c18 (oc C27 (o1 (bnf c28) (o1 (bnt (decide_eq_false c29)) (oc C30 (oN c31 on)))))))))))
                  · replace h := iq c28 h
                    cases h
                    exact rt func91 [.b true, .dec 25 false, .dec 30 false, .dec 33 false, .call C27, .dec 52 true, .b true, .fin] (oT c14 (o1 c15 (o1 c14 (oF c16 (oF c17 (oF c18 (oc C27 (oN c28 (oR on)))))))))
          · replace h := iq c14 h
            obtain ⟨t8, g32, h⟩ := bindN h
            let C32 := mkCon (impl_areApart.ok kq a1 t8 g32) impl_areApart.go
            cases h
            exact rt func91 [.b false, .fin, .call C32, .fin] (oF c14 (oc C32 on))
      exact hd func91 [.call C1, .dec 10 false, .b false, .fin] (oc C1 (o1 (bnf c2) (oF c3 on))) (H0 k 0 h)
  · replace h := iq c2 h
    cases h
    exact rt func91 [.call C1, .dec 10 true, .b true, .fin] (oc C1 (oN c2 (oR on)))

/-! ### impl_WindowOk_1: function 162 -/
def impl_WindowOk_1.f (a0 : Int) (a1 : S42) : Option Bool := if a0 < 0 then (some true) else (some (decide (a1.f1 < a0)))
theorem impl_WindowOk_1.go : Callable prog 162 := ⟨_, func162, by kernel_rfl, rfl⟩
theorem impl_WindowOk_1.ok (a0 : Int) (a1 : S42) (r : Bool) (h : impl_WindowOk_1.f a0 a1 = some r) : VCalls prog 162 [.c (iI a0), .ptr [.sc (.int .i64 a1.f0), .sc (.int .i64 a1.f1), R 1 (eI .i64) 0 a1.f2]] [.c (.p (.sc (.bool r)))] := by
  unfold impl_WindowOk_1.f at h
  refine VCalls.of (fn := f162) (N := 12) func162 rfl rfl (fun w0 => ?_)
  by_cases c1 : a0 < 0
  · replace h := ip c1 h
    cases h
    exact rt func162 [.dec 6 true, .fin] (oT c1 on)
  · replace h := iq c1 h
    cases h
    exact rt func162 [.dec 6 false, .fin] (oF c1 on)

/-! ### slices_IndexFunc_int_int_3: function 182 -/
def slices_IndexFunc_int_int_3.h0T (a0 : List Int) (gi1 : FuncId) (u1_0_0 : V) (u1_0_1 : V) (u1_0_2 : V) (v2 : Int) : List (Nat × AV) := [(0, .t (.c (.p false (R 1 (eI .i64) 0 a0)))), (1, .bfn gi1 [[u1_0_0, u1_0_1, u1_0_2]]), (7, .t (.c (.p true (.sc (.int .i64 (a0.length : Int)))))), (8, .t (.c (.p true (iI v2))))]
def slices_IndexFunc_int_int_3.h0H (a0 : List Int) (gi1 : FuncId) (u1_0_0 : V) (u1_0_1 : V) (u1_0_2 : V) (v2 : Int) : List (Nat × Content) := []
def slices_IndexFunc_int_int_3.l0 : Nat → List Int → (Int → Option Bool) → Int → Option Int
  | 0, _, _, _ => none
  | kq + 1, a0, p1, v2 => if v2 < (a0.length : Int) then (if 0 ≤ v2 then ((p1 (rdD 0 a0 v2)).bind fun t3 => if t3 = true then (some v2) else (slices_IndexFunc_int_int_3.l0 kq a0 p1 (w64 (v2 + 1)))) else none) else (some (-1))
def slices_IndexFunc_int_int_3.f (k : Nat) (a0 : List Int) (p1 : Int → Option Bool) : Option Int := slices_IndexFunc_int_int_3.l0 k a0 p1 0
theorem slices_IndexFunc_int_int_3.go : Callable prog 182 := ⟨_, func182, by kernel_rfl, rfl⟩
theorem slices_IndexFunc_int_int_3.ok (k : Nat) (a0 : List Int) (p1 : Int → Option Bool) (gi1 : FuncId) (u1_0_0 u1_0_1 u1_0_2 : V) (hp1 : ∀ x0 r, p1 x0 = some r → VCalls prog gi1 [.c (iI x0), .ptr [u1_0_0, u1_0_1, u1_0_2]] [.c (.p (.sc (.bool r)))]) (go1 : Callable prog gi1) (r : Int) (h : slices_IndexFunc_int_int_3.f k a0 p1 = some r) : VCalls prog 182 [.c (R 1 (eI .i64) 0 a0), .fn gi1 [[u1_0_0, u1_0_1, u1_0_2]]] [.c (.p (iI r))] := by
  unfold slices_IndexFunc_int_int_3.f at h
  refine VCalls.of (fn := f182) (N := 19) func182 rfl rfl (fun w0 => ?_)
  have H0 : ∀ (kq : Nat) (v2 : Int), slices_IndexFunc_int_int_3.l0 kq a0 p1 v2 = some r → AG prog 182 19 [.c (.p (iI r))] w0 (headStk (codeOf f182) 0) (mkFS (slices_IndexFunc_int_int_3.h0T a0 gi1 u1_0_0 u1_0_1 u1_0_2 v2) (slices_IndexFunc_int_int_3.h0H a0 gi1 u1_0_0 u1_0_1 u1_0_2 v2)) := by
    intro kq
    induction kq with
    | zero => intro v2 h; cases h
    | succ kq ih =>
      intro v2 h
      rw [slices_IndexFunc_int_int_3.l0] at h
      by_cases c4 : v2 < (a0.length : Int)
      · replace h := ip c4 h
        obtain ⟨c5, h⟩ := ifN h
        obtain ⟨t3, g6, h⟩ := bindN h
        let C6 := mkCon (hp1 (rdD 0 a0 v2) t3 g6) go1
        by_cases c7 : t3 = true
        · replace h := ip c7 h
          cases h
          exact rt func182 [.b true, .call C6, .b true, .fin] (oT c4 (o1 c5 (o1 c4 (oc C6 (o1 c7 on)))))
        · replace h := iq c7 h
          exact hd func182 [.b true, .call C6, .b false, .fin] (oT c4 (o1 c5 (o1 c4 (oc C6 (o1 (eqf c7) on))))) (ih (w64 (v2 + 1)) h)
      · replace h := iq c4 h
        cases h
        exact rt func182 [.b false, .fin, .fin] (oF c4 on)
  exact hd func182 [.fin] on (H0 k 0 h)

/-! ### slices_ContainsFunc_int_int_3: function 102 -/
def slices_ContainsFunc_int_int_3.f (k : Nat) (a0 : List Int) (p1 : Int → Option Bool) : Option Bool := (slices_IndexFunc_int_int_3.f k a0 p1).bind fun t1 => some (decide (0 ≤ t1))
theorem slices_ContainsFunc_int_int_3.go : Callable prog 102 := ⟨_, func102, by kernel_rfl, rfl⟩
theorem slices_ContainsFunc_int_int_3.ok (k : Nat) (a0 : List Int) (p1 : Int → Option Bool) (gi1 : FuncId) (u1_0_0 u1_0_1 u1_0_2 : V) (hp1 : ∀ x0 r, p1 x0 = some r → VCalls prog gi1 [.c (iI x0), .ptr [u1_0_0, u1_0_1, u1_0_2]] [.c (.p (.sc (.bool r)))]) (go1 : Callable prog gi1) (r : Bool) (h : slices_ContainsFunc_int_int_3.f k a0 p1 = some r) : VCalls prog 102 [.c (R 1 (eI .i64) 0 a0), .fn gi1 [[u1_0_0, u1_0_1, u1_0_2]]] [.c (.p (.sc (.bool r)))] := by
  unfold slices_ContainsFunc_int_int_3.f at h
  refine VCalls.of (fn := f102) (N := 9) func102 rfl rfl (fun w0 => ?_)
  obtain ⟨t1, g1, h⟩ := bindN h
  let C1 := mkCon (slices_IndexFunc_int_int_3.ok k a0 p1 gi1 u1_0_0 u1_0_1 u1_0_2 hp1 go1 t1 g1) slices_IndexFunc_int_int_3.go
  cases h
  exact rt func102 [.call C1, .fin] (oc C1 on)

/-! ### impl_WindowOk: function 92 -/
def impl_WindowOk.f (k : Nat) (a0 : S42) : Option Bool := if a0.f0 < 1 then (some false) else (if 8 < a0.f0 then (some false) else (if a0.f1 < 1 then (some false) else (if 100 < a0.f1 then (some false) else (if (a0.f2.length : Int) = (w64 (a0.f0 * 6)) then ((slices_ContainsFunc_int_int_3.f k a0.f2 (fun x6 => impl_WindowOk_1.f x6 a0)).bind fun t1 => some (!t1)) else (some false)))))
theorem impl_WindowOk.go : Callable prog 92 := ⟨_, func92, by kernel_rfl, rfl⟩
theorem impl_WindowOk.ok (k : Nat) (a0 : S42) (r : Bool) (h : impl_WindowOk.f k a0 = some r) : VCalls prog 92 [.agg (e42 a0)] [.c (.p (.sc (.bool r)))] := by
  unfold impl_WindowOk.f at h
  refine VCalls.of (fn := f92) (N := 35) func92 rfl rfl (fun w0 => ?_)
  by_cases c1 : a0.f0 < 1
  · replace h := ip c1 h
    cases h
    exact rt func92 [.dec 6 true, .b true, .fin] (oT c1 (oR on))
  · replace h := iq c1 h
    by_cases c2 : 8 < a0.f0
    · replace h := ip c2 h
      cases h
      exact rt func92 [.dec 6 false, .dec 11 true, .b true, .fin] (oF c1 (oT c2 (oR on)))
    · replace h := iq c2 h
      by_cases c3 : a0.f1 < 1
      · replace h := ip c3 h
        cases h
        exact rt func92 [.dec 6 false, .dec 11 false, .dec 16 true, .b true, .fin] (oF c1 (oF c2 (oT c3 (oR on))))
      · replace h := iq c3 h
        by_cases c4 : 100 < a0.f1
        · replace h := ip c4 h
          cases h
          exact rt func92 [.dec 6 false, .dec 11 false, .dec 16 false, .dec 21 true, .b true, .fin] (oF c1 (oF c2 (oF c3 (oT c4 (oR on)))))
        · replace h := iq c4 h
          by_cases c5 : (a0.f2.length : Int) = (w64 (a0.f0 * 6))
          · replace h := ip c5 h
            obtain ⟨t1, g7, h⟩ := bindN h
            let C7 := mkCon (slices_ContainsFunc_int_int_3.ok k a0.f2 (fun x6 => impl_WindowOk_1.f x6 a0) 162 (iI a0.f0) (iI a0.f1) (R 1 (eI .i64) 0 a0.f2) (fun x6 r h => impl_WindowOk_1.ok x6 a0 r h) impl_WindowOk_1.go t1 g7) slices_ContainsFunc_int_int_3.go
            cases h
            exact rt func92 [.dec 6 false, .dec 11 false, .dec 16 false, .dec 21 false, .b false, .call C7, .fin] (oF c1 (oF c2 (oF c3 (oF c4 (o1 (bnf (decide_eq_true c5)) (oc C7 on))))))
          · replace h := iq c5 h
            cases h
            exact rt func92 [.dec 6 false, .dec 11 false, .dec 16 false, .dec 21 false, .b true, .fin] (oF c1 (oF c2 (oF c3 (oF c4 (o1 (bnt (decide_eq_false c5)) on)))))

/-! ### impl_jobsOk_1: function 210 -/
def impl_jobsOk_1.f (a0 : S72) (a1 : S45) : Option Bool := some (!decide ((a0.f0.length : Int) = (w64 (a1.f0 + 1))))
theorem impl_jobsOk_1.go : Callable prog 210 := ⟨_, func210, by kernel_rfl, rfl⟩
theorem impl_jobsOk_1.ok (a0 : S72) (a1 : S45) (r : Bool) (h : impl_jobsOk_1.f a0 a1 = some r) : VCalls prog 210 [.agg (e72 a0), .ptr [.sc (.int .i64 a1.f0), .sc (.int .i64 a1.f1), R 1 e72 z72 a1.f2]] [.c (.p (.sc (.bool r)))] := by
  unfold impl_jobsOk_1.f at h
  refine VCalls.of (fn := f210) (N := 11) func210 rfl rfl (fun w0 => ?_)
  cases h
  exact rt func210 [.fin] on

/-! ### slices_IndexFunc_impl_Way_impl_Way_3: function 236 -/
def slices_IndexFunc_impl_Way_impl_Way_3.h0T (a0 : List S72) (gi1 : FuncId) (u1_0_0 : V) (u1_0_1 : V) (u1_0_2 : V) (v2 : Int) : List (Nat × AV) := [(0, .t (.c (.p false (R 1 e72 z72 a0)))), (1, .bfn gi1 [[u1_0_0, u1_0_1, u1_0_2]]), (7, .t (.c (.p true (.sc (.int .i64 (a0.length : Int)))))), (8, .t (.c (.p true (iI v2))))]
def slices_IndexFunc_impl_Way_impl_Way_3.h0H (a0 : List S72) (gi1 : FuncId) (u1_0_0 : V) (u1_0_1 : V) (u1_0_2 : V) (v2 : Int) : List (Nat × Content) := []
def slices_IndexFunc_impl_Way_impl_Way_3.l0 : Nat → List S72 → (S72 → Option Bool) → Int → Option Int
  | 0, _, _, _ => none
  | kq + 1, a0, p1, v2 => if v2 < (a0.length : Int) then (if 0 ≤ v2 then ((p1 (rdD z72 a0 v2)).bind fun t3 => if t3 = true then (some v2) else (slices_IndexFunc_impl_Way_impl_Way_3.l0 kq a0 p1 (w64 (v2 + 1)))) else none) else (some (-1))
def slices_IndexFunc_impl_Way_impl_Way_3.f (k : Nat) (a0 : List S72) (p1 : S72 → Option Bool) : Option Int := slices_IndexFunc_impl_Way_impl_Way_3.l0 k a0 p1 0
theorem slices_IndexFunc_impl_Way_impl_Way_3.go : Callable prog 236 := ⟨_, func236, by kernel_rfl, rfl⟩
theorem slices_IndexFunc_impl_Way_impl_Way_3.ok (k : Nat) (a0 : List S72) (p1 : S72 → Option Bool) (gi1 : FuncId) (u1_0_0 u1_0_1 u1_0_2 : V) (hp1 : ∀ x0 r, p1 x0 = some r → VCalls prog gi1 [.agg (e72 x0), .ptr [u1_0_0, u1_0_1, u1_0_2]] [.c (.p (.sc (.bool r)))]) (go1 : Callable prog gi1) (r : Int) (h : slices_IndexFunc_impl_Way_impl_Way_3.f k a0 p1 = some r) : VCalls prog 236 [.c (R 1 e72 z72 a0), .fn gi1 [[u1_0_0, u1_0_1, u1_0_2]]] [.c (.p (iI r))] := by
  unfold slices_IndexFunc_impl_Way_impl_Way_3.f at h
  refine VCalls.of (fn := f236) (N := 19) func236 rfl rfl (fun w0 => ?_)
  have H0 : ∀ (kq : Nat) (v2 : Int), slices_IndexFunc_impl_Way_impl_Way_3.l0 kq a0 p1 v2 = some r → AG prog 236 19 [.c (.p (iI r))] w0 (headStk (codeOf f236) 0) (mkFS (slices_IndexFunc_impl_Way_impl_Way_3.h0T a0 gi1 u1_0_0 u1_0_1 u1_0_2 v2) (slices_IndexFunc_impl_Way_impl_Way_3.h0H a0 gi1 u1_0_0 u1_0_1 u1_0_2 v2)) := by
    intro kq
    induction kq with
    | zero => intro v2 h; cases h
    | succ kq ih =>
      intro v2 h
      rw [slices_IndexFunc_impl_Way_impl_Way_3.l0] at h
      by_cases c4 : v2 < (a0.length : Int)
      · replace h := ip c4 h
        obtain ⟨c5, h⟩ := ifN h
        obtain ⟨t3, g6, h⟩ := bindN h
        let C6 := mkCon (hp1 (rdD z72 a0 v2) t3 g6) go1
        by_cases c7 : t3 = true
        · replace h := ip c7 h
          cases h
          exact rt func236 [.b true, .call C6, .b true, .fin] (oT c4 (o1 c5 (o1 c4 (oc C6 (o1 c7 on)))))
        · replace h := iq c7 h
          exact hd func236 [.b true, .call C6, .b false, .fin] (oT c4 (o1 c5 (o1 c4 (oc C6 (o1 (eqf c7) on))))) (ih (w64 (v2 + 1)) h)
      · replace h := iq c4 h
        cases h
        exact rt func236 [.b false, .fin, .fin] (oF c4 on)
  exact hd func236 [.fin] on (H0 k 0 h)

/-! ### slices_ContainsFunc_impl_Way_impl_Way_3: function 209 -/
def slices_ContainsFunc_impl_Way_impl_Way_3.f (k : Nat) (a0 : List S72) (p1 : S72 → Option Bool) : Option Bool := (slices_IndexFunc_impl_Way_impl_Way_3.f k a0 p1).bind fun t1 => some (decide (0 ≤ t1))
theorem slices_ContainsFunc_impl_Way_impl_Way_3.go : Callable prog 209 := ⟨_, func209, by kernel_rfl, rfl⟩
theorem slices_ContainsFunc_impl_Way_impl_Way_3.ok (k : Nat) (a0 : List S72) (p1 : S72 → Option Bool) (gi1 : FuncId) (u1_0_0 u1_0_1 u1_0_2 : V) (hp1 : ∀ x0 r, p1 x0 = some r → VCalls prog gi1 [.agg (e72 x0), .ptr [u1_0_0, u1_0_1, u1_0_2]] [.c (.p (.sc (.bool r)))]) (go1 : Callable prog gi1) (r : Bool) (h : slices_ContainsFunc_impl_Way_impl_Way_3.f k a0 p1 = some r) : VCalls prog 209 [.c (R 1 e72 z72 a0), .fn gi1 [[u1_0_0, u1_0_1, u1_0_2]]] [.c (.p (.sc (.bool r)))] := by
  unfold slices_ContainsFunc_impl_Way_impl_Way_3.f at h
  refine VCalls.of (fn := f209) (N := 9) func209 rfl rfl (fun w0 => ?_)
  obtain ⟨t1, g1, h⟩ := bindN h
  let C1 := mkCon (slices_IndexFunc_impl_Way_impl_Way_3.ok k a0 p1 gi1 u1_0_0 u1_0_1 u1_0_2 hp1 go1 t1 g1) slices_IndexFunc_impl_Way_impl_Way_3.go
  cases h
  exact rt func209 [.call C1, .fin] (oc C1 on)

/-! ### impl_compare: function 113 -/
def impl_compare.f (a0 : Int) (a1 : Int) : Option Int := if a0 < a1 then (some (-1)) else (if a1 < a0 then (some 1) else (some 0))
theorem impl_compare.go : Callable prog 113 := ⟨_, func113, by kernel_rfl, rfl⟩
theorem impl_compare.ok (a0 : Int) (a1 : Int) (r : Int) (h : impl_compare.f a0 a1 = some r) : VCalls prog 113 [.c (iI a0), .c (iI a1)] [.c (.p (iI r))] := by
  unfold impl_compare.f at h
  refine VCalls.of (fn := f113) (N := 13) func113 rfl rfl (fun w0 => ?_)
  by_cases c1 : a0 < a1
  · replace h := ip c1 h
    cases h
    exact rt func113 [.b true, .fin] (oT c1 on)
  · replace h := iq c1 h
    by_cases c2 : a1 < a0
    · replace h := ip c2 h
      cases h
      exact rt func113 [.b false, .b true, .fin] (oF c1 (oT c2 on))
    · replace h := iq c2 h
      cases h
      exact rt func113 [.b false, .b false, .fin] (oF c1 (oF c2 on))

/-! ### impl_LayerOf_1: function 112 -/
def impl_LayerOf_1.f (a0 : S74) (a1 : S74) : Option Int := (impl_compare.f a0.f1 a1.f1).bind fun t1 => some t1
theorem impl_LayerOf_1.go : Callable prog 112 := ⟨_, func112, by kernel_rfl, rfl⟩
theorem impl_LayerOf_1.ok (a0 : S74) (a1 : S74) (r : Int) (h : impl_LayerOf_1.f a0 a1 = some r) : VCalls prog 112 [.agg (e74 a0), .agg (e74 a1)] [.c (.p (iI r))] := by
  unfold impl_LayerOf_1.f at h
  refine VCalls.of (fn := f112) (N := 10) func112 rfl rfl (fun w0 => ?_)
  obtain ⟨t1, g1, h⟩ := bindN h
  let C1 := mkCon (impl_compare.ok a0.f1 a1.f1 t1 g1) impl_compare.go
  cases h
  exact rt func112 [.call C1, .fin] (oc C1 on)

/-! ### slices_MinFunc_impl_Job_impl_Job_: function 111 -/
def slices_MinFunc_impl_Job_impl_Job_.h0T (a0 : List S74) (gi1 : FuncId) (v14 : Int) (v11 : Int) (v12 : Int) (v13 : Bool) : List (Nat × AV) := [(0, .t (.c (.p false (R 3 e74 z74 a0)))), (1, .bfn gi1 []), (4, .ptr 256 0), (5, .ptr 320 0), (6, .t (.c (.p true (iI v14))))]
def slices_MinFunc_impl_Job_impl_Job_.h0H (a0 : List S74) (gi1 : FuncId) (v14 : Int) (v11 : Int) (v12 : Int) (v13 : Bool) : List (Nat × Content) := [(256, .box 74 [.p true (iI 0), .p true (iI 0), .p true (.sc (.bool false))]), (320, .box 74 [.p false (iI v11), .p false (iI v12), .p false (.sc (.bool v13))])]
def slices_MinFunc_impl_Job_impl_Job_.l0 : Nat → List S74 → (S74 → S74 → Option Int) → Int → Int → Bool → Int → Option S74
  | 0, _, _, _, _, _, _ => none
  | kq + 1, a0, p1, v11, v12, v13, v14 => if v14 < (a0.length : Int) then (if 0 ≤ v14 then ((p1 (rdD z74 a0 v14) (⟨v11, v12, v13⟩ : S74)).bind fun t15 => if t15 < 0 then (slices_MinFunc_impl_Job_impl_Job_.l0 kq a0 p1 ((rdD z74 a0 v14).f0) ((rdD z74 a0 v14).f1) ((rdD z74 a0 v14).f2) (w64 (v14 + 1))) else (slices_MinFunc_impl_Job_impl_Job_.l0 kq a0 p1 v11 v12 v13 (w64 (v14 + 1)))) else none) else (some (⟨v11, v12, v13⟩ : S74))
def slices_MinFunc_impl_Job_impl_Job_.f (k : Nat) (a0 : List S74) (p1 : S74 → S74 → Option Int) : Option S74 := if (a0.length : Int) < 1 then (none) else (if 0 < (a0.length : Int) then (slices_MinFunc_impl_Job_impl_Job_.l0 k a0 p1 ((rdD z74 a0 0).f0) ((rdD z74 a0 0).f1) ((rdD z74 a0 0).f2) 1) else none)
theorem slices_MinFunc_impl_Job_impl_Job_.go : Callable prog 111 := ⟨_, func111, by kernel_rfl, rfl⟩
theorem slices_MinFunc_impl_Job_impl_Job_.ok (k : Nat) (a0 : List S74) (p1 : S74 → S74 → Option Int) (gi1 : FuncId) (hp1 : ∀ x0 x1 r, p1 x0 x1 = some r → VCalls prog gi1 [.agg (e74 x0), .agg (e74 x1)] [.c (.p (iI r))]) (go1 : Callable prog gi1) (r : S74) (h : slices_MinFunc_impl_Job_impl_Job_.f k a0 p1 = some r) : VCalls prog 111 [.c (R 3 e74 z74 a0), .fn gi1 []] [.agg (r74 r)] := by
  unfold slices_MinFunc_impl_Job_impl_Job_.f at h
  refine VCalls.of (fn := f111) (N := 33) func111 rfl rfl (fun w0 => ?_)
  by_cases c1 : (a0.length : Int) < 1
  · replace h := ip c1 h
    cases h
  · replace h := iq c1 h
    obtain ⟨c2, h⟩ := ifN h
    have H0 : ∀ (kq : Nat) (v11 : Int) (v12 : Int) (v13 : Bool) (v14 : Int), slices_MinFunc_impl_Job_impl_Job_.l0 kq a0 p1 v11 v12 v13 v14 = some r → AG prog 111 33 [.agg (r74 r)] w0 (headStk (codeOf f111) 0) (mkFS (slices_MinFunc_impl_Job_impl_Job_.h0T a0 gi1 v14 v11 v12 v13) (slices_MinFunc_impl_Job_impl_Job_.h0H a0 gi1 v14 v11 v12 v13)) := by
      intro kq
      induction kq with
      | zero => intro v11 v12 v13 v14 h; cases h
      | succ kq ih =>
        intro v11 v12 v13 v14 h
        rw [slices_MinFunc_impl_Job_impl_Job_.l0] at h
        by_cases c18 : v14 < (a0.length : Int)
        · replace h := ip c18 h
          obtain ⟨c19, h⟩ := ifN h
          obtain ⟨t15, g20, h⟩ := bindN h
          let C20 := mkCon (hp1 (rdD z74 a0 v14) (⟨v11, v12, v13⟩ : S74) t15 g20) go1
          by_cases c21 : t15 < 0
          · replace h := ip c21 h
            exact hd func111 [.b true, .call C20, .b true, .fin] (oT c18 (o1 c19 (o1 c18 (oc C20 (oT c21 (o1 c19 (o1 c18 on))))))) (ih ((rdD z74 a0 v14).f0) ((rdD z74 a0 v14).f1) ((rdD z74 a0 v14).f2) (w64 (v14 + 1)) h)
          · replace h := iq c21 h
            exact hd func111 [.b true, .call C20, .b false, .fin] (oT c18 (o1 c19 (o1 c18 (oc C20 (oF c21 on))))) (ih v11 v12 v13 (w64 (v14 + 1)) h)
        · replace h := iq c18 h
          cases h
          exact rt func111 [.b false, .fin, .fin] (oF c18 on)
    exact hd func111 [.b false, .fin] (oF c1 (o1 (by decide : (0 : Int) ≤ 0) (o1 c2 on))) (H0 k ((rdD z74 a0 0).f0) ((rdD z74 a0 0).f1) ((rdD z74 a0 0).f2) 1 h)

/-! ### impl_LayerOf: function 53 -/
def impl_LayerOf.f (k : Nat) (a0 : S48) : Option Int := if (a0.f6.length : Int) = 0 then (some (-1)) else ((slices_MinFunc_impl_Job_impl_Job_.f k a0.f6 (fun x2 x3 => impl_LayerOf_1.f x2 x3)).bind fun t1 => some t1.f1)
theorem impl_LayerOf.go : Callable prog 53 := ⟨_, func53, by kernel_rfl, rfl⟩
theorem impl_LayerOf.ok (k : Nat) (a0 : S48) (r : Int) (h : impl_LayerOf.f k a0 = some r) : VCalls prog 53 [.agg (e48 a0)] [.c (.p (iI r))] := by
  unfold impl_LayerOf.f at h
  refine VCalls.of (fn := f53) (N := 11) func53 rfl rfl (fun w0 => ?_)
  by_cases c1 : (a0.f6.length : Int) = 0
  · replace h := ip c1 h
    cases h
    exact rt func53 [.b true, .fin] (oT c1 on)
  · replace h := iq c1 h
    obtain ⟨t1, g4, h⟩ := bindN h
    let C4 := mkCon (slices_MinFunc_impl_Job_impl_Job_.ok k a0.f6 (fun x2 x3 => impl_LayerOf_1.f x2 x3) 112  (fun x2 x3 r h => impl_LayerOf_1.ok x2 x3 r h) impl_LayerOf_1.go t1 g4) slices_MinFunc_impl_Job_impl_Job_.go
    cases h
    exact rt func53 [.b false, .call C4, .fin] (oF c1 (oc C4 on))

/-! ### impl_RobotAt_1: function 124 -/
def impl_RobotAt_1.f (a0 : S69) (a1 : Int) : Option Bool := some (decide (a0.f0 = a1))
theorem impl_RobotAt_1.go : Callable prog 124 := ⟨_, func124, by kernel_rfl, rfl⟩
theorem impl_RobotAt_1.ok (a0 : S69) (a1 : Int) (r : Bool) (h : impl_RobotAt_1.f a0 a1 = some r) : VCalls prog 124 [.agg (e69 a0), .ptr [.sc (.int .i64 a1)]] [.c (.p (.sc (.bool r)))] := by
  unfold impl_RobotAt_1.f at h
  refine VCalls.of (fn := f124) (N := 8) func124 rfl rfl (fun w0 => ?_)
  cases h
  exact rt func124 [.fin] on

/-! ### slices_IndexFunc_impl_Robot_impl_Robot_1: function 123 -/
def slices_IndexFunc_impl_Robot_impl_Robot_1.h0T (a0 : List S69) (gi1 : FuncId) (u1_0_0 : V) (v2 : Int) : List (Nat × AV) := [(0, .t (.c (.p false (R 4 e69 z69 a0)))), (1, .bfn gi1 [[u1_0_0]]), (7, .t (.c (.p true (.sc (.int .i64 (a0.length : Int)))))), (8, .t (.c (.p true (iI v2))))]
def slices_IndexFunc_impl_Robot_impl_Robot_1.h0H (a0 : List S69) (gi1 : FuncId) (u1_0_0 : V) (v2 : Int) : List (Nat × Content) := []
def slices_IndexFunc_impl_Robot_impl_Robot_1.l0 : Nat → List S69 → (S69 → Option Bool) → Int → Option Int
  | 0, _, _, _ => none
  | kq + 1, a0, p1, v2 => if v2 < (a0.length : Int) then (if 0 ≤ v2 then ((p1 (rdD z69 a0 v2)).bind fun t3 => if t3 = true then (some v2) else (slices_IndexFunc_impl_Robot_impl_Robot_1.l0 kq a0 p1 (w64 (v2 + 1)))) else none) else (some (-1))
def slices_IndexFunc_impl_Robot_impl_Robot_1.f (k : Nat) (a0 : List S69) (p1 : S69 → Option Bool) : Option Int := slices_IndexFunc_impl_Robot_impl_Robot_1.l0 k a0 p1 0
theorem slices_IndexFunc_impl_Robot_impl_Robot_1.go : Callable prog 123 := ⟨_, func123, by kernel_rfl, rfl⟩
theorem slices_IndexFunc_impl_Robot_impl_Robot_1.ok (k : Nat) (a0 : List S69) (p1 : S69 → Option Bool) (gi1 : FuncId) (u1_0_0 : V) (hp1 : ∀ x0 r, p1 x0 = some r → VCalls prog gi1 [.agg (e69 x0), .ptr [u1_0_0]] [.c (.p (.sc (.bool r)))]) (go1 : Callable prog gi1) (r : Int) (h : slices_IndexFunc_impl_Robot_impl_Robot_1.f k a0 p1 = some r) : VCalls prog 123 [.c (R 4 e69 z69 a0), .fn gi1 [[u1_0_0]]] [.c (.p (iI r))] := by
  unfold slices_IndexFunc_impl_Robot_impl_Robot_1.f at h
  refine VCalls.of (fn := f123) (N := 19) func123 rfl rfl (fun w0 => ?_)
  have H0 : ∀ (kq : Nat) (v2 : Int), slices_IndexFunc_impl_Robot_impl_Robot_1.l0 kq a0 p1 v2 = some r → AG prog 123 19 [.c (.p (iI r))] w0 (headStk (codeOf f123) 0) (mkFS (slices_IndexFunc_impl_Robot_impl_Robot_1.h0T a0 gi1 u1_0_0 v2) (slices_IndexFunc_impl_Robot_impl_Robot_1.h0H a0 gi1 u1_0_0 v2)) := by
    intro kq
    induction kq with
    | zero => intro v2 h; cases h
    | succ kq ih =>
      intro v2 h
      rw [slices_IndexFunc_impl_Robot_impl_Robot_1.l0] at h
      by_cases c4 : v2 < (a0.length : Int)
      · replace h := ip c4 h
        obtain ⟨c5, h⟩ := ifN h
        obtain ⟨t3, g6, h⟩ := bindN h
        let C6 := mkCon (hp1 (rdD z69 a0 v2) t3 g6) go1
        by_cases c7 : t3 = true
        · replace h := ip c7 h
          cases h
          exact rt func123 [.b true, .call C6, .b true, .fin] (oT c4 (o1 c5 (o1 c4 (oc C6 (o1 c7 on)))))
        · replace h := iq c7 h
          exact hd func123 [.b true, .call C6, .b false, .fin] (oT c4 (o1 c5 (o1 c4 (oc C6 (o1 (eqf c7) on))))) (ih (w64 (v2 + 1)) h)
      · replace h := iq c4 h
        cases h
        exact rt func123 [.b false, .fin, .fin] (oF c4 on)
  exact hd func123 [.fin] on (H0 k 0 h)

/-! ### impl_RobotAt: function 61 -/
def impl_RobotAt.f (k : Nat) (a0 : List S69) (a1 : Int) : Option Int := (slices_IndexFunc_impl_Robot_impl_Robot_1.f k a0 (fun x1 => impl_RobotAt_1.f x1 a1)).bind fun t1 => some t1
theorem impl_RobotAt.go : Callable prog 61 := ⟨_, func61, by kernel_rfl, rfl⟩
theorem impl_RobotAt.ok (k : Nat) (a0 : List S69) (a1 : Int) (r : Int) (h : impl_RobotAt.f k a0 a1 = some r) : VCalls prog 61 [.c (R 4 e69 z69 a0), .c (iI a1)] [.c (.p (iI r))] := by
  unfold impl_RobotAt.f at h
  refine VCalls.of (fn := f61) (N := 8) func61 rfl rfl (fun w0 => ?_)
  obtain ⟨t1, g2, h⟩ := bindN h
  let C2 := mkCon (slices_IndexFunc_impl_Robot_impl_Robot_1.ok k a0 (fun x1 => impl_RobotAt_1.f x1 a1) 124 (iI a1) (fun x1 r h => impl_RobotAt_1.ok x1 a1 r h) impl_RobotAt_1.go t1 g2) slices_IndexFunc_impl_Robot_impl_Robot_1.go
  cases h
  exact rt func61 [.call C2, .fin] (oc C2 on)

/-! ### impl_isJob_1: function 237 -/
def impl_isJob_1.f (a0 : S74) (a1 : S74) : Option Bool := some (decide (a0.f0 = a1.f0))
theorem impl_isJob_1.go : Callable prog 237 := ⟨_, func237, by kernel_rfl, rfl⟩
theorem impl_isJob_1.ok (a0 : S74) (a1 : S74) (r : Bool) (h : impl_isJob_1.f a0 a1 = some r) : VCalls prog 237 [.agg (e74 a0), .ptr [.sc (.int .i64 a1.f0), .sc (.int .i64 a1.f1), .sc (.bool a1.f2)]] [.c (.p (.sc (.bool r)))] := by
  unfold impl_isJob_1.f at h
  refine VCalls.of (fn := f237) (N := 9) func237 rfl rfl (fun w0 => ?_)
  cases h
  exact rt func237 [.fin] on

/-! ### slices_IndexFunc_impl_Job_impl_Job_3: function 59 -/
def slices_IndexFunc_impl_Job_impl_Job_3.h0T (a0 : List S74) (gi1 : FuncId) (u1_0_0 : V) (u1_0_1 : V) (u1_0_2 : V) (v2 : Int) : List (Nat × AV) := [(0, .t (.c (.p false (R 3 e74 z74 a0)))), (1, .bfn gi1 [[u1_0_0, u1_0_1, u1_0_2]]), (7, .t (.c (.p true (.sc (.int .i64 (a0.length : Int)))))), (8, .t (.c (.p true (iI v2))))]
def slices_IndexFunc_impl_Job_impl_Job_3.h0H (a0 : List S74) (gi1 : FuncId) (u1_0_0 : V) (u1_0_1 : V) (u1_0_2 : V) (v2 : Int) : List (Nat × Content) := []
def slices_IndexFunc_impl_Job_impl_Job_3.l0 : Nat → List S74 → (S74 → Option Bool) → Int → Option Int
  | 0, _, _, _ => none
  | kq + 1, a0, p1, v2 => if v2 < (a0.length : Int) then (if 0 ≤ v2 then ((p1 (rdD z74 a0 v2)).bind fun t3 => if t3 = true then (some v2) else (slices_IndexFunc_impl_Job_impl_Job_3.l0 kq a0 p1 (w64 (v2 + 1)))) else none) else (some (-1))
def slices_IndexFunc_impl_Job_impl_Job_3.f (k : Nat) (a0 : List S74) (p1 : S74 → Option Bool) : Option Int := slices_IndexFunc_impl_Job_impl_Job_3.l0 k a0 p1 0
theorem slices_IndexFunc_impl_Job_impl_Job_3.go : Callable prog 59 := ⟨_, func59, by kernel_rfl, rfl⟩
theorem slices_IndexFunc_impl_Job_impl_Job_3.ok (k : Nat) (a0 : List S74) (p1 : S74 → Option Bool) (gi1 : FuncId) (u1_0_0 u1_0_1 u1_0_2 : V) (hp1 : ∀ x0 r, p1 x0 = some r → VCalls prog gi1 [.agg (e74 x0), .ptr [u1_0_0, u1_0_1, u1_0_2]] [.c (.p (.sc (.bool r)))]) (go1 : Callable prog gi1) (r : Int) (h : slices_IndexFunc_impl_Job_impl_Job_3.f k a0 p1 = some r) : VCalls prog 59 [.c (R 3 e74 z74 a0), .fn gi1 [[u1_0_0, u1_0_1, u1_0_2]]] [.c (.p (iI r))] := by
  unfold slices_IndexFunc_impl_Job_impl_Job_3.f at h
  refine VCalls.of (fn := f59) (N := 19) func59 rfl rfl (fun w0 => ?_)
  have H0 : ∀ (kq : Nat) (v2 : Int), slices_IndexFunc_impl_Job_impl_Job_3.l0 kq a0 p1 v2 = some r → AG prog 59 19 [.c (.p (iI r))] w0 (headStk (codeOf f59) 0) (mkFS (slices_IndexFunc_impl_Job_impl_Job_3.h0T a0 gi1 u1_0_0 u1_0_1 u1_0_2 v2) (slices_IndexFunc_impl_Job_impl_Job_3.h0H a0 gi1 u1_0_0 u1_0_1 u1_0_2 v2)) := by
    intro kq
    induction kq with
    | zero => intro v2 h; cases h
    | succ kq ih =>
      intro v2 h
      rw [slices_IndexFunc_impl_Job_impl_Job_3.l0] at h
      by_cases c4 : v2 < (a0.length : Int)
      · replace h := ip c4 h
        obtain ⟨c5, h⟩ := ifN h
        obtain ⟨t3, g6, h⟩ := bindN h
        let C6 := mkCon (hp1 (rdD z74 a0 v2) t3 g6) go1
        by_cases c7 : t3 = true
        · replace h := ip c7 h
          cases h
          exact rt func59 [.b true, .call C6, .b true, .fin] (oT c4 (o1 c5 (o1 c4 (oc C6 (o1 c7 on)))))
        · replace h := iq c7 h
          exact hd func59 [.b true, .call C6, .b false, .fin] (oT c4 (o1 c5 (o1 c4 (oc C6 (o1 (eqf c7) on))))) (ih (w64 (v2 + 1)) h)
      · replace h := iq c4 h
        cases h
        exact rt func59 [.b false, .fin, .fin] (oF c4 on)
  exact hd func59 [.fin] on (H0 k 0 h)

/-! ### slices_ContainsFunc_impl_Job_impl_Job_3: function 100 -/
def slices_ContainsFunc_impl_Job_impl_Job_3.f (k : Nat) (a0 : List S74) (p1 : S74 → Option Bool) : Option Bool := (slices_IndexFunc_impl_Job_impl_Job_3.f k a0 p1).bind fun t1 => some (decide (0 ≤ t1))
theorem slices_ContainsFunc_impl_Job_impl_Job_3.go : Callable prog 100 := ⟨_, func100, by kernel_rfl, rfl⟩
theorem slices_ContainsFunc_impl_Job_impl_Job_3.ok (k : Nat) (a0 : List S74) (p1 : S74 → Option Bool) (gi1 : FuncId) (u1_0_0 u1_0_1 u1_0_2 : V) (hp1 : ∀ x0 r, p1 x0 = some r → VCalls prog gi1 [.agg (e74 x0), .ptr [u1_0_0, u1_0_1, u1_0_2]] [.c (.p (.sc (.bool r)))]) (go1 : Callable prog gi1) (r : Bool) (h : slices_ContainsFunc_impl_Job_impl_Job_3.f k a0 p1 = some r) : VCalls prog 100 [.c (R 3 e74 z74 a0), .fn gi1 [[u1_0_0, u1_0_1, u1_0_2]]] [.c (.p (.sc (.bool r)))] := by
  unfold slices_ContainsFunc_impl_Job_impl_Job_3.f at h
  refine VCalls.of (fn := f100) (N := 9) func100 rfl rfl (fun w0 => ?_)
  obtain ⟨t1, g1, h⟩ := bindN h
  let C1 := mkCon (slices_IndexFunc_impl_Job_impl_Job_3.ok k a0 p1 gi1 u1_0_0 u1_0_1 u1_0_2 hp1 go1 t1 g1) slices_IndexFunc_impl_Job_impl_Job_3.go
  cases h
  exact rt func100 [.call C1, .fin] (oc C1 on)
end Go.Proofs.YtoaknaceaghclaaGreat.V
