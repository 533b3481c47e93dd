/- What each Go function computes, and that the machine does so: printed by a program of this session (avgen.py). -/
import Derived.Test.YtfhjipfkaemapaaGreatV1
namespace Go.Proofs.YtfhjipfkaemapaaGreat.V
open Go Go.Av Go.Proofs Go.Proofs.Tryz
set_option linter.unusedVariables false
set_option maxRecDepth 100000
def impl_around.f (a0 : S24) (a1 : Int) : Option (List Int) := (impl_isFree.f a0 a1).bind fun t1 => if t1 = true then ((impl_isFree.f a0 (w64 (a1 - a0.f0))).bind fun t2 => if t2 = true then (if (([] : List Int).length + 1) * 8 ≤ 140737488355328 then (if a0.f0 ≠ 0 then (if 0 < (a1.tmod a0.f0) then ((impl_isFree.f a0 (w64 (a1 - 1))).bind fun t3 => if t3 = true then (if ((([] : List Int) ++ [(w64 (a1 - a0.f0))]).length + 1) * 8 ≤ 140737488355328 then (if (a1.tmod a0.f0) < (w64 (a0.f0 - 1)) then ((impl_isFree.f a0 (w64 (a1 + 1))).bind fun t4 => if t4 = true then (if (((([] : List Int) ++ [(w64 (a1 - a0.f0))]) ++ [(w64 (a1 - 1))]).length + 1) * 8 ≤ 140737488355328 then ((impl_isFree.f a0 (w64 (a1 + a0.f0))).bind fun t5 => if t5 = true then (if ((((([] : List Int) ++ [(w64 (a1 - a0.f0))]) ++ [(w64 (a1 - 1))]) ++ [(w64 (a1 + 1))]).length + 1) * 8 ≤ 140737488355328 then (some ((((([] : List Int) ++ [(w64 (a1 - a0.f0))]) ++ [(w64 (a1 - 1))]) ++ [(w64 (a1 + 1))]) ++ [(w64 (a1 + a0.f0))])) else none) else (some (((([] : List Int) ++ [(w64 (a1 - a0.f0))]) ++ [(w64 (a1 - 1))]) ++ [(w64 (a1 + 1))]))) else none) else ((impl_isFree.f a0 (w64 (a1 + a0.f0))).bind fun t6 => if t6 = true then (if (((([] : List Int) ++ [(w64 (a1 - a0.f0))]) ++ [(w64 (a1 - 1))]).length + 1) * 8 ≤ 140737488355328 then (some (((([] : List Int) ++ [(w64 (a1 - a0.f0))]) ++ [(w64 (a1 - 1))]) ++ [(w64 (a1 + a0.f0))])) else none) else (some ((([] : List Int) ++ [(w64 (a1 - a0.f0))]) ++ [(w64 (a1 - 1))])))) else ((impl_isFree.f a0 (w64 (a1 + a0.f0))).bind fun t7 => if t7 = true then (if (((([] : List Int) ++ [(w64 (a1 - a0.f0))]) ++ [(w64 (a1 - 1))]).length + 1) * 8 ≤ 140737488355328 then (some (((([] : List Int) ++ [(w64 (a1 - a0.f0))]) ++ [(w64 (a1 - 1))]) ++ [(w64 (a1 + a0.f0))])) else none) else (some ((([] : List Int) ++ [(w64 (a1 - a0.f0))]) ++ [(w64 (a1 - 1))])))) else none) else (if (a1.tmod a0.f0) < (w64 (a0.f0 - 1)) then ((impl_isFree.f a0 (w64 (a1 + 1))).bind fun t8 => if t8 = true then (if ((([] : List Int) ++ [(w64 (a1 - a0.f0))]).length + 1) * 8 ≤ 140737488355328 then ((impl_isFree.f a0 (w64 (a1 + a0.f0))).bind fun t9 => if t9 = true then (if (((([] : List Int) ++ [(w64 (a1 - a0.f0))]) ++ [(w64 (a1 + 1))]).length + 1) * 8 ≤ 140737488355328 then (some (((([] : List Int) ++ [(w64 (a1 - a0.f0))]) ++ [(w64 (a1 + 1))]) ++ [(w64 (a1 + a0.f0))])) else none) else (some ((([] : List Int) ++ [(w64 (a1 - a0.f0))]) ++ [(w64 (a1 + 1))]))) else none) else ((impl_isFree.f a0 (w64 (a1 + a0.f0))).bind fun t10 => if t10 = true then (if ((([] : List Int) ++ [(w64 (a1 - a0.f0))]).length + 1) * 8 ≤ 140737488355328 then (some ((([] : List Int) ++ [(w64 (a1 - a0.f0))]) ++ [(w64 (a1 + a0.f0))])) else none) else (some (([] : List Int) ++ [(w64 (a1 - a0.f0))])))) else ((impl_isFree.f a0 (w64 (a1 + a0.f0))).bind fun t11 => if t11 = true then (if ((([] : List Int) ++ [(w64 (a1 - a0.f0))]).length + 1) * 8 ≤ 140737488355328 then (some ((([] : List Int) ++ [(w64 (a1 - a0.f0))]) ++ [(w64 (a1 + a0.f0))])) else none) else (some (([] : List Int) ++ [(w64 (a1 - a0.f0))]))))) else (if (a1.tmod a0.f0) < (w64 (a0.f0 - 1)) then ((impl_isFree.f a0 (w64 (a1 + 1))).bind fun t12 => if t12 = true then (if ((([] : List Int) ++ [(w64 (a1 - a0.f0))]).length + 1) * 8 ≤ 140737488355328 then ((impl_isFree.f a0 (w64 (a1 + a0.f0))).bind fun t13 => if t13 = true then (if (((([] : List Int) ++ [(w64 (a1 - a0.f0))]) ++ [(w64 (a1 + 1))]).length + 1) * 8 ≤ 140737488355328 then (some (((([] : List Int) ++ [(w64 (a1 - a0.f0))]) ++ [(w64 (a1 + 1))]) ++ [(w64 (a1 + a0.f0))])) else none) else (some ((([] : List Int) ++ [(w64 (a1 - a0.f0))]) ++ [(w64 (a1 + 1))]))) else none) else ((impl_isFree.f a0 (w64 (a1 + a0.f0))).bind fun t14 => if t14 = true then (if ((([] : List Int) ++ [(w64 (a1 - a0.f0))]).length + 1) * 8 ≤ 140737488355328 then (some ((([] : List Int) ++ [(w64 (a1 - a0.f0))]) ++ [(w64 (a1 + a0.f0))])) else none) else (some (([] : List Int) ++ [(w64 (a1 - a0.f0))])))) else ((impl_isFree.f a0 (w64 (a1 + a0.f0))).bind fun t15 => if t15 = true then (if ((([] : List Int) ++ [(w64 (a1 - a0.f0))]).length + 1) * 8 ≤ 140737488355328 then (some ((([] : List Int) ++ [(w64 (a1 - a0.f0))]) ++ [(w64 (a1 + a0.f0))])) else none) else (some (([] : List Int) ++ [(w64 (a1 - a0.f0))]))))) else none) else none) else (if a0.f0 ≠ 0 then (if 0 < (a1.tmod a0.f0) then ((impl_isFree.f a0 (w64 (a1 - 1))).bind fun t16 => if t16 = true then (if (([] : List Int).length + 1) * 8 ≤ 140737488355328 then (if (a1.tmod a0.f0) < (w64 (a0.f0 - 1)) then ((impl_isFree.f a0 (w64 (a1 + 1))).bind fun t17 => if t17 = true then (if ((([] : List Int) ++ [(w64 (a1 - 1))]).length + 1) * 8 ≤ 140737488355328 then ((impl_isFree.f a0 (w64 (a1 + a0.f0))).bind fun t18 => if t18 = true then (if (((([] : List Int) ++ [(w64 (a1 - 1))]) ++ [(w64 (a1 + 1))]).length + 1) * 8 ≤ 140737488355328 then (some (((([] : List Int) ++ [(w64 (a1 - 1))]) ++ [(w64 (a1 + 1))]) ++ [(w64 (a1 + a0.f0))])) else none) else (some ((([] : List Int) ++ [(w64 (a1 - 1))]) ++ [(w64 (a1 + 1))]))) else none) else ((impl_isFree.f a0 (w64 (a1 + a0.f0))).bind fun t19 => if t19 = true then (if ((([] : List Int) ++ [(w64 (a1 - 1))]).length + 1) * 8 ≤ 140737488355328 then (some ((([] : List Int) ++ [(w64 (a1 - 1))]) ++ [(w64 (a1 + a0.f0))])) else none) else (some (([] : List Int) ++ [(w64 (a1 - 1))])))) else ((impl_isFree.f a0 (w64 (a1 + a0.f0))).bind fun t20 => if t20 = true then (if ((([] : List Int) ++ [(w64 (a1 - 1))]).length + 1) * 8 ≤ 140737488355328 then (some ((([] : List Int) ++ [(w64 (a1 - 1))]) ++ [(w64 (a1 + a0.f0))])) else none) else (some (([] : List Int) ++ [(w64 (a1 - 1))])))) else none) else (if (a1.tmod a0.f0) < (w64 (a0.f0 - 1)) then ((impl_isFree.f a0 (w64 (a1 + 1))).bind fun t21 => if t21 = true then (if (([] : List Int).length + 1) * 8 ≤ 140737488355328 then ((impl_isFree.f a0 (w64 (a1 + a0.f0))).bind fun t22 => if t22 = true then (if ((([] : List Int) ++ [(w64 (a1 + 1))]).length + 1) * 8 ≤ 140737488355328 then (some ((([] : List Int) ++ [(w64 (a1 + 1))]) ++ [(w64 (a1 + a0.f0))])) else none) else (some (([] : List Int) ++ [(w64 (a1 + 1))]))) else none) else ((impl_isFree.f a0 (w64 (a1 + a0.f0))).bind fun t23 => if t23 = true then (if (([] : List Int).length + 1) * 8 ≤ 140737488355328 then (some (([] : List Int) ++ [(w64 (a1 + a0.f0))])) else none) else (some ([] : List Int)))) else ((impl_isFree.f a0 (w64 (a1 + a0.f0))).bind fun t24 => if t24 = true then (if (([] : List Int).length + 1) * 8 ≤ 140737488355328 then (some (([] : List Int) ++ [(w64 (a1 + a0.f0))])) else none) else (some ([] : List Int))))) else (if (a1.tmod a0.f0) < (w64 (a0.f0 - 1)) then ((impl_isFree.f a0 (w64 (a1 + 1))).bind fun t25 => if t25 = true then (if (([] : List Int).length + 1) * 8 ≤ 140737488355328 then ((impl_isFree.f a0 (w64 (a1 + a0.f0))).bind fun t26 => if t26 = true then (if ((([] : List Int) ++ [(w64 (a1 + 1))]).length + 1) * 8 ≤ 140737488355328 then (some ((([] : List Int) ++ [(w64 (a1 + 1))]) ++ [(w64 (a1 + a0.f0))])) else none) else (some (([] : List Int) ++ [(w64 (a1 + 1))]))) else none) else ((impl_isFree.f a0 (w64 (a1 + a0.f0))).bind fun t27 => if t27 = true then (if (([] : List Int).length + 1) * 8 ≤ 140737488355328 then (some (([] : List Int) ++ [(w64 (a1 + a0.f0))])) else none) else (some ([] : List Int)))) else ((impl_isFree.f a0 (w64 (a1 + a0.f0))).bind fun t28 => if t28 = true then (if (([] : List Int).length + 1) * 8 ≤ 140737488355328 then (some (([] : List Int) ++ [(w64 (a1 + a0.f0))])) else none) else (some ([] : List Int))))) else none)) else (some ([] : List Int))
theorem impl_around.go : Callable prog 128 := ⟨_, func128, by kernel_rfl, rfl⟩
theorem impl_around.ok (a0 : S24) (a1 : Int) (r : (List Int)) (h : impl_around.f a0 a1 = some r) : VCalls prog 128 [.agg (e24 a0), .c (iI a1)] [.c (.own 3 1 r.length (fun j => (eI .i64) (r.getD j 0)))] := by
 unfold impl_around.f at h
 refine VCalls.of (fn := f128) (N := 70) func128 rfl rfl (fun w0 => ?_)
 obtain ⟨t1, g1, h⟩ := bindN h
 let C1 := mkCon (impl_isFree.ok a0 a1 t1 g1) impl_isFree.go
 by_cases c2 : t1 = true
 ·replace h := ip c2 h
  obtain ⟨t2, g3, h⟩ := bindN h
  let C3 := mkCon (impl_isFree.ok a0 (w64 (a1 - a0.f0)) t2 g3) impl_isFree.go
  by_cases c4 : t2 = true
  ·replace h := ip c4 h
   obtain ⟨c5, h⟩ := ifN h
   obtain ⟨c6, h⟩ := ifN h
   by_cases c7 : 0 < (a1.tmod a0.f0)
   ·replace h := ip c7 h
    obtain ⟨t3, g8, h⟩ := bindN h
    let C8 := mkCon (impl_isFree.ok a0 (w64 (a1 - 1)) t3 g8) impl_isFree.go
    by_cases c9 : t3 = true
    ·replace h := ip c9 h
     obtain ⟨c10, h⟩ := ifN h
     by_cases c11 : (a1.tmod a0.f0) < (w64 (a0.f0 - 1))
     ·replace h := ip c11 h
      obtain ⟨t4, g12, h⟩ := bindN h
      let C12 := mkCon (impl_isFree.ok a0 (w64 (a1 + 1)) t4 g12) impl_isFree.go
      by_cases c13 : t4 = true
      ·replace h := ip c13 h
       obtain ⟨c14, h⟩ := ifN h
       obtain ⟨t5, g15, h⟩ := bindN h
       let C15 := mkCon (impl_isFree.ok a0 (w64 (a1 + a0.f0)) t5 g15) impl_isFree.go
       by_cases c16 : t5 = true
       ·replace h := ip c16 h
        obtain ⟨c17, h⟩ := ifN h
        cases h
        exact rt func128 [.call C1, .b false, .call C3, .b true, rowe 21 (eI .i64) 0 ([(w64 (a1 - a0.f0))]), .op 22, .nil 19 321216 3 1, orow 321216 (eI .i64) 0 ([] : List Int), .aft 22, orow 321216 (eI .i64) 0 (([] : List Int) ++ [(w64 (a1 - a0.f0))]), .dec 28 true, .call C8, .b true, rowe 37 (eI .i64) 0 ([(w64 (a1 - 1))]), .aft 38, orow 321216 (eI .i64) 0 ((([] : List Int) ++ [(w64 (a1 - a0.f0))]) ++ [(w64 (a1 - 1))]), .dec 47 true, .call C12, .b true, rowe 56 (eI .i64) 0 ([(w64 (a1 + 1))]), .aft 57, orow 321216 (eI .i64) 0 (((([] : List Int) ++ [(w64 (a1 - a0.f0))]) ++ [(w64 (a1 - 1))]) ++ [(w64 (a1 + 1))]), .call C15, .b true, rowe 67 (eI .i64) 0 ([(w64 (a1 + a0.f0))]), .aft 68, orow 321216 (eI .i64) 0 ((((([] : List Int) ++ [(w64 (a1 - a0.f0))]) ++ [(w64 (a1 - 1))]) ++ [(w64 (a1 + 1))]) ++ [(w64 (a1 + a0.f0))]), .fin] (oc C1 (o1 (bnf c2) (oc C3 (o1 c4 (o1 (GE.lit 1 (eI .i64) 0 [(w64 (a1 - a0.f0))] (by intro x; rfl)) (o1 (GE.nil (eI .i64) 0) (o1 c5 (o1 (GE.app (e := (eI .i64)) (d := 0) ([] : List Int) ([(w64 (a1 - a0.f0))]) rfl (fun _ _ => CE.refl _) rfl) (o1 c6 (oT c7 (oc C8 (o1 c9 (o1 (GE.lit 1 (eI .i64) 0 [(w64 (a1 - 1))] (by intro x; rfl)) (o1 c10 (o1 (GE.app (e := (eI .i64)) (d := 0) (([] : List Int) ++ [(w64 (a1 - a0.f0))]) ([(w64 (a1 - 1))]) rfl (fun _ _ => CE.refl _) rfl) (o1 c6 (oT c11 (oc C12 (o1 c13 (o1 (GE.lit 1 (eI .i64) 0 [(w64 (a1 + 1))] (by intro x; rfl)) (o1 c14 (o1 (GE.app (e := (eI .i64)) (d := 0) ((([] : List Int) ++ [(w64 (a1 - a0.f0))]) ++ [(w64 (a1 - 1))]) ([(w64 (a1 + 1))]) rfl (fun _ _ => CE.refl _) rfl) (oc C15 (o1 c16 (o1 (GE.lit 1 (eI .i64) 0 [(w64 (a1 + a0.f0))] (by intro x; rfl)) (o1 c17 (o1 (GE.app (e := (eI .i64)) (d := 0) (((([] : List Int) ++ [(w64 (a1 - a0.f0))]) ++ [(w64 (a1 - 1))]) ++ [(w64 (a1 + 1))]) ([(w64 (a1 + a0.f0))]) rfl (fun _ _ => CE.refl _) rfl) on)))))))))))))))))))))))))))
       ·replace h := iq c16 h
        cases h
        exact rt func128 [.call C1, .b false, .call C3, .b true, rowe 21 (eI .i64) 0 ([(w64 (a1 - a0.f0))]), .op 22, .nil 19 321216 3 1, orow 321216 (eI .i64) 0 ([] : List Int), .aft 22, orow 321216 (eI .i64) 0 (([] : List Int) ++ [(w64 (a1 - a0.f0))]), .dec 28 true, .call C8, .b true, rowe 37 (eI .i64) 0 ([(w64 (a1 - 1))]), .aft 38, orow 321216 (eI .i64) 0 ((([] : List Int) ++ [(w64 (a1 - a0.f0))]) ++ [(w64 (a1 - 1))]), .dec 47 true, .call C12, .b true, rowe 56 (eI .i64) 0 ([(w64 (a1 + 1))]), .aft 57, orow 321216 (eI .i64) 0 (((([] : List Int) ++ [(w64 (a1 - a0.f0))]) ++ [(w64 (a1 - 1))]) ++ [(w64 (a1 + 1))]), .call C15, .b false, .fin] (oc C1 (o1 (bnf c2) (oc C3 (o1 c4 (o1 (GE.lit 1 (eI .i64) 0 [(w64 (a1 - a0.f0))] (by intro x; rfl)) (o1 (GE.nil (eI .i64) 0) (o1 c5 (o1 (GE.app (e := (eI .i64)) (d := 0) ([] : List Int) ([(w64 (a1 - a0.f0))]) rfl (fun _ _ => CE.refl _) rfl) (o1 c6 (oT c7 (oc C8 (o1 c9 (o1 (GE.lit 1 (eI .i64) 0 [(w64 (a1 - 1))] (by intro x; rfl)) (o1 c10 (o1 (GE.app (e := (eI .i64)) (d := 0) (([] : List Int) ++ [(w64 (a1 - a0.f0))]) ([(w64 (a1 - 1))]) rfl (fun _ _ => CE.refl _) rfl) (o1 c6 (oT c11 (oc C12 (o1 c13 (o1 (GE.lit 1 (eI .i64) 0 [(w64 (a1 + 1))] (by intro x; rfl)) (o1 c14 (o1 (GE.app (e := (eI .i64)) (d := 0) ((([] : List Int) ++ [(w64 (a1 - a0.f0))]) ++ [(w64 (a1 - 1))]) ([(w64 (a1 + 1))]) rfl (fun _ _ => CE.refl _) rfl) (oc C15 (o1 (eqf c16) on))))))))))))))))))))))))
      ·replace h := iq c13 h
       obtain ⟨t6, g18, h⟩ := bindN h
       let C18 := mkCon (impl_isFree.ok a0 (w64 (a1 + a0.f0)) t6 g18) impl_isFree.go
       by_cases c19 : t6 = true
       ·replace h := ip c19 h
        obtain ⟨c20, h⟩ := ifN h
        cases h
        exact rt func128 [.call C1, .b false, .call C3, .b true, rowe 21 (eI .i64) 0 ([(w64 (a1 - a0.f0))]), .op 22, .nil 19 321216 3 1, orow 321216 (eI .i64) 0 ([] : List Int), .aft 22, orow 321216 (eI .i64) 0 (([] : List Int) ++ [(w64 (a1 - a0.f0))]), .dec 28 true, .call C8, .b true, rowe 37 (eI .i64) 0 ([(w64 (a1 - 1))]), .aft 38, orow 321216 (eI .i64) 0 ((([] : List Int) ++ [(w64 (a1 - a0.f0))]) ++ [(w64 (a1 - 1))]), .dec 47 true, .call C12, .b false, .call C18, .b true, rowe 67 (eI .i64) 0 ([(w64 (a1 + a0.f0))]), .aft 68, orow 321216 (eI .i64) 0 (((([] : List Int) ++ [(w64 (a1 - a0.f0))]) ++ [(w64 (a1 - 1))]) ++ [(w64 (a1 + a0.f0))]), .fin] (oc C1 (o1 (bnf c2) (oc C3 (o1 c4 (o1 (GE.lit 1 (eI .i64) 0 [(w64 (a1 - a0.f0))] (by intro x; rfl)) (o1 (GE.nil (eI .i64) 0) (o1 c5 (o1 (GE.app (e := (eI .i64)) (d := 0) ([] : List Int) ([(w64 (a1 - a0.f0))]) rfl (fun _ _ => CE.refl _) rfl) (o1 c6 (oT c7 (oc C8 (o1 c9 (o1 (GE.lit 1 (eI .i64) 0 [(w64 (a1 - 1))] (by intro x; rfl)) (o1 c10 (o1 (GE.app (e := (eI .i64)) (d := 0) (([] : List Int) ++ [(w64 (a1 - a0.f0))]) ([(w64 (a1 - 1))]) rfl (fun _ _ => CE.refl _) rfl) (o1 c6 (oT c11 (oc C12 (o1 (eqf c13) (oc C18 (o1 c19 (o1 (GE.lit 1 (eI .i64) 0 [(w64 (a1 + a0.f0))] (by intro x; rfl)) (o1 c20 (o1 (GE.app (e := (eI .i64)) (d := 0) ((([] : List Int) ++ [(w64 (a1 - a0.f0))]) ++ [(w64 (a1 - 1))]) ([(w64 (a1 + a0.f0))]) rfl (fun _ _ => CE.refl _) rfl) on))))))))))))))))))))))))
       ·replace h := iq c19 h
        cases h
        exact rt func128 [.call C1, .b false, .call C3, .b true, rowe 21 (eI .i64) 0 ([(w64 (a1 - a0.f0))]), .op 22, .nil 19 321216 3 1, orow 321216 (eI .i64) 0 ([] : List Int), .aft 22, orow 321216 (eI .i64) 0 (([] : List Int) ++ [(w64 (a1 - a0.f0))]), .dec 28 true, .call C8, .b true, rowe 37 (eI .i64) 0 ([(w64 (a1 - 1))]), .aft 38, orow 321216 (eI .i64) 0 ((([] : List Int) ++ [(w64 (a1 - a0.f0))]) ++ [(w64 (a1 - 1))]), .dec 47 true, .call C12, .b false, .call C18, .b false, .fin] (oc C1 (o1 (bnf c2) (oc C3 (o1 c4 (o1 (GE.lit 1 (eI .i64) 0 [(w64 (a1 - a0.f0))] (by intro x; rfl)) (o1 (GE.nil (eI .i64) 0) (o1 c5 (o1 (GE.app (e := (eI .i64)) (d := 0) ([] : List Int) ([(w64 (a1 - a0.f0))]) rfl (fun _ _ => CE.refl _) rfl) (o1 c6 (oT c7 (oc C8 (o1 c9 (o1 (GE.lit 1 (eI .i64) 0 [(w64 (a1 - 1))] (by intro x; rfl)) (o1 c10 (o1 (GE.app (e := (eI .i64)) (d := 0) (([] : List Int) ++ [(w64 (a1 - a0.f0))]) ([(w64 (a1 - 1))]) rfl (fun _ _ => CE.refl _) rfl) (o1 c6 (oT c11 (oc C12 (o1 (eqf c13) (oc C18 (o1 (eqf c19) on)))))))))))))))))))))
     ·replace h := iq c11 h
      obtain ⟨t7, g21, h⟩ := bindN h
      let C21 := mkCon (impl_isFree.ok a0 (w64 (a1 + a0.f0)) t7 g21) impl_isFree.go
      by_cases c22 : t7 = true
      ·replace h := ip c22 h
       obtain ⟨c23, h⟩ := ifN h
       cases h
       exact rt func128 [.call C1, .b false, .call C3, .b true, rowe 21 (eI .i64) 0 ([(w64 (a1 - a0.f0))]), .op 22, .nil 19 321216 3 1, orow 321216 (eI .i64) 0 ([] : List Int), .aft 22, orow 321216 (eI .i64) 0 (([] : List Int) ++ [(w64 (a1 - a0.f0))]), .dec 28 true, .call C8, .b true, rowe 37 (eI .i64) 0 ([(w64 (a1 - 1))]), .aft 38, orow 321216 (eI .i64) 0 ((([] : List Int) ++ [(w64 (a1 - a0.f0))]) ++ [(w64 (a1 - 1))]), .dec 47 false, .b false, .call C21, .b true, rowe 67 (eI .i64) 0 ([(w64 (a1 + a0.f0))]), .aft 68, orow 321216 (eI .i64) 0 (((([] : List Int) ++ [(w64 (a1 - a0.f0))]) ++ [(w64 (a1 - 1))]) ++ [(w64 (a1 + a0.f0))]), .fin] (oc C1 (o1 (bnf c2) (oc C3 (o1 c4 (o1 (GE.lit 1 (eI .i64) 0 [(w64 (a1 - a0.f0))] (by intro x; rfl)) (o1 (GE.nil (eI .i64) 0) (o1 c5 (o1 (GE.app (e := (eI .i64)) (d := 0) ([] : List Int) ([(w64 (a1 - a0.f0))]) rfl (fun _ _ => CE.refl _) rfl) (o1 c6 (oT c7 (oc C8 (o1 c9 (o1 (GE.lit 1 (eI .i64) 0 [(w64 (a1 - 1))] (by intro x; rfl)) (o1 c10 (o1 (GE.app (e := (eI .i64)) (d := 0) (([] : List Int) ++ [(w64 (a1 - a0.f0))]) ([(w64 (a1 - 1))]) rfl (fun _ _ => CE.refl _) rfl) (o1 c6 (oF c11 (o1 (rfl : false = false) (oc C21 (o1 c22 (o1 (GE.lit 1 (eI .i64) 0 [(w64 (a1 + a0.f0))] (by intro x; rfl)) (o1 c23 (o1 (GE.app (e := (eI .i64)) (d := 0) ((([] : List Int) ++ [(w64 (a1 - a0.f0))]) ++ [(w64 (a1 - 1))]) ([(w64 (a1 + a0.f0))]) rfl (fun _ _ => CE.refl _) rfl) on)))))))))))))))))))))))
      ·replace h := iq c22 h
       cases h
       exact rt func128 [.call C1, .b false, .call C3, .b true, rowe 21 (eI .i64) 0 ([(w64 (a1 - a0.f0))]), .op 22, .nil 19 321216 3 1, orow 321216 (eI .i64) 0 ([] : List Int), .aft 22, orow 321216 (eI .i64) 0 (([] : List Int) ++ [(w64 (a1 - a0.f0))]), .dec 28 true, .call C8, .b true, rowe 37 (eI .i64) 0 ([(w64 (a1 - 1))]), .aft 38, orow 321216 (eI .i64) 0 ((([] : List Int) ++ [(w64 (a1 - a0.f0))]) ++ [(w64 (a1 - 1))]), .dec 47 false, .b false, .call C21, .b false, .fin] (oc C1 (o1 (bnf c2) (oc C3 (o1 c4 (o1 (GE.lit 1 (eI .i64) 0 [(w64 (a1 - a0.f0))] (by intro x; rfl)) (o1 (GE.nil (eI .i64) 0) (o1 c5 (o1 (GE.app (e := (eI .i64)) (d := 0) ([] : List Int) ([(w64 (a1 - a0.f0))]) rfl (fun _ _ => CE.refl _) rfl) (o1 c6 (oT c7 (oc C8 (o1 c9 (o1 (GE.lit 1 (eI .i64) 0 [(w64 (a1 - 1))] (by intro x; rfl)) (o1 c10 (o1 (GE.app (e := (eI .i64)) (d := 0) (([] : List Int) ++ [(w64 (a1 - a0.f0))]) ([(w64 (a1 - 1))]) rfl (fun _ _ => CE.refl _) rfl) (o1 c6 (oF c11 (o1 (rfl : false = false) (oc C21 (o1 (eqf c22) on))))))))))))))))))))
    ·replace h := iq c9 h
     by_cases c24 : (a1.tmod a0.f0) < (w64 (a0.f0 - 1))
     ·replace h := ip c24 h
      obtain ⟨t8, g25, h⟩ := bindN h
      let C25 := mkCon (impl_isFree.ok a0 (w64 (a1 + 1)) t8 g25) impl_isFree.go
      by_cases c26 : t8 = true
      ·replace h := ip c26 h
       obtain ⟨c27, h⟩ := ifN h
       obtain ⟨t9, g28, h⟩ := bindN h
       let C28 := mkCon (impl_isFree.ok a0 (w64 (a1 + a0.f0)) t9 g28) impl_isFree.go
       by_cases c29 : t9 = true
       ·replace h := ip c29 h
        obtain ⟨c30, h⟩ := ifN h
        cases h
        exact rt func128 [.call C1, .b false, .call C3, .b true, rowe 21 (eI .i64) 0 ([(w64 (a1 - a0.f0))]), .op 22, .nil 19 321216 3 1, orow 321216 (eI .i64) 0 ([] : List Int), .aft 22, orow 321216 (eI .i64) 0 (([] : List Int) ++ [(w64 (a1 - a0.f0))]), .dec 28 true, .call C8, .b false, .dec 47 true, .call C25, .b true, rowe 56 (eI .i64) 0 ([(w64 (a1 + 1))]), .aft 57, orow 321216 (eI .i64) 0 ((([] : List Int) ++ [(w64 (a1 - a0.f0))]) ++ [(w64 (a1 + 1))]), .call C28, .b true, rowe 67 (eI .i64) 0 ([(w64 (a1 + a0.f0))]), .aft 68, orow 321216 (eI .i64) 0 (((([] : List Int) ++ [(w64 (a1 - a0.f0))]) ++ [(w64 (a1 + 1))]) ++ [(w64 (a1 + a0.f0))]), .fin] (oc C1 (o1 (bnf c2) (oc C3 (o1 c4 (o1 (GE.lit 1 (eI .i64) 0 [(w64 (a1 - a0.f0))] (by intro x; rfl)) (o1 (GE.nil (eI .i64) 0) (o1 c5 (o1 (GE.app (e := (eI .i64)) (d := 0) ([] : List Int) ([(w64 (a1 - a0.f0))]) rfl (fun _ _ => CE.refl _) rfl) (o1 c6 (oT c7 (oc C8 (o1 (eqf c9) (o1 c6 (oT c24 (oc C25 (o1 c26 (o1 (GE.lit 1 (eI .i64) 0 [(w64 (a1 + 1))] (by intro x; rfl)) (o1 c27 (o1 (GE.app (e := (eI .i64)) (d := 0) (([] : List Int) ++ [(w64 (a1 - a0.f0))]) ([(w64 (a1 + 1))]) rfl (fun _ _ => CE.refl _) rfl) (oc C28 (o1 c29 (o1 (GE.lit 1 (eI .i64) 0 [(w64 (a1 + a0.f0))] (by intro x; rfl)) (o1 c30 (o1 (GE.app (e := (eI .i64)) (d := 0) ((([] : List Int) ++ [(w64 (a1 - a0.f0))]) ++ [(w64 (a1 + 1))]) ([(w64 (a1 + a0.f0))]) rfl (fun _ _ => CE.refl _) rfl) on))))))))))))))))))))))))
       ·replace h := iq c29 h
        cases h
        exact rt func128 [.call C1, .b false, .call C3, .b true, rowe 21 (eI .i64) 0 ([(w64 (a1 - a0.f0))]), .op 22, .nil 19 321216 3 1, orow 321216 (eI .i64) 0 ([] : List Int), .aft 22, orow 321216 (eI .i64) 0 (([] : List Int) ++ [(w64 (a1 - a0.f0))]), .dec 28 true, .call C8, .b false, .dec 47 true, .call C25, .b true, rowe 56 (eI .i64) 0 ([(w64 (a1 + 1))]), .aft 57, orow 321216 (eI .i64) 0 ((([] : List Int) ++ [(w64 (a1 - a0.f0))]) ++ [(w64 (a1 + 1))]), .call C28, .b false, .fin] (oc C1 (o1 (bnf c2) (oc C3 (o1 c4 (o1 (GE.lit 1 (eI .i64) 0 [(w64 (a1 - a0.f0))] (by intro x; rfl)) (o1 (GE.nil (eI .i64) 0) (o1 c5 (o1 (GE.app (e := (eI .i64)) (d := 0) ([] : List Int) ([(w64 (a1 - a0.f0))]) rfl (fun _ _ => CE.refl _) rfl) (o1 c6 (oT c7 (oc C8 (o1 (eqf c9) (o1 c6 (oT c24 (oc C25 (o1 c26 (o1 (GE.lit 1 (eI .i64) 0 [(w64 (a1 + 1))] (by intro x; rfl)) (o1 c27 (o1 (GE.app (e := (eI .i64)) (d := 0) (([] : List Int) ++ [(w64 (a1 - a0.f0))]) ([(w64 (a1 + 1))]) rfl (fun _ _ => CE.refl _) rfl) (oc C28 (o1 (eqf c29) on)))))))))))))))))))))
      ·replace h := iq c26 h
       obtain ⟨t10, g31, h⟩ := bindN h
       let C31 := mkCon (impl_isFree.ok a0 (w64 (a1 + a0.f0)) t10 g31) impl_isFree.go
       by_cases c32 : t10 = true
       ·replace h := ip c32 h
        obtain ⟨c33, h⟩ := ifN h
        cases h
        exact rt func128 [.call C1, .b false, .call C3, .b true, rowe 21 (eI .i64) 0 ([(w64 (a1 - a0.f0))]), .op 22, .nil 19 321216 3 1, orow 321216 (eI .i64) 0 ([] : List Int), .aft 22, orow 321216 (eI .i64) 0 (([] : List Int) ++ [(w64 (a1 - a0.f0))]), .dec 28 true, .call C8, .b false, .dec 47 true, .call C25, .b false, .call C31, .b true, rowe 67 (eI .i64) 0 ([(w64 (a1 + a0.f0))]), .aft 68, orow 321216 (eI .i64) 0 ((([] : List Int) ++ [(w64 (a1 - a0.f0))]) ++ [(w64 (a1 + a0.f0))]), .fin] (oc C1 (o1 (bnf c2) (oc C3 (o1 c4 (o1 (GE.lit 1 (eI .i64) 0 [(w64 (a1 - a0.f0))] (by intro x; rfl)) (o1 (GE.nil (eI .i64) 0) (o1 c5 (o1 (GE.app (e := (eI .i64)) (d := 0) ([] : List Int) ([(w64 (a1 - a0.f0))]) rfl (fun _ _ => CE.refl _) rfl) (o1 c6 (oT c7 (oc C8 (o1 (eqf c9) (o1 c6 (oT c24 (oc C25 (o1 (eqf c26) (oc C31 (o1 c32 (o1 (GE.lit 1 (eI .i64) 0 [(w64 (a1 + a0.f0))] (by intro x; rfl)) (o1 c33 (o1 (GE.app (e := (eI .i64)) (d := 0) (([] : List Int) ++ [(w64 (a1 - a0.f0))]) ([(w64 (a1 + a0.f0))]) rfl (fun _ _ => CE.refl _) rfl) on)))))))))))))))))))))
       ·replace h := iq c32 h
        cases h
        exact rt func128 [.call C1, .b false, .call C3, .b true, rowe 21 (eI .i64) 0 ([(w64 (a1 - a0.f0))]), .op 22, .nil 19 321216 3 1, orow 321216 (eI .i64) 0 ([] : List Int), .aft 22, orow 321216 (eI .i64) 0 (([] : List Int) ++ [(w64 (a1 - a0.f0))]), .dec 28 true, .call C8, .b false, .dec 47 true, .call C25, .b false, .call C31, .b false, .fin] (oc C1 (o1 (bnf c2) (oc C3 (o1 c4 (o1 (GE.lit 1 (eI .i64) 0 [(w64 (a1 - a0.f0))] (by intro x; rfl)) (o1 (GE.nil (eI .i64) 0) (o1 c5 (o1 (GE.app (e := (eI .i64)) (d := 0) ([] : List Int) ([(w64 (a1 - a0.f0))]) rfl (fun _ _ => CE.refl _) rfl) (o1 c6 (oT c7 (oc C8 (o1 (eqf c9) (o1 c6 (oT c24 (oc C25 (o1 (eqf c26) (oc C31 (o1 (eqf c32) on))))))))))))))))))
     ·replace h := iq c24 h
      obtain ⟨t11, g34, h⟩ := bindN h
      let C34 := mkCon (impl_isFree.ok a0 (w64 (a1 + a0.f0)) t11 g34) impl_isFree.go
      by_cases c35 : t11 = true
      ·replace h := ip c35 h
       obtain ⟨c36, h⟩ := ifN h
       cases h
       exact rt func128 [.call C1, .b false, .call C3, .b true, rowe 21 (eI .i64) 0 ([(w64 (a1 - a0.f0))]), .op 22, .nil 19 321216 3 1, orow 321216 (eI .i64) 0 ([] : List Int), .aft 22, orow 321216 (eI .i64) 0 (([] : List Int) ++ [(w64 (a1 - a0.f0))]), .dec 28 true, .call C8, .b false, .dec 47 false, .b false, .call C34, .b true, rowe 67 (eI .i64) 0 ([(w64 (a1 + a0.f0))]), .aft 68, orow 321216 (eI .i64) 0 ((([] : List Int) ++ [(w64 (a1 - a0.f0))]) ++ [(w64 (a1 + a0.f0))]), .fin] (oc C1 (o1 (bnf c2) (oc C3 (o1 c4 (o1 (GE.lit 1 (eI .i64) 0 [(w64 (a1 - a0.f0))] (by intro x; rfl)) (o1 (GE.nil (eI .i64) 0) (o1 c5 (o1 (GE.app (e := (eI .i64)) (d := 0) ([] : List Int) ([(w64 (a1 - a0.f0))]) rfl (fun _ _ => CE.refl _) rfl) (o1 c6 (oT c7 (oc C8 (o1 (eqf c9) (o1 c6 (oF c24 (o1 (rfl : false = false) (oc C34 (o1 c35 (o1 (GE.lit 1 (eI .i64) 0 [(w64 (a1 + a0.f0))] (by intro x; rfl)) (o1 c36 (o1 (GE.app (e := (eI .i64)) (d := 0) (([] : List Int) ++ [(w64 (a1 - a0.f0))]) ([(w64 (a1 + a0.f0))]) rfl (fun _ _ => CE.refl _) rfl) on))))))))))))))))))))
      ·replace h := iq c35 h
       cases h
       exact rt func128 [.call C1, .b false, .call C3, .b true, rowe 21 (eI .i64) 0 ([(w64 (a1 - a0.f0))]), .op 22, .nil 19 321216 3 1, orow 321216 (eI .i64) 0 ([] : List Int), .aft 22, orow 321216 (eI .i64) 0 (([] : List Int) ++ [(w64 (a1 - a0.f0))]), .dec 28 true, .call C8, .b false, .dec 47 false, .b false, .call C34, .b false, .fin] (oc C1 (o1 (bnf c2) (oc C3 (o1 c4 (o1 (GE.lit 1 (eI .i64) 0 [(w64 (a1 - a0.f0))] (by intro x; rfl)) (o1 (GE.nil (eI .i64) 0) (o1 c5 (o1 (GE.app (e := (eI .i64)) (d := 0) ([] : List Int) ([(w64 (a1 - a0.f0))]) rfl (fun _ _ => CE.refl _) rfl) (o1 c6 (oT c7 (oc C8 (o1 (eqf c9) (o1 c6 (oF c24 (o1 (rfl : false = false) (oc C34 (o1 (eqf c35) on)))))))))))))))))
   ·replace h := iq c7 h
    by_cases c37 : (a1.tmod a0.f0) < (w64 (a0.f0 - 1))
    ·replace h := ip c37 h
     obtain ⟨t12, g38, h⟩ := bindN h
     let C38 := mkCon (impl_isFree.ok a0 (w64 (a1 + 1)) t12 g38) impl_isFree.go
     by_cases c39 : t12 = true
     ·replace h := ip c39 h
      obtain ⟨c40, h⟩ := ifN h
      obtain ⟨t13, g41, h⟩ := bindN h
      let C41 := mkCon (impl_isFree.ok a0 (w64 (a1 + a0.f0)) t13 g41) impl_isFree.go
      by_cases c42 : t13 = true
      ·replace h := ip c42 h
       obtain ⟨c43, h⟩ := ifN h
       cases h
       exact rt func128 [.call C1, .b false, .call C3, .b true, rowe 21 (eI .i64) 0 ([(w64 (a1 - a0.f0))]), .op 22, .nil 19 321216 3 1, orow 321216 (eI .i64) 0 ([] : List Int), .aft 22, orow 321216 (eI .i64) 0 (([] : List Int) ++ [(w64 (a1 - a0.f0))]), .dec 28 false, .b false, .dec 47 true, .call C38, .b true, rowe 56 (eI .i64) 0 ([(w64 (a1 + 1))]), .aft 57, orow 321216 (eI .i64) 0 ((([] : List Int) ++ [(w64 (a1 - a0.f0))]) ++ [(w64 (a1 + 1))]), .call C41, .b true, rowe 67 (eI .i64) 0 ([(w64 (a1 + a0.f0))]), .aft 68, orow 321216 (eI .i64) 0 (((([] : List Int) ++ [(w64 (a1 - a0.f0))]) ++ [(w64 (a1 + 1))]) ++ [(w64 (a1 + a0.f0))]), .fin] (oc C1 (o1 (bnf c2) (oc C3 (o1 c4 (o1 (GE.lit 1 (eI .i64) 0 [(w64 (a1 - a0.f0))] (by intro x; rfl)) (o1 (GE.nil (eI .i64) 0) (o1 c5 (o1 (GE.app (e := (eI .i64)) (d := 0) ([] : List Int) ([(w64 (a1 - a0.f0))]) rfl (fun _ _ => CE.refl _) rfl) (o1 c6 (oF c7 (o1 (rfl : false = false) (o1 c6 (oT c37 (oc C38 (o1 c39 (o1 (GE.lit 1 (eI .i64) 0 [(w64 (a1 + 1))] (by intro x; rfl)) (o1 c40 (o1 (GE.app (e := (eI .i64)) (d := 0) (([] : List Int) ++ [(w64 (a1 - a0.f0))]) ([(w64 (a1 + 1))]) rfl (fun _ _ => CE.refl _) rfl) (oc C41 (o1 c42 (o1 (GE.lit 1 (eI .i64) 0 [(w64 (a1 + a0.f0))] (by intro x; rfl)) (o1 c43 (o1 (GE.app (e := (eI .i64)) (d := 0) ((([] : List Int) ++ [(w64 (a1 - a0.f0))]) ++ [(w64 (a1 + 1))]) ([(w64 (a1 + a0.f0))]) rfl (fun _ _ => CE.refl _) rfl) on)))))))))))))))))))))))
      ·replace h := iq c42 h
       cases h
       exact rt func128 [.call C1, .b false, .call C3, .b true, rowe 21 (eI .i64) 0 ([(w64 (a1 - a0.f0))]), .op 22, .nil 19 321216 3 1, orow 321216 (eI .i64) 0 ([] : List Int), .aft 22, orow 321216 (eI .i64) 0 (([] : List Int) ++ [(w64 (a1 - a0.f0))]), .dec 28 false, .b false, .dec 47 true, .call C38, .b true, rowe 56 (eI .i64) 0 ([(w64 (a1 + 1))]), .aft 57, orow 321216 (eI .i64) 0 ((([] : List Int) ++ [(w64 (a1 - a0.f0))]) ++ [(w64 (a1 + 1))]), .call C41, .b false, .fin] (oc C1 (o1 (bnf c2) (oc C3 (o1 c4 (o1 (GE.lit 1 (eI .i64) 0 [(w64 (a1 - a0.f0))] (by intro x; rfl)) (o1 (GE.nil (eI .i64) 0) (o1 c5 (o1 (GE.app (e := (eI .i64)) (d := 0) ([] : List Int) ([(w64 (a1 - a0.f0))]) rfl (fun _ _ => CE.refl _) rfl) (o1 c6 (oF c7 (o1 (rfl : false = false) (o1 c6 (oT c37 (oc C38 (o1 c39 (o1 (GE.lit 1 (eI .i64) 0 [(w64 (a1 + 1))] (by intro x; rfl)) (o1 c40 (o1 (GE.app (e := (eI .i64)) (d := 0) (([] : List Int) ++ [(w64 (a1 - a0.f0))]) ([(w64 (a1 + 1))]) rfl (fun _ _ => CE.refl _) rfl) (oc C41 (o1 (eqf c42) on))))))))))))))))))))
     ·replace h := iq c39 h
      obtain ⟨t14, g44, h⟩ := bindN h
      let C44 := mkCon (impl_isFree.ok a0 (w64 (a1 + a0.f0)) t14 g44) impl_isFree.go
      by_cases c45 : t14 = true
      ·replace h := ip c45 h
       obtain ⟨c46, h⟩ := ifN h
       cases h
       exact rt func128 [.call C1, .b false, .call C3, .b true, rowe 21 (eI .i64) 0 ([(w64 (a1 - a0.f0))]), .op 22, .nil 19 321216 3 1, orow 321216 (eI .i64) 0 ([] : List Int), .aft 22, orow 321216 (eI .i64) 0 (([] : List Int) ++ [(w64 (a1 - a0.f0))]), .dec 28 false, .b false, .dec 47 true, .call C38, .b false, .call C44, .b true, rowe 67 (eI .i64) 0 ([(w64 (a1 + a0.f0))]), .aft 68, orow 321216 (eI .i64) 0 ((([] : List Int) ++ [(w64 (a1 - a0.f0))]) ++ [(w64 (a1 + a0.f0))]), .fin] (oc C1 (o1 (bnf c2) (oc C3 (o1 c4 (o1 (GE.lit 1 (eI .i64) 0 [(w64 (a1 - a0.f0))] (by intro x; rfl)) (o1 (GE.nil (eI .i64) 0) (o1 c5 (o1 (GE.app (e := (eI .i64)) (d := 0) ([] : List Int) ([(w64 (a1 - a0.f0))]) rfl (fun _ _ => CE.refl _) rfl) (o1 c6 (oF c7 (o1 (rfl : false = false) (o1 c6 (oT c37 (oc C38 (o1 (eqf c39) (oc C44 (o1 c45 (o1 (GE.lit 1 (eI .i64) 0 [(w64 (a1 + a0.f0))] (by intro x; rfl)) (o1 c46 (o1 (GE.app (e := (eI .i64)) (d := 0) (([] : List Int) ++ [(w64 (a1 - a0.f0))]) ([(w64 (a1 + a0.f0))]) rfl (fun _ _ => CE.refl _) rfl) on))))))))))))))))))))
      ·replace h := iq c45 h
       cases h
       exact rt func128 [.call C1, .b false, .call C3, .b true, rowe 21 (eI .i64) 0 ([(w64 (a1 - a0.f0))]), .op 22, .nil 19 321216 3 1, orow 321216 (eI .i64) 0 ([] : List Int), .aft 22, orow 321216 (eI .i64) 0 (([] : List Int) ++ [(w64 (a1 - a0.f0))]), .dec 28 false, .b false, .dec 47 true, .call C38, .b false, .call C44, .b false, .fin] (oc C1 (o1 (bnf c2) (oc C3 (o1 c4 (o1 (GE.lit 1 (eI .i64) 0 [(w64 (a1 - a0.f0))] (by intro x; rfl)) (o1 (GE.nil (eI .i64) 0) (o1 c5 (o1 (GE.app (e := (eI .i64)) (d := 0) ([] : List Int) ([(w64 (a1 - a0.f0))]) rfl (fun _ _ => CE.refl _) rfl) (o1 c6 (oF c7 (o1 (rfl : false = false) (o1 c6 (oT c37 (oc C38 (o1 (eqf c39) (oc C44 (o1 (eqf c45) on)))))))))))))))))
    ·replace h := iq c37 h
     obtain ⟨t15, g47, h⟩ := bindN h
     let C47 := mkCon (impl_isFree.ok a0 (w64 (a1 + a0.f0)) t15 g47) impl_isFree.go
     by_cases c48 : t15 = true
     ·replace h := ip c48 h
      obtain ⟨c49, h⟩ := ifN h
      cases h
      exact rt func128 [.call C1, .b false, .call C3, .b true, rowe 21 (eI .i64) 0 ([(w64 (a1 - a0.f0))]), .op 22, .nil 19 321216 3 1, orow 321216 (eI .i64) 0 ([] : List Int), .aft 22, orow 321216 (eI .i64) 0 (([] : List Int) ++ [(w64 (a1 - a0.f0))]), .dec 28 false, .b false, .dec 47 false, .b false, .call C47, .b true, rowe 67 (eI .i64) 0 ([(w64 (a1 + a0.f0))]), .aft 68, orow 321216 (eI .i64) 0 ((([] : List Int) ++ [(w64 (a1 - a0.f0))]) ++ [(w64 (a1 + a0.f0))]), .fin] (oc C1 (o1 (bnf c2) (oc C3 (o1 c4 (o1 (GE.lit 1 (eI .i64) 0 [(w64 (a1 - a0.f0))] (by intro x; rfl)) (o1 (GE.nil (eI .i64) 0) (o1 c5 (o1 (GE.app (e := (eI .i64)) (d := 0) ([] : List Int) ([(w64 (a1 - a0.f0))]) rfl (fun _ _ => CE.refl _) rfl) (o1 c6 (oF c7 (o1 (rfl : false = false) (o1 c6 (oF c37 (o1 (rfl : false = false) (oc C47 (o1 c48 (o1 (GE.lit 1 (eI .i64) 0 [(w64 (a1 + a0.f0))] (by intro x; rfl)) (o1 c49 (o1 (GE.app (e := (eI .i64)) (d := 0) (([] : List Int) ++ [(w64 (a1 - a0.f0))]) ([(w64 (a1 + a0.f0))]) rfl (fun _ _ => CE.refl _) rfl) on)))))))))))))))))))
     ·replace h := iq c48 h
      cases h
      exact rt func128 [.call C1, .b false, .call C3, .b true, rowe 21 (eI .i64) 0 ([(w64 (a1 - a0.f0))]), .op 22, .nil 19 321216 3 1, orow 321216 (eI .i64) 0 ([] : List Int), .aft 22, orow 321216 (eI .i64) 0 (([] : List Int) ++ [(w64 (a1 - a0.f0))]), .dec 28 false, .b false, .dec 47 false, .b false, .call C47, .b false, .fin] (oc C1 (o1 (bnf c2) (oc C3 (o1 c4 (o1 (GE.lit 1 (eI .i64) 0 [(w64 (a1 - a0.f0))] (by intro x; rfl)) (o1 (GE.nil (eI .i64) 0) (o1 c5 (o1 (GE.app (e := (eI .i64)) (d := 0) ([] : List Int) ([(w64 (a1 - a0.f0))]) rfl (fun _ _ => CE.refl _) rfl) (o1 c6 (oF c7 (o1 (rfl : false = false) (o1 c6 (oF c37 (o1 (rfl : false = false) (oc C47 (o1 (eqf c48) on))))))))))))))))
  ·replace h := iq c4 h
   obtain ⟨c50, h⟩ := ifN h
   by_cases c51 : 0 < (a1.tmod a0.f0)
   ·replace h := ip c51 h
    obtain ⟨t16, g52, h⟩ := bindN h
    let C52 := mkCon (impl_isFree.ok a0 (w64 (a1 - 1)) t16 g52) impl_isFree.go
    by_cases c53 : t16 = true
    ·replace h := ip c53 h
     obtain ⟨c54, h⟩ := ifN h
     by_cases c55 : (a1.tmod a0.f0) < (w64 (a0.f0 - 1))
     ·replace h := ip c55 h
      obtain ⟨t17, g56, h⟩ := bindN h
      let C56 := mkCon (impl_isFree.ok a0 (w64 (a1 + 1)) t17 g56) impl_isFree.go
      by_cases c57 : t17 = true
      ·replace h := ip c57 h
       obtain ⟨c58, h⟩ := ifN h
       obtain ⟨t18, g59, h⟩ := bindN h
       let C59 := mkCon (impl_isFree.ok a0 (w64 (a1 + a0.f0)) t18 g59) impl_isFree.go
       by_cases c60 : t18 = true
       ·replace h := ip c60 h
        obtain ⟨c61, h⟩ := ifN h
        cases h
        exact rt func128 [.call C1, .b false, .call C3, .b false, .dec 28 true, .call C52, .b true, rowe 37 (eI .i64) 0 ([(w64 (a1 - 1))]), .op 38, .nil 34 322176 3 1, orow 322176 (eI .i64) 0 ([] : List Int), .aft 38, orow 322176 (eI .i64) 0 (([] : List Int) ++ [(w64 (a1 - 1))]), .dec 47 true, .call C56, .b true, rowe 56 (eI .i64) 0 ([(w64 (a1 + 1))]), .aft 57, orow 322176 (eI .i64) 0 ((([] : List Int) ++ [(w64 (a1 - 1))]) ++ [(w64 (a1 + 1))]), .call C59, .b true, rowe 67 (eI .i64) 0 ([(w64 (a1 + a0.f0))]), .aft 68, orow 322176 (eI .i64) 0 (((([] : List Int) ++ [(w64 (a1 - 1))]) ++ [(w64 (a1 + 1))]) ++ [(w64 (a1 + a0.f0))]), .fin] (oc C1 (o1 (bnf c2) (oc C3 (o1 (eqf c4) (o1 c50 (oT c51 (oc C52 (o1 c53 (o1 (GE.lit 1 (eI .i64) 0 [(w64 (a1 - 1))] (by intro x; rfl)) (o1 (GE.nil (eI .i64) 0) (o1 c54 (o1 (GE.app (e := (eI .i64)) (d := 0) ([] : List Int) ([(w64 (a1 - 1))]) rfl (fun _ _ => CE.refl _) rfl) (o1 c50 (oT c55 (oc C56 (o1 c57 (o1 (GE.lit 1 (eI .i64) 0 [(w64 (a1 + 1))] (by intro x; rfl)) (o1 c58 (o1 (GE.app (e := (eI .i64)) (d := 0) (([] : List Int) ++ [(w64 (a1 - 1))]) ([(w64 (a1 + 1))]) rfl (fun _ _ => CE.refl _) rfl) (oc C59 (o1 c60 (o1 (GE.lit 1 (eI .i64) 0 [(w64 (a1 + a0.f0))] (by intro x; rfl)) (o1 c61 (o1 (GE.app (e := (eI .i64)) (d := 0) ((([] : List Int) ++ [(w64 (a1 - 1))]) ++ [(w64 (a1 + 1))]) ([(w64 (a1 + a0.f0))]) rfl (fun _ _ => CE.refl _) rfl) on))))))))))))))))))))))))
       ·replace h := iq c60 h
        cases h
        exact rt func128 [.call C1, .b false, .call C3, .b false, .dec 28 true, .call C52, .b true, rowe 37 (eI .i64) 0 ([(w64 (a1 - 1))]), .op 38, .nil 34 322176 3 1, orow 322176 (eI .i64) 0 ([] : List Int), .aft 38, orow 322176 (eI .i64) 0 (([] : List Int) ++ [(w64 (a1 - 1))]), .dec 47 true, .call C56, .b true, rowe 56 (eI .i64) 0 ([(w64 (a1 + 1))]), .aft 57, orow 322176 (eI .i64) 0 ((([] : List Int) ++ [(w64 (a1 - 1))]) ++ [(w64 (a1 + 1))]), .call C59, .b false, .fin] (oc C1 (o1 (bnf c2) (oc C3 (o1 (eqf c4) (o1 c50 (oT c51 (oc C52 (o1 c53 (o1 (GE.lit 1 (eI .i64) 0 [(w64 (a1 - 1))] (by intro x; rfl)) (o1 (GE.nil (eI .i64) 0) (o1 c54 (o1 (GE.app (e := (eI .i64)) (d := 0) ([] : List Int) ([(w64 (a1 - 1))]) rfl (fun _ _ => CE.refl _) rfl) (o1 c50 (oT c55 (oc C56 (o1 c57 (o1 (GE.lit 1 (eI .i64) 0 [(w64 (a1 + 1))] (by intro x; rfl)) (o1 c58 (o1 (GE.app (e := (eI .i64)) (d := 0) (([] : List Int) ++ [(w64 (a1 - 1))]) ([(w64 (a1 + 1))]) rfl (fun _ _ => CE.refl _) rfl) (oc C59 (o1 (eqf c60) on)))))))))))))))))))))
      ·replace h := iq c57 h
       obtain ⟨t19, g62, h⟩ := bindN h
       let C62 := mkCon (impl_isFree.ok a0 (w64 (a1 + a0.f0)) t19 g62) impl_isFree.go
       by_cases c63 : t19 = true
       ·replace h := ip c63 h
        obtain ⟨c64, h⟩ := ifN h
        cases h
        exact rt func128 [.call C1, .b false, .call C3, .b false, .dec 28 true, .call C52, .b true, rowe 37 (eI .i64) 0 ([(w64 (a1 - 1))]), .op 38, .nil 34 322176 3 1, orow 322176 (eI .i64) 0 ([] : List Int), .aft 38, orow 322176 (eI .i64) 0 (([] : List Int) ++ [(w64 (a1 - 1))]), .dec 47 true, .call C56, .b false, .call C62, .b true, rowe 67 (eI .i64) 0 ([(w64 (a1 + a0.f0))]), .aft 68, orow 322176 (eI .i64) 0 ((([] : List Int) ++ [(w64 (a1 - 1))]) ++ [(w64 (a1 + a0.f0))]), .fin] (oc C1 (o1 (bnf c2) (oc C3 (o1 (eqf c4) (o1 c50 (oT c51 (oc C52 (o1 c53 (o1 (GE.lit 1 (eI .i64) 0 [(w64 (a1 - 1))] (by intro x; rfl)) (o1 (GE.nil (eI .i64) 0) (o1 c54 (o1 (GE.app (e := (eI .i64)) (d := 0) ([] : List Int) ([(w64 (a1 - 1))]) rfl (fun _ _ => CE.refl _) rfl) (o1 c50 (oT c55 (oc C56 (o1 (eqf c57) (oc C62 (o1 c63 (o1 (GE.lit 1 (eI .i64) 0 [(w64 (a1 + a0.f0))] (by intro x; rfl)) (o1 c64 (o1 (GE.app (e := (eI .i64)) (d := 0) (([] : List Int) ++ [(w64 (a1 - 1))]) ([(w64 (a1 + a0.f0))]) rfl (fun _ _ => CE.refl _) rfl) on)))))))))))))))))))))
       ·replace h := iq c63 h
        cases h
        exact rt func128 [.call C1, .b false, .call C3, .b false, .dec 28 true, .call C52, .b true, rowe 37 (eI .i64) 0 ([(w64 (a1 - 1))]), .op 38, .nil 34 322176 3 1, orow 322176 (eI .i64) 0 ([] : List Int), .aft 38, orow 322176 (eI .i64) 0 (([] : List Int) ++ [(w64 (a1 - 1))]), .dec 47 true, .call C56, .b false, .call C62, .b false, .fin] (oc C1 (o1 (bnf c2) (oc C3 (o1 (eqf c4) (o1 c50 (oT c51 (oc C52 (o1 c53 (o1 (GE.lit 1 (eI .i64) 0 [(w64 (a1 - 1))] (by intro x; rfl)) (o1 (GE.nil (eI .i64) 0) (o1 c54 (o1 (GE.app (e := (eI .i64)) (d := 0) ([] : List Int) ([(w64 (a1 - 1))]) rfl (fun _ _ => CE.refl _) rfl) (o1 c50 (oT c55 (oc C56 (o1 (eqf c57) (oc C62 (o1 (eqf c63) on))))))))))))))))))
     ·replace h := iq c55 h
      obtain ⟨t20, g65, h⟩ := bindN h
      let C65 := mkCon (impl_isFree.ok a0 (w64 (a1 + a0.f0)) t20 g65) impl_isFree.go
      by_cases c66 : t20 = true
      ·replace h := ip c66 h
       obtain ⟨c67, h⟩ := ifN h
       cases h
       exact rt func128 [.call C1, .b false, .call C3, .b false, .dec 28 true, .call C52, .b true, rowe 37 (eI .i64) 0 ([(w64 (a1 - 1))]), .op 38, .nil 34 322176 3 1, orow 322176 (eI .i64) 0 ([] : List Int), .aft 38, orow 322176 (eI .i64) 0 (([] : List Int) ++ [(w64 (a1 - 1))]), .dec 47 false, .b false, .call C65, .b true, rowe 67 (eI .i64) 0 ([(w64 (a1 + a0.f0))]), .aft 68, orow 322176 (eI .i64) 0 ((([] : List Int) ++ [(w64 (a1 - 1))]) ++ [(w64 (a1 + a0.f0))]), .fin] (oc C1 (o1 (bnf c2) (oc C3 (o1 (eqf c4) (o1 c50 (oT c51 (oc C52 (o1 c53 (o1 (GE.lit 1 (eI .i64) 0 [(w64 (a1 - 1))] (by intro x; rfl)) (o1 (GE.nil (eI .i64) 0) (o1 c54 (o1 (GE.app (e := (eI .i64)) (d := 0) ([] : List Int) ([(w64 (a1 - 1))]) rfl (fun _ _ => CE.refl _) rfl) (o1 c50 (oF c55 (o1 (rfl : false = false) (oc C65 (o1 c66 (o1 (GE.lit 1 (eI .i64) 0 [(w64 (a1 + a0.f0))] (by intro x; rfl)) (o1 c67 (o1 (GE.app (e := (eI .i64)) (d := 0) (([] : List Int) ++ [(w64 (a1 - 1))]) ([(w64 (a1 + a0.f0))]) rfl (fun _ _ => CE.refl _) rfl) on))))))))))))))))))))
      ·replace h := iq c66 h
       cases h
       exact rt func128 [.call C1, .b false, .call C3, .b false, .dec 28 true, .call C52, .b true, rowe 37 (eI .i64) 0 ([(w64 (a1 - 1))]), .op 38, .nil 34 322176 3 1, orow 322176 (eI .i64) 0 ([] : List Int), .aft 38, orow 322176 (eI .i64) 0 (([] : List Int) ++ [(w64 (a1 - 1))]), .dec 47 false, .b false, .call C65, .b false, .fin] (oc C1 (o1 (bnf c2) (oc C3 (o1 (eqf c4) (o1 c50 (oT c51 (oc C52 (o1 c53 (o1 (GE.lit 1 (eI .i64) 0 [(w64 (a1 - 1))] (by intro x; rfl)) (o1 (GE.nil (eI .i64) 0) (o1 c54 (o1 (GE.app (e := (eI .i64)) (d := 0) ([] : List Int) ([(w64 (a1 - 1))]) rfl (fun _ _ => CE.refl _) rfl) (o1 c50 (oF c55 (o1 (rfl : false = false) (oc C65 (o1 (eqf c66) on)))))))))))))))))
    ·replace h := iq c53 h
     by_cases c68 : (a1.tmod a0.f0) < (w64 (a0.f0 - 1))
     ·replace h := ip c68 h
      obtain ⟨t21, g69, h⟩ := bindN h
      let C69 := mkCon (impl_isFree.ok a0 (w64 (a1 + 1)) t21 g69) impl_isFree.go
      by_cases c70 : t21 = true
      ·replace h := ip c70 h
       obtain ⟨c71, h⟩ := ifN h
       obtain ⟨t22, g72, h⟩ := bindN h
       let C72 := mkCon (impl_isFree.ok a0 (w64 (a1 + a0.f0)) t22 g72) impl_isFree.go
       by_cases c73 : t22 = true
       ·replace h := ip c73 h
        obtain ⟨c74, h⟩ := ifN h
        cases h
        exact rt func128 [.call C1, .b false, .call C3, .b false, .dec 28 true, .call C52, .b false, .dec 47 true, .call C69, .b true, rowe 56 (eI .i64) 0 ([(w64 (a1 + 1))]), .op 57, .nil 53 323392 3 1, orow 323392 (eI .i64) 0 ([] : List Int), .aft 57, orow 323392 (eI .i64) 0 (([] : List Int) ++ [(w64 (a1 + 1))]), .call C72, .b true, rowe 67 (eI .i64) 0 ([(w64 (a1 + a0.f0))]), .aft 68, orow 323392 (eI .i64) 0 ((([] : List Int) ++ [(w64 (a1 + 1))]) ++ [(w64 (a1 + a0.f0))]), .fin] (oc C1 (o1 (bnf c2) (oc C3 (o1 (eqf c4) (o1 c50 (oT c51 (oc C52 (o1 (eqf c53) (o1 c50 (oT c68 (oc C69 (o1 c70 (o1 (GE.lit 1 (eI .i64) 0 [(w64 (a1 + 1))] (by intro x; rfl)) (o1 (GE.nil (eI .i64) 0) (o1 c71 (o1 (GE.app (e := (eI .i64)) (d := 0) ([] : List Int) ([(w64 (a1 + 1))]) rfl (fun _ _ => CE.refl _) rfl) (oc C72 (o1 c73 (o1 (GE.lit 1 (eI .i64) 0 [(w64 (a1 + a0.f0))] (by intro x; rfl)) (o1 c74 (o1 (GE.app (e := (eI .i64)) (d := 0) (([] : List Int) ++ [(w64 (a1 + 1))]) ([(w64 (a1 + a0.f0))]) rfl (fun _ _ => CE.refl _) rfl) on)))))))))))))))))))))
       ·replace h := iq c73 h
        cases h
        exact rt func128 [.call C1, .b false, .call C3, .b false, .dec 28 true, .call C52, .b false, .dec 47 true, .call C69, .b true, rowe 56 (eI .i64) 0 ([(w64 (a1 + 1))]), .op 57, .nil 53 323392 3 1, orow 323392 (eI .i64) 0 ([] : List Int), .aft 57, orow 323392 (eI .i64) 0 (([] : List Int) ++ [(w64 (a1 + 1))]), .call C72, .b false, .fin] (oc C1 (o1 (bnf c2) (oc C3 (o1 (eqf c4) (o1 c50 (oT c51 (oc C52 (o1 (eqf c53) (o1 c50 (oT c68 (oc C69 (o1 c70 (o1 (GE.lit 1 (eI .i64) 0 [(w64 (a1 + 1))] (by intro x; rfl)) (o1 (GE.nil (eI .i64) 0) (o1 c71 (o1 (GE.app (e := (eI .i64)) (d := 0) ([] : List Int) ([(w64 (a1 + 1))]) rfl (fun _ _ => CE.refl _) rfl) (oc C72 (o1 (eqf c73) on))))))))))))))))))
      ·replace h := iq c70 h
       obtain ⟨t23, g75, h⟩ := bindN h
       let C75 := mkCon (impl_isFree.ok a0 (w64 (a1 + a0.f0)) t23 g75) impl_isFree.go
       by_cases c76 : t23 = true
       ·replace h := ip c76 h
        obtain ⟨c77, h⟩ := ifN h
        cases h
        exact rt func128 [.call C1, .b false, .call C3, .b false, .dec 28 true, .call C52, .b false, .dec 47 true, .call C69, .b false, .call C75, .b true, rowe 67 (eI .i64) 0 ([(w64 (a1 + a0.f0))]), .op 68, .nil 65 324160 3 1, orow 324160 (eI .i64) 0 ([] : List Int), .aft 68, orow 324160 (eI .i64) 0 (([] : List Int) ++ [(w64 (a1 + a0.f0))]), .fin] (oc C1 (o1 (bnf c2) (oc C3 (o1 (eqf c4) (o1 c50 (oT c51 (oc C52 (o1 (eqf c53) (o1 c50 (oT c68 (oc C69 (o1 (eqf c70) (oc C75 (o1 c76 (o1 (GE.lit 1 (eI .i64) 0 [(w64 (a1 + a0.f0))] (by intro x; rfl)) (o1 (GE.nil (eI .i64) 0) (o1 c77 (o1 (GE.app (e := (eI .i64)) (d := 0) ([] : List Int) ([(w64 (a1 + a0.f0))]) rfl (fun _ _ => CE.refl _) rfl) on))))))))))))))))))
       ·replace h := iq c76 h
        cases h
        exact rt func128 [.call C1, .b false, .call C3, .b false, .dec 28 true, .call C52, .b false, .dec 47 true, .call C69, .b false, .call C75, .b false, .fin, .nil 4 384256 3 1, orow 384256 (eI .i64) 0 ([] : List Int)] (oc C1 (o1 (bnf c2) (oc C3 (o1 (eqf c4) (o1 c50 (oT c51 (oc C52 (o1 (eqf c53) (o1 c50 (oT c68 (oc C69 (o1 (eqf c70) (oc C75 (o1 (eqf c76) (o1 (GE.nil (eI .i64) 0) on)))))))))))))))
     ·replace h := iq c68 h
      obtain ⟨t24, g78, h⟩ := bindN h
      let C78 := mkCon (impl_isFree.ok a0 (w64 (a1 + a0.f0)) t24 g78) impl_isFree.go
      by_cases c79 : t24 = true
      ·replace h := ip c79 h
       obtain ⟨c80, h⟩ := ifN h
       cases h
       exact rt func128 [.call C1, .b false, .call C3, .b false, .dec 28 true, .call C52, .b false, .dec 47 false, .b false, .call C78, .b true, rowe 67 (eI .i64) 0 ([(w64 (a1 + a0.f0))]), .op 68, .nil 65 324160 3 1, orow 324160 (eI .i64) 0 ([] : List Int), .aft 68, orow 324160 (eI .i64) 0 (([] : List Int) ++ [(w64 (a1 + a0.f0))]), .fin] (oc C1 (o1 (bnf c2) (oc C3 (o1 (eqf c4) (o1 c50 (oT c51 (oc C52 (o1 (eqf c53) (o1 c50 (oF c68 (o1 (rfl : false = false) (oc C78 (o1 c79 (o1 (GE.lit 1 (eI .i64) 0 [(w64 (a1 + a0.f0))] (by intro x; rfl)) (o1 (GE.nil (eI .i64) 0) (o1 c80 (o1 (GE.app (e := (eI .i64)) (d := 0) ([] : List Int) ([(w64 (a1 + a0.f0))]) rfl (fun _ _ => CE.refl _) rfl) on)))))))))))))))))
      ·replace h := iq c79 h
       cases h
       exact rt func128 [.call C1, .b false, .call C3, .b false, .dec 28 true, .call C52, .b false, .dec 47 false, .b false, .call C78, .b false, .fin, .nil 4 384256 3 1, orow 384256 (eI .i64) 0 ([] : List Int)] (oc C1 (o1 (bnf c2) (oc C3 (o1 (eqf c4) (o1 c50 (oT c51 (oc C52 (o1 (eqf c53) (o1 c50 (oF c68 (o1 (rfl : false = false) (oc C78 (o1 (eqf c79) (o1 (GE.nil (eI .i64) 0) on))))))))))))))
   ·replace h := iq c51 h
    by_cases c81 : (a1.tmod a0.f0) < (w64 (a0.f0 - 1))
    ·replace h := ip c81 h
     obtain ⟨t25, g82, h⟩ := bindN h
     let C82 := mkCon (impl_isFree.ok a0 (w64 (a1 + 1)) t25 g82) impl_isFree.go
     by_cases c83 : t25 = true
     ·replace h := ip c83 h
      obtain ⟨c84, h⟩ := ifN h
      obtain ⟨t26, g85, h⟩ := bindN h
      let C85 := mkCon (impl_isFree.ok a0 (w64 (a1 + a0.f0)) t26 g85) impl_isFree.go
      by_cases c86 : t26 = true
      ·replace h := ip c86 h
       obtain ⟨c87, h⟩ := ifN h
       cases h
       exact rt func128 [.call C1, .b false, .call C3, .b false, .dec 28 false, .b false, .dec 47 true, .call C82, .b true, rowe 56 (eI .i64) 0 ([(w64 (a1 + 1))]), .op 57, .nil 53 323392 3 1, orow 323392 (eI .i64) 0 ([] : List Int), .aft 57, orow 323392 (eI .i64) 0 (([] : List Int) ++ [(w64 (a1 + 1))]), .call C85, .b true, rowe 67 (eI .i64) 0 ([(w64 (a1 + a0.f0))]), .aft 68, orow 323392 (eI .i64) 0 ((([] : List Int) ++ [(w64 (a1 + 1))]) ++ [(w64 (a1 + a0.f0))]), .fin] (oc C1 (o1 (bnf c2) (oc C3 (o1 (eqf c4) (o1 c50 (oF c51 (o1 (rfl : false = false) (o1 c50 (oT c81 (oc C82 (o1 c83 (o1 (GE.lit 1 (eI .i64) 0 [(w64 (a1 + 1))] (by intro x; rfl)) (o1 (GE.nil (eI .i64) 0) (o1 c84 (o1 (GE.app (e := (eI .i64)) (d := 0) ([] : List Int) ([(w64 (a1 + 1))]) rfl (fun _ _ => CE.refl _) rfl) (oc C85 (o1 c86 (o1 (GE.lit 1 (eI .i64) 0 [(w64 (a1 + a0.f0))] (by intro x; rfl)) (o1 c87 (o1 (GE.app (e := (eI .i64)) (d := 0) (([] : List Int) ++ [(w64 (a1 + 1))]) ([(w64 (a1 + a0.f0))]) rfl (fun _ _ => CE.refl _) rfl) on))))))))))))))))))))
      ·replace h := iq c86 h
       cases h
       exact rt func128 [.call C1, .b false, .call C3, .b false, .dec 28 false, .b false, .dec 47 true, .call C82, .b true, rowe 56 (eI .i64) 0 ([(w64 (a1 + 1))]), .op 57, .nil 53 323392 3 1, orow 323392 (eI .i64) 0 ([] : List Int), .aft 57, orow 323392 (eI .i64) 0 (([] : List Int) ++ [(w64 (a1 + 1))]), .call C85, .b false, .fin] (oc C1 (o1 (bnf c2) (oc C3 (o1 (eqf c4) (o1 c50 (oF c51 (o1 (rfl : false = false) (o1 c50 (oT c81 (oc C82 (o1 c83 (o1 (GE.lit 1 (eI .i64) 0 [(w64 (a1 + 1))] (by intro x; rfl)) (o1 (GE.nil (eI .i64) 0) (o1 c84 (o1 (GE.app (e := (eI .i64)) (d := 0) ([] : List Int) ([(w64 (a1 + 1))]) rfl (fun _ _ => CE.refl _) rfl) (oc C85 (o1 (eqf c86) on)))))))))))))))))
     ·replace h := iq c83 h
      obtain ⟨t27, g88, h⟩ := bindN h
      let C88 := mkCon (impl_isFree.ok a0 (w64 (a1 + a0.f0)) t27 g88) impl_isFree.go
      by_cases c89 : t27 = true
      ·replace h := ip c89 h
       obtain ⟨c90, h⟩ := ifN h
       cases h
       exact rt func128 [.call C1, .b false, .call C3, .b false, .dec 28 false, .b false, .dec 47 true, .call C82, .b false, .call C88, .b true, rowe 67 (eI .i64) 0 ([(w64 (a1 + a0.f0))]), .op 68, .nil 65 324160 3 1, orow 324160 (eI .i64) 0 ([] : List Int), .aft 68, orow 324160 (eI .i64) 0 (([] : List Int) ++ [(w64 (a1 + a0.f0))]), .fin] (oc C1 (o1 (bnf c2) (oc C3 (o1 (eqf c4) (o1 c50 (oF c51 (o1 (rfl : false = false) (o1 c50 (oT c81 (oc C82 (o1 (eqf c83) (oc C88 (o1 c89 (o1 (GE.lit 1 (eI .i64) 0 [(w64 (a1 + a0.f0))] (by intro x; rfl)) (o1 (GE.nil (eI .i64) 0) (o1 c90 (o1 (GE.app (e := (eI .i64)) (d := 0) ([] : List Int) ([(w64 (a1 + a0.f0))]) rfl (fun _ _ => CE.refl _) rfl) on)))))))))))))))))
      ·replace h := iq c89 h
       cases h
       exact rt func128 [.call C1, .b false, .call C3, .b false, .dec 28 false, .b false, .dec 47 true, .call C82, .b false, .call C88, .b false, .fin, .nil 4 384256 3 1, orow 384256 (eI .i64) 0 ([] : List Int)] (oc C1 (o1 (bnf c2) (oc C3 (o1 (eqf c4) (o1 c50 (oF c51 (o1 (rfl : false = false) (o1 c50 (oT c81 (oc C82 (o1 (eqf c83) (oc C88 (o1 (eqf c89) (o1 (GE.nil (eI .i64) 0) on))))))))))))))
    ·replace h := iq c81 h
     obtain ⟨t28, g91, h⟩ := bindN h
     let C91 := mkCon (impl_isFree.ok a0 (w64 (a1 + a0.f0)) t28 g91) impl_isFree.go
     by_cases c92 : t28 = true
     ·replace h := ip c92 h
      obtain ⟨c93, h⟩ := ifN h
      cases h
      exact rt func128 [.call C1, .b false, .call C3, .b false, .dec 28 false, .b false, .dec 47 false, .b false, .call C91, .b true, rowe 67 (eI .i64) 0 ([(w64 (a1 + a0.f0))]), .op 68, .nil 65 324160 3 1, orow 324160 (eI .i64) 0 ([] : List Int), .aft 68, orow 324160 (eI .i64) 0 (([] : List Int) ++ [(w64 (a1 + a0.f0))]), .fin] (oc C1 (o1 (bnf c2) (oc C3 (o1 (eqf c4) (o1 c50 (oF c51 (o1 (rfl : false = false) (o1 c50 (oF c81 (o1 (rfl : false = false) (oc C91 (o1 c92 (o1 (GE.lit 1 (eI .i64) 0 [(w64 (a1 + a0.f0))] (by intro x; rfl)) (o1 (GE.nil (eI .i64) 0) (o1 c93 (o1 (GE.app (e := (eI .i64)) (d := 0) ([] : List Int) ([(w64 (a1 + a0.f0))]) rfl (fun _ _ => CE.refl _) rfl) on))))))))))))))))
     ·replace h := iq c92 h
      cases h
      exact rt func128 [.call C1, .b false, .call C3, .b false, .dec 28 false, .b false, .dec 47 false, .b false, .call C91, .b false, .fin, .nil 4 384256 3 1, orow 384256 (eI .i64) 0 ([] : List Int)] (oc C1 (o1 (bnf c2) (oc C3 (o1 (eqf c4) (o1 c50 (oF c51 (o1 (rfl : false = false) (o1 c50 (oF c81 (o1 (rfl : false = false) (oc C91 (o1 (eqf c92) (o1 (GE.nil (eI .i64) 0) on)))))))))))))
 ·replace h := iq c2 h
  cases h
  exact rt func128 [.call C1, .b true, .fin, .nil 4 384256 3 1, orow 384256 (eI .i64) 0 ([] : List Int)] (oc C1 (oN c2 (o1 (GE.nil (eI .i64) 0) on)))
def impl_Around.f (k : Nat) (a0 : S24) (a1 : Int) : Option (List Int) := (impl_GridOk.f k a0).bind fun t1 => if t1 = true then ((impl_around.f a0 a1).bind fun t2 => some t2) else (some ([] : List Int))
theorem impl_Around.go : Callable prog 121 := ⟨_, func121, by kernel_rfl, rfl⟩
theorem impl_Around.ok (k : Nat) (a0 : S24) (a1 : Int) (r : (List Int)) (h : impl_Around.f k a0 a1 = some r) : VCalls prog 121 [.agg (e24 a0), .c (iI a1)] [.c (.own 3 1 r.length (fun j => (eI .i64) (r.getD j 0)))] := by
 unfold impl_Around.f at h
 refine VCalls.of (fn := f121) (N := 11) func121 rfl rfl (fun w0 => ?_)
 obtain ⟨t1, g1, h⟩ := bindN h
 let C1 := mkCon (impl_GridOk.ok k a0 t1 g1) impl_GridOk.go
 by_cases c2 : t1 = true
 ·replace h := ip c2 h
  obtain ⟨t2, g3, h⟩ := bindN h
  let C3 := mkCon (impl_around.ok a0 a1 t2 g3) impl_around.go
  cases h
  exact rt func121 [.call C1, .b false, .call C3, .fin] (oc C1 (o1 (bnf c2) (oc C3 on)))
 ·replace h := iq c2 h
  cases h
  exact rt func121 [.call C1, .b true, .fin, .nil 4 384256 3 1, orow 384256 (eI .i64) 0 ([] : List Int)] (oc C1 (oN c2 (o1 (GE.nil (eI .i64) 0) on)))
def slices_Index_int_int.h0T (a0 : List Int) (a1 : Int) (v1 : Int) : List (Nat × AV) := [(0, .t (.c (.p false (R 1 (eI .i64) 0 a0)))), (1, .t (.c (.p false (iI a1)))), (7, .t (.c (.p true (.sc (.int .i64 (a0.length : Int)))))), (8, .t (.c (.p true (iI v1))))]
def slices_Index_int_int.h0H (a0 : List Int) (a1 : Int) (v1 : Int) : List (Nat × Content) := []
def slices_Index_int_int.l0 : Nat → List Int → Int → Int → Option Int
 | 0, _, _, _ => none
 | kq + 1, a0, a1, v1 => if v1 < (a0.length : Int) then (if 0 ≤ v1 then (if a1 = (rdD 0 a0 v1) then (some v1) else (slices_Index_int_int.l0 kq a0 a1 (w64 (v1 + 1)))) else none) else (some (-1))
def slices_Index_int_int.f (k : Nat) (a0 : List Int) (a1 : Int) : Option Int := slices_Index_int_int.l0 k a0 a1 0
theorem slices_Index_int_int.go : Callable prog 112 := ⟨_, func112, by kernel_rfl, rfl⟩
theorem slices_Index_int_int.ok (k : Nat) (a0 : List Int) (a1 : Int) (r : Int) (h : slices_Index_int_int.f k a0 a1 = some r) : VCalls prog 112 [.c (R 1 (eI .i64) 0 a0), .c (iI a1)] [.c (.p (iI r))] := by
 unfold slices_Index_int_int.f at h
 refine VCalls.of (fn := f112) (N := 19) func112 rfl rfl (fun w0 => ?_)
 have H0 : ∀ (kq : Nat) (v1 : Int), slices_Index_int_int.l0 kq a0 a1 v1 = some r → AG prog 112 19 [.c (.p (iI r))] w0 (headStk (codeOf f112) 0) (mkFS (slices_Index_int_int.h0T a0 a1 v1) (slices_Index_int_int.h0H a0 a1 v1)) := by
  intro kq
  induction kq with
  | zero => intro v1 h; cases h
  | succ kq ih =>
    intro v1 h
    rw [slices_Index_int_int.l0] at h
    by_cases c3 : v1 < (a0.length : Int)
    ·replace h := ip c3 h
     obtain ⟨c4, h⟩ := ifN h
     by_cases c5 : a1 = (rdD 0 a0 v1)
     ·replace h := ip c5 h
      cases h
      exact rt func112 [.b true, .b true, .fin] (oT c3 (o1 c4 (o1 c3 (oT c5 on))))
     ·replace h := iq c5 h
      exact hd func112 [.b true, .b false, .fin] (oT c3 (o1 c4 (o1 c3 (oF c5 on)))) (ih (w64 (v1 + 1)) h)
    ·replace h := iq c3 h
     cases h
     exact rt func112 [.b false, .fin, .fin] (oF c3 on)
 exact hd func112 [.fin] on (H0 k 0 h)
def slices_Contains_int_int.f (k : Nat) (a0 : List Int) (a1 : Int) : Option Bool := (slices_Index_int_int.f k a0 a1).bind fun t1 => some (decide (0 ≤ t1))
theorem slices_Contains_int_int.go : Callable prog 61 := ⟨_, func61, by kernel_rfl, rfl⟩
theorem slices_Contains_int_int.ok (k : Nat) (a0 : List Int) (a1 : Int) (r : Bool) (h : slices_Contains_int_int.f k a0 a1 = some r) : VCalls prog 61 [.c (R 1 (eI .i64) 0 a0), .c (iI a1)] [.c (.p (.sc (.bool r)))] := by
 unfold slices_Contains_int_int.f at h
 refine VCalls.of (fn := f61) (N := 9) func61 rfl rfl (fun w0 => ?_)
 obtain ⟨t1, g1, h⟩ := bindN h
 let C1 := mkCon (slices_Index_int_int.ok k a0 a1 t1 g1) slices_Index_int_int.go
 cases h
 exact rt func61 [.call C1, .fin] (oc C1 on)
def impl_Beside.f (k : Nat) (a0 : S24) (a1 : Int) (a2 : Int) : Option Bool := (impl_Around.f k a0 a1).bind fun t1 => (slices_Contains_int_int.f k t1 a2).bind fun t2 => some t2
theorem impl_Beside.go : Callable prog 87 := ⟨_, func87, by kernel_rfl, rfl⟩
theorem impl_Beside.ok (k : Nat) (a0 : S24) (a1 : Int) (a2 : Int) (r : Bool) (h : impl_Beside.f k a0 a1 a2 = some r) : VCalls prog 87 [.agg (e24 a0), .c (iI a1), .c (iI a2)] [.c (.p (.sc (.bool r)))] := by
 unfold impl_Beside.f at h
 refine VCalls.of (fn := f87) (N := 12) func87 rfl rfl (fun w0 => ?_)
 obtain ⟨t1, g1, h⟩ := bindN h
 let C1 := mkCon (impl_Around.ok k a0 a1 t1 g1) impl_Around.go
 obtain ⟨t2, g2, h⟩ := bindN h
 let C2 := mkCon (slices_Contains_int_int.ok k t1 a2 t2 g2) slices_Contains_int_int.go
 cases h
 exact rt func87 [.call C1, .call C2, .fin] (oc C1 (oc C2 on))
def impl_heldBy.f (a0 : S51) : Option (List Int) := if a0.f2 < 0 then (some ([a0.f1])) else (some ([a0.f1, a0.f2]))
theorem impl_heldBy.go : Callable prog 59 := ⟨_, func59, by kernel_rfl, rfl⟩
theorem impl_heldBy.ok (a0 : S51) (r : (List Int)) (h : impl_heldBy.f a0 = some r) : VCalls prog 59 [.agg (e51 a0)] [.c (.own 3 1 r.length (fun j => (eI .i64) (r.getD j 0)))] := by
 unfold impl_heldBy.f at h
 refine VCalls.of (fn := f59) (N := 14) func59 rfl rfl (fun w0 => ?_)
 by_cases c1 : a0.f2 < 0
 ·replace h := ip c1 h
  cases h
  exact rt func59 [.b true, rowe 8 (eI .i64) 0 ([a0.f1]), .fin] (oT c1 (o1 (GE.lit 1 (eI .i64) 0 [a0.f1] (by intro x; rfl)) on))
 ·replace h := iq c1 h
  cases h
  exact rt func59 [.b false, rowe 13 (eI .i64) 0 ([a0.f1, a0.f2]), .fin] (oF c1 (o1 (GE.lit 1 (eI .i64) 0 [a0.f1, a0.f2] (by intro x; rfl)) on))
def impl_areApart.h1T (a0 : List S51) (v48 : Int) (t49 : List Int) (v61 : Int) (v59 : Nat) (v60 : List Int) : List (Nat × AV) := [(3, .t (.c (.h 512))), (5, .ptr 320 0), (9, .t (.c (.p false (R 4 e51 z51 a0)))), (10, .t (.c (.p true (.sc (.int .i64 (a0.length : Int)))))), (11, .t (.c (.p true (iI v48)))), (16, .t (.c (.h 1024))), (17, .t (.c (.p true (.sc (.int .i64 (t49.length : Int)))))), (18, .t (.c (.p true (iI v61))))]
noncomputable def impl_areApart.h1H (a0 : List S51) (v48 : Int) (t49 : List Int) (v61 : Int) (v59 : Nat) (v60 : List Int) : List (Nat × Content) := [(320, .box 51 [.p false (.sc (.int .i64 ((rdD z51 a0 v48).f0))), .p false (.sc (.int .i64 ((rdD z51 a0 v48).f1))), .p false (.sc (.int .i64 ((rdD z51 a0 v48).f2))), .p false (.sc (.bool ((rdD z51 a0 v48).f3)))]), (512, .set prog 3 4 v59 v60), (1024, .row 3 1 t49.length (fun j => (eI .i64) (t49.getD j 0)) true)]
def impl_areApart.x1T (a0 : List S51) (v48 : Int) (y62 : Nat × (List Int)) : List (Nat × AV) := [(3, .t (.c (.h 512))), (9, .t (.c (.p false (R 4 e51 z51 a0)))), (10, .t (.c (.p true (.sc (.int .i64 (a0.length : Int)))))), (11, .t (.c (.p true (iI v48))))]
noncomputable def impl_areApart.x1H (a0 : List S51) (v48 : Int) (y62 : Nat × (List Int)) : List (Nat × Content) := [(512, .set prog 3 4 y62.1 y62.2)]
def impl_areApart.l1 : Nat → List Int → List S51 → Int → Nat → List Int → Int → Option (Bool ⊕ (Nat × (List Int)))
 | 0, _, _, _, _, _, _ => none
 | kq + 1, t49, a0, v48, v59, v60, v61 => if v61 < (t49.length : Int) then (if 0 ≤ v61 then (if v61 = 1 then (if (rdD 0 t49 v61) = (rdD z51 a0 v48).f1 then (impl_areApart.l1 kq t49 a0 v48 v59 v60 (w64 (v61 + 1))) else (if (Lit.int .i64 (rdD 0 t49 v61)).wf = true then (if (List.contains v60 (rdD 0 t49 v61)) = true then (some (.inl false)) else (if v59 < maxLen then (impl_areApart.l1 kq t49 a0 v48 (v59 + 1) ((rdD 0 t49 v61) :: v60) (w64 (v61 + 1))) else none)) else none)) else (if (Lit.int .i64 (rdD 0 t49 v61)).wf = true then (if (List.contains v60 (rdD 0 t49 v61)) = true then (some (.inl false)) else (if v59 < maxLen then (impl_areApart.l1 kq t49 a0 v48 (v59 + 1) ((rdD 0 t49 v61) :: v60) (w64 (v61 + 1))) else none)) else none)) else none) else (some (.inr (v59, v60)))
def impl_areApart.h0T (a0 : List S51) (v48 : Int) (v46 : Nat) (v47 : List Int) : List (Nat × AV) := [(3, .t (.c (.h 512))), (9, .t (.c (.p false (R 4 e51 z51 a0)))), (10, .t (.c (.p true (.sc (.int .i64 (a0.length : Int)))))), (11, .t (.c (.p true (iI v48))))]
noncomputable def impl_areApart.h0H (a0 : List S51) (v48 : Int) (v46 : Nat) (v47 : List Int) : List (Nat × Content) := [(512, .set prog 3 4 v46 v47)]
def impl_areApart.l0 : Nat → List S51 → Nat → List Int → Int → Option Bool
 | 0, _, _, _, _ => none
 | kq + 1, a0, v46, v47, v48 => if v48 < (a0.length : Int) then (if 0 ≤ v48 then ((impl_heldBy.f (rdD z51 a0 v48)).bind fun t49 => (impl_areApart.l1 kq t49 a0 v48 v46 v47 0).bind fun x200 => match x200 with | .inl r => some r | .inr y62 => (impl_areApart.l0 kq a0 y62.1 y62.2 (w64 (v48 + 1)))) else none) else (some true)
def impl_areApart.f (k : Nat) (a0 : List S51) : Option Bool := impl_areApart.l0 k a0 0 ([] : List Int) 0
theorem impl_areApart.go : Callable prog 88 := ⟨_, func88, by kernel_rfl, rfl⟩
theorem impl_areApart.ok (k : Nat) (a0 : List S51) (r : Bool) (h : impl_areApart.f k a0 = some r) : VCalls prog 88 [.c (R 4 e51 z51 a0)] [.c (.p (.sc (.bool r)))] := by
 unfold impl_areApart.f at h
 refine VCalls.of (fn := f88) (N := 38) func88 rfl rfl (fun w0 => ?_)
 have H0 : ∀ (kq : Nat) (v46 : Nat) (v47 : List Int) (v48 : Int), impl_areApart.l0 kq a0 v46 v47 v48 = some r → AG prog 88 38 [.c (.p (.sc (.bool r)))] w0 (headStk (codeOf f88) 0) (mkFS (impl_areApart.h0T a0 v48 v46 v47) (impl_areApart.h0H a0 v48 v46 v47)) := by
  intro kq
  induction kq with
  | zero => intro v46 v47 v48 h; cases h
  | succ kq ih =>
    intro v46 v47 v48 h
    rw [impl_areApart.l0] at h
    by_cases c150 : v48 < (a0.length : Int)
    ·replace h := ip c150 h
     obtain ⟨c151, h⟩ := ifN h
     obtain ⟨t49, g152, h⟩ := bindN h
     let C152 := mkCon (impl_heldBy.ok (rdD z51 a0 v48) t49 g152) impl_heldBy.go
     have H1 : ∀ (kq : Nat) (v59 : Nat) (v60 : List Int) (v61 : Int) (x : (Bool ⊕ (Nat × (List Int)))), impl_areApart.l1 kq t49 a0 v48 v59 v60 v61 = some x → (match x with | .inl r' => r' = r | .inr y62 => AG prog 88 38 [.c (.p (.sc (.bool r)))] w0 (exitStk (codeOf f88) 1) (mkFS (impl_areApart.x1T a0 v48 y62) (impl_areApart.x1H a0 v48 y62))) → AG prog 88 38 [.c (.p (.sc (.bool r)))] w0 (headStk (codeOf f88) 1) (mkFS (impl_areApart.h1T a0 v48 t49 v61 v59 v60) (impl_areApart.h1H a0 v48 t49 v61 v59 v60)) := by
      intro kq
      induction kq with
      | zero => intro v59 v60 v61 x h hx; cases h
      | succ kq ih =>
        intro v59 v60 v61 x h hx
        rw [impl_areApart.l1] at h
        by_cases c190 : v61 < (t49.length : Int)
        ·replace h := ip c190 h
         obtain ⟨c191, h⟩ := ifN h
         by_cases c192 : v61 = 1
         ·replace h := ip c192 h
          by_cases c193 : (rdD 0 t49 v61) = (rdD z51 a0 v48).f1
          ·replace h := ip c193 h
           exact hd func88 [.b true, .dec 25 true, .b true, .fin, .fin] (oT c190 (o1 c191 (o1 c190 (oT c192 (oT c193 on))))) (ih v59 v60 (w64 (v61 + 1)) _ h hx)
          ·replace h := iq c193 h
           obtain ⟨c194, h⟩ := ifN h
           by_cases c195 : (List.contains v60 (rdD 0 t49 v61)) = true
           ·replace h := ip c195 h
            cases h
            subst hx
            exact rt func88 [.b true, .dec 25 true, .b false, .b true, .fin] (oT c190 (o1 c191 (o1 c190 (oT c192 (oF c193 (o1 (rfl : prog = prog) (o1 c194 (o1 c195 on))))))))
           ·replace h := iq c195 h
            obtain ⟨c196, h⟩ := ifN h
            exact hd func88 [.b true, .dec 25 true, .b false, .b false, .fin] (oT c190 (o1 c191 (o1 c190 (oT c192 (oF c193 (o1 (rfl : prog = prog) (o1 c194 (o1 (eqf c195) (o1 (rfl : prog = prog) (o1 c196 (o1 c194 on))))))))))) (ih (v59 + 1) ((rdD 0 t49 v61) :: v60) (w64 (v61 + 1)) _ h hx)
         ·replace h := iq c192 h
          obtain ⟨c197, h⟩ := ifN h
          by_cases c198 : (List.contains v60 (rdD 0 t49 v61)) = true
          ·replace h := ip c198 h
           cases h
           subst hx
           exact rt func88 [.b true, .dec 25 false, .b false, .b true, .fin] (oT c190 (o1 c191 (o1 c190 (oF c192 (o1 (rfl : false = false) (o1 (rfl : prog = prog) (o1 c197 (o1 c198 on))))))))
          ·replace h := iq c198 h
           obtain ⟨c199, h⟩ := ifN h
           exact hd func88 [.b true, .dec 25 false, .b false, .b false, .fin] (oT c190 (o1 c191 (o1 c190 (oF c192 (o1 (rfl : false = false) (o1 (rfl : prog = prog) (o1 c197 (o1 (eqf c198) (o1 (rfl : prog = prog) (o1 c199 (o1 c197 on))))))))))) (ih (v59 + 1) ((rdD 0 t49 v61) :: v60) (w64 (v61 + 1)) _ h hx)
        ·replace h := iq c190 h
         cases h
         exact st func88 [.b false, .fin] (oF c190 on) hx
     obtain ⟨x200, g200, h⟩ := bindN h
     cases x200 with
     | inl r' =>
       exact hd func88 [.b true, .call C152, .fin] (oT c150 (o1 c151 (o1 c150 (oc C152 on)))) (H1 kq v46 v47 0 _ g200 (Option.some.inj h))
     | inr y62 =>
       refine hd func88 [.b true, .call C152, .fin] (oT c150 (o1 c151 (o1 c150 (oc C152 on)))) (H1 kq v46 v47 0 _ g200 ?_)
       show AG prog 88 38 [.c (.p (.sc (.bool r)))] w0 (exitStk (codeOf f88) 1) (mkFS (impl_areApart.x1T a0 v48 y62) (impl_areApart.x1H a0 v48 y62))
       exact hd func88 [.fin] on (ih y62.1 y62.2 (w64 (v48 + 1)) h)
    ·replace h := iq c150 h
     cases h
     exact rt func88 [.b false, .fin, .fin] (oF c150 on)
 exact hd func88 [.fin] on (H0 k 0 ([] : List Int) 0 h)
def impl_RobotsOk.h0T (a1 : List S51) (v3 : Int) (a0 : S24) : List (Nat × AV) := [(1, .t (.c (.p false (R 4 e51 z51 a1)))), (2, .ptr 128 0), (15, .t (.c (.p false (R 4 e51 z51 a1)))), (16, .t (.c (.p true (.sc (.int .i64 (a1.length : Int)))))), (17, .t (.c (.p true (iI v3))))]
def impl_RobotsOk.h0H (a1 : List S51) (v3 : Int) (a0 : S24) : List (Nat × Content) := [(128, .box 24 [.p false (iI a0.f0), .p false (iI a0.f1), .p false (.sc (.string a0.f2))])]
def impl_RobotsOk.l0 : Nat → List S51 → S24 → Int → Option Bool
 | 0, _, _, _ => none
 | kq + 1, a1, a0, v3 => if v3 < (a1.length : Int) then (if 0 ≤ v3 then (if (rdD z51 a1 v3).f0 < 0 then (some false) else (if 99 < (rdD z51 a1 v3).f0 then (some false) else (if 0 < v3 then (if 0 ≤ (w64 (v3 - 1)) then (if (w64 (v3 - 1)) < (a1.length : Int) then (if (rdD z51 a1 v3).f0 ≤ (rdD z51 a1 (w64 (v3 - 1))).f0 then (some false) else ((impl_isFree.f a0 ((rdD z51 a1 v3).f1)).bind fun t4 => if t4 = true then (if (rdD z51 a1 v3).f2 = (-1) then (impl_RobotsOk.l0 kq a1 a0 (w64 (v3 + 1))) else ((impl_Beside.f kq a0 ((rdD z51 a1 v3).f1) ((rdD z51 a1 v3).f2)).bind fun t5 => if t5 = true then (impl_RobotsOk.l0 kq a1 a0 (w64 (v3 + 1))) else (some false))) else (some false))) else none) else none) else ((impl_isFree.f a0 ((rdD z51 a1 v3).f1)).bind fun t6 => if t6 = true then (if (rdD z51 a1 v3).f2 = (-1) then (impl_RobotsOk.l0 kq a1 a0 (w64 (v3 + 1))) else ((impl_Beside.f kq a0 ((rdD z51 a1 v3).f1) ((rdD z51 a1 v3).f2)).bind fun t7 => if t7 = true then (impl_RobotsOk.l0 kq a1 a0 (w64 (v3 + 1))) else (some false))) else (some false))))) else none) else ((impl_areApart.f kq a1).bind fun t8 => some t8)
def impl_RobotsOk.f (k : Nat) (a0 : S24) (a1 : List S51) : Option Bool := (impl_GridOk.f k a0).bind fun t1 => if t1 = true then (if 10 < (a1.length : Int) then (some false) else (impl_RobotsOk.l0 k a1 a0 0)) else (some false)
theorem impl_RobotsOk.go : Callable prog 47 := ⟨_, func47, by kernel_rfl, rfl⟩
theorem impl_RobotsOk.ok (k : Nat) (a0 : S24) (a1 : List S51) (r : Bool) (h : impl_RobotsOk.f k a0 a1 = some r) : VCalls prog 47 [.agg (e24 a0), .c (R 4 e51 z51 a1)] [.c (.p (.sc (.bool r)))] := by
 unfold impl_RobotsOk.f at h
 refine VCalls.of (fn := f47) (N := 69) func47 rfl rfl (fun w0 => ?_)
 obtain ⟨t1, g1, h⟩ := bindN h
 let C1 := mkCon (impl_GridOk.ok k a0 t1 g1) impl_GridOk.go
 by_cases c2 : t1 = true
 ·replace h := ip c2 h
  by_cases c3 : 10 < (a1.length : Int)
  ·replace h := ip c3 h
   cases h
   exact rt func47 [.call C1, .dec 10 false, .b true, .fin] (oc C1 (o1 (bnf c2) (oT c3 on)))
  ·replace h := iq c3 h
   have H0 : ∀ (kq : Nat) (v3 : Int), impl_RobotsOk.l0 kq a1 a0 v3 = some r → AG prog 47 69 [.c (.p (.sc (.bool r)))] w0 (headStk (codeOf f47) 0) (mkFS (impl_RobotsOk.h0T a1 v3 a0) (impl_RobotsOk.h0H a1 v3 a0)) := by
    intro kq
    induction kq with
    | zero => intro v3 h; cases h
    | succ kq ih =>
      intro v3 h
      rw [impl_RobotsOk.l0] at h
      by_cases c14 : v3 < (a1.length : Int)
      ·replace h := ip c14 h
       obtain ⟨c15, h⟩ := ifN h
       by_cases c16 : (rdD z51 a1 v3).f0 < 0
       ·replace h := ip c16 h
        cases h
        exact rt func47 [.b true, .dec 25 true, .b true, .fin] (oT c14 (o1 c15 (o1 c14 (oT c16 (oR on)))))
       ·replace h := iq c16 h
        by_cases c17 : 99 < (rdD z51 a1 v3).f0
        ·replace h := ip c17 h
         cases h
         exact rt func47 [.b true, .dec 25 false, .dec 30 true, .b true, .fin] (oT c14 (o1 c15 (o1 c14 (oF c16 (oT c17 (oR on))))))
        ·replace h := iq c17 h
         by_cases c18 : 0 < v3
         ·replace h := ip c18 h
          obtain ⟨c19, h⟩ := ifN h
          obtain ⟨c20, h⟩ := ifN h
          by_cases c21 : (rdD z51 a1 v3).f0 ≤ (rdD z51 a1 (w64 (v3 - 1))).f0
          ·replace h := ip c21 h
           cases h
           exact rt func47 [.b true, .dec 25 false, .dec 30 false, .dec 33 true, .dec 45 true, .b true, .fin] (oT c14 (o1 c15 (o1 c14 (oF c16 (oF c17 (oT c18 (o1 c19 (o1 c20 (oT c21 (oR on))))))))))
          ·replace h := iq c21 h
           obtain ⟨t4, g22, h⟩ := bindN h
           let C22 := mkCon (impl_isFree.ok a0 ((rdD z51 a1 v3).f1) t4 g22) impl_isFree.go
           by_cases c23 : t4 = true
           ·replace h := ip c23 h
            by_cases c24 : (rdD z51 a1 v3).f2 = (-1)
            ·replace h := ip c24 h
             exact hd func47 [.b true, .dec 25 false, .dec 30 false, .dec 33 true, .dec 45 false, .call C22, .dec 52 false, .dec 56 false, .b false, .fin] (oT c14 (o1 c15 (o1 c14 (oF c16 (oF c17 (oT c18 (o1 c19 (o1 c20 (oF c21 (oc C22 (o1 (bnf c23) (o1 (bnf (decide_eq_true c24)) (o1 (rfl : false = false) on))))))))))))) (ih (w64 (v3 + 1)) h)
            ·replace h := iq c24 h
             obtain ⟨t5, g25, h⟩ := bindN h
             let C25 := mkCon (impl_Beside.ok kq a0 ((rdD z51 a1 v3).f1) ((rdD z51 a1 v3).f2) t5 g25) impl_Beside.go
             by_cases c26 : t5 = true
             ·replace h := ip c26 h
              exact hd func47 [.b true, .dec 25 false, .dec 30 false, .dec 33 true, .dec 45 false, .call C22, .dec 52 false, .dec 56 true, .call C25, .b false, .fin] (oT c14 (o1 c15 (o1 c14 (oF c16 (oF c17 (oT c18 (o1 c19 (o1 c20 (oF c21 (oc C22 (o1 (bnf c23) (o1 (bnt (decide_eq_false c24)) (oc C25 (o1 (bnf c26) on)))))))))))))) (ih (w64 (v3 + 1)) h)
             ·replace h := iq c26 h
              cases h
              exact rt func47 [.b true, .dec 25 false, .dec 30 false, .dec 33 true, .dec 45 false, .call C22, .dec 52 false, .dec 56 true, .call C25, .b true, .fin] (oT c14 (o1 c15 (o1 c14 (oF c16 (oF c17 (oT c18 (o1 c19 (o1 c20 (oF c21 (oc C22 (o1 (bnf c23) (o1 (bnt (decide_eq_false c24)) (oc C25 (oN c26 on))))))))))))))
           ·replace h := iq c23 h
            cases h
            exact rt func47 [.b true, .dec 25 false, .dec 30 false, .dec 33 true, .dec 45 false, .call C22, .dec 52 true, .b true, .fin] (oT c14 (o1 c15 (o1 c14 (oF c16 (oF c17 (oT c18 (o1 c19 (o1 c20 (oF c21 (oc C22 (oN c23 (oR on))))))))))))
         ·replace h := iq c18 h
          obtain ⟨t6, g27, h⟩ := bindN h
          let C27 := mkCon (impl_isFree.ok a0 ((rdD z51 a1 v3).f1) t6 g27) impl_isFree.go
          by_cases c28 : t6 = true
          ·replace h := ip c28 h
           by_cases c29 : (rdD z51 a1 v3).f2 = (-1)
           ·replace h := ip c29 h
            exact hd func47 [.b true, .dec 25 false, .dec 30 false, .dec 33 false, .call C27, .dec 52 false, .dec 56 false, .b false, .fin] (oT c14 (o1 c15 (o1 c14 (oF c16 (oF c17 (oF c18 (oc C27 (o1 (bnf c28) (o1 (bnf (decide_eq_true c29)) (o1 (rfl : false = false) on)))))))))) (ih (w64 (v3 + 1)) h)
           ·replace h := iq c29 h
            obtain ⟨t7, g30, h⟩ := bindN h
            let C30 := mkCon (impl_Beside.ok kq a0 ((rdD z51 a1 v3).f1) ((rdD z51 a1 v3).f2) t7 g30) impl_Beside.go
            by_cases c31 : t7 = true
            ·replace h := ip c31 h
             exact hd func47 [.b true, .dec 25 false, .dec 30 false, .dec 33 false, .call C27, .dec 52 false, .dec 56 true, .call C30, .b false, .fin] (oT c14 (o1 c15 (o1 c14 (oF c16 (oF c17 (oF c18 (oc C27 (o1 (bnf c28) (o1 (bnt (decide_eq_false c29)) (oc C30 (o1 (bnf c31) on))))))))))) (ih (w64 (v3 + 1)) h)
            ·replace h := iq c31 h
             cases h
             exact rt func47 [.b true, .dec 25 false, .dec 30 false, .dec 33 false, .call C27, .dec 52 false, .dec 56 true, .call C30, .b true, .fin] (oT c14 (o1 c15 (o1 c14 (oF c16 (oF c17 (oF c18 (oc C27 (o1 (bnf c28) (o1 (bnt (decide_eq_false c29)) (oc C30 (oN c31 on)))))))))))
          ·replace h := iq c28 h
           cases h
           exact rt func47 [.b true, .dec 25 false, .dec 30 false, .dec 33 false, .call C27, .dec 52 true, .b true, .fin] (oT c14 (o1 c15 (o1 c14 (oF c16 (oF c17 (oF c18 (oc C27 (oN c28 (oR on)))))))))
      ·replace h := iq c14 h
       obtain ⟨t8, g32, h⟩ := bindN h
       let C32 := mkCon (impl_areApart.ok kq a1 t8 g32) impl_areApart.go
       cases h
       exact rt func47 [.b false, .fin, .call C32, .fin] (oF c14 (oc C32 on))
   exact hd func47 [.call C1, .dec 10 false, .b false, .fin] (oc C1 (o1 (bnf c2) (oF c3 on))) (H0 k 0 h)
 ·replace h := iq c2 h
  cases h
  exact rt func47 [.call C1, .dec 10 true, .b true, .fin] (oc C1 (oN c2 (oR on)))
def impl_WindowOk_1.f (a0 : Int) (a1 : S29) : Option Bool := if a0 < 0 then (some true) else (some (decide (a1.f1 < a0)))
theorem impl_WindowOk_1.go : Callable prog 89 := ⟨_, func89, by kernel_rfl, rfl⟩
theorem impl_WindowOk_1.ok (a0 : Int) (a1 : S29) (r : Bool) (h : impl_WindowOk_1.f a0 a1 = some r) : VCalls prog 89 [.c (iI a0), .ptr [.sc (.int .i64 a1.f0), .sc (.int .i64 a1.f1), R 1 (eI .i64) 0 a1.f2]] [.c (.p (.sc (.bool r)))] := by
 unfold impl_WindowOk_1.f at h
 refine VCalls.of (fn := f89) (N := 12) func89 rfl rfl (fun w0 => ?_)
 by_cases c1 : a0 < 0
 ·replace h := ip c1 h
  cases h
  exact rt func89 [.dec 6 true, .fin] (oT c1 on)
 ·replace h := iq c1 h
  cases h
  exact rt func89 [.dec 6 false, .fin] (oF c1 on)
def slices_IndexFunc_int_int_3.h0T (a0 : List Int) (gi1 : FuncId) (u1_0_0 : V) (u1_0_1 : V) (u1_0_2 : V) (v2 : Int) : List (Nat × AV) := [(0, .t (.c (.p false (R 1 (eI .i64) 0 a0)))), (1, .bfn gi1 [[u1_0_0, u1_0_1, u1_0_2]]), (7, .t (.c (.p true (.sc (.int .i64 (a0.length : Int)))))), (8, .t (.c (.p true (iI v2))))]
def slices_IndexFunc_int_int_3.h0H (a0 : List Int) (gi1 : FuncId) (u1_0_0 : V) (u1_0_1 : V) (u1_0_2 : V) (v2 : Int) : List (Nat × Content) := []
def slices_IndexFunc_int_int_3.l0 : Nat → List Int → (Int → Option Bool) → Int → Option Int
 | 0, _, _, _ => none
 | kq + 1, a0, p1, v2 => if v2 < (a0.length : Int) then (if 0 ≤ v2 then ((p1 (rdD 0 a0 v2)).bind fun t3 => if t3 = true then (some v2) else (slices_IndexFunc_int_int_3.l0 kq a0 p1 (w64 (v2 + 1)))) else none) else (some (-1))
def slices_IndexFunc_int_int_3.f (k : Nat) (a0 : List Int) (p1 : Int → Option Bool) : Option Int := slices_IndexFunc_int_int_3.l0 k a0 p1 0
theorem slices_IndexFunc_int_int_3.go : Callable prog 111 := ⟨_, func111, by kernel_rfl, rfl⟩
theorem slices_IndexFunc_int_int_3.ok (k : Nat) (a0 : List Int) (p1 : Int → Option Bool) (gi1 : FuncId) (u1_0_0 u1_0_1 u1_0_2 : V) (hp1 : ∀ x0 r, p1 x0 = some r → VCalls prog gi1 [.c (iI x0), .ptr [u1_0_0, u1_0_1, u1_0_2]] [.c (.p (.sc (.bool r)))]) (go1 : Callable prog gi1) (r : Int) (h : slices_IndexFunc_int_int_3.f k a0 p1 = some r) : VCalls prog 111 [.c (R 1 (eI .i64) 0 a0), .fn gi1 [[u1_0_0, u1_0_1, u1_0_2]]] [.c (.p (iI r))] := by
 unfold slices_IndexFunc_int_int_3.f at h
 refine VCalls.of (fn := f111) (N := 19) func111 rfl rfl (fun w0 => ?_)
 have H0 : ∀ (kq : Nat) (v2 : Int), slices_IndexFunc_int_int_3.l0 kq a0 p1 v2 = some r → AG prog 111 19 [.c (.p (iI r))] w0 (headStk (codeOf f111) 0) (mkFS (slices_IndexFunc_int_int_3.h0T a0 gi1 u1_0_0 u1_0_1 u1_0_2 v2) (slices_IndexFunc_int_int_3.h0H a0 gi1 u1_0_0 u1_0_1 u1_0_2 v2)) := by
  intro kq
  induction kq with
  | zero => intro v2 h; cases h
  | succ kq ih =>
    intro v2 h
    rw [slices_IndexFunc_int_int_3.l0] at h
    by_cases c4 : v2 < (a0.length : Int)
    ·replace h := ip c4 h
     obtain ⟨c5, h⟩ := ifN h
     obtain ⟨t3, g6, h⟩ := bindN h
     let C6 := mkCon (hp1 (rdD 0 a0 v2) t3 g6) go1
     by_cases c7 : t3 = true
     ·replace h := ip c7 h
      cases h
      exact rt func111 [.b true, .call C6, .b true, .fin] (oT c4 (o1 c5 (o1 c4 (oc C6 (o1 c7 on)))))
     ·replace h := iq c7 h
      exact hd func111 [.b true, .call C6, .b false, .fin] (oT c4 (o1 c5 (o1 c4 (oc C6 (o1 (eqf c7) on))))) (ih (w64 (v2 + 1)) h)
    ·replace h := iq c4 h
     cases h
     exact rt func111 [.b false, .fin, .fin] (oF c4 on)
 exact hd func111 [.fin] on (H0 k 0 h)
def slices_ContainsFunc_int_int_3.f (k : Nat) (a0 : List Int) (p1 : Int → Option Bool) : Option Bool := (slices_IndexFunc_int_int_3.f k a0 p1).bind fun t1 => some (decide (0 ≤ t1))
theorem slices_ContainsFunc_int_int_3.go : Callable prog 58 := ⟨_, func58, by kernel_rfl, rfl⟩
theorem slices_ContainsFunc_int_int_3.ok (k : Nat) (a0 : List Int) (p1 : Int → Option Bool) (gi1 : FuncId) (u1_0_0 u1_0_1 u1_0_2 : V) (hp1 : ∀ x0 r, p1 x0 = some r → VCalls prog gi1 [.c (iI x0), .ptr [u1_0_0, u1_0_1, u1_0_2]] [.c (.p (.sc (.bool r)))]) (go1 : Callable prog gi1) (r : Bool) (h : slices_ContainsFunc_int_int_3.f k a0 p1 = some r) : VCalls prog 58 [.c (R 1 (eI .i64) 0 a0), .fn gi1 [[u1_0_0, u1_0_1, u1_0_2]]] [.c (.p (.sc (.bool r)))] := by
 unfold slices_ContainsFunc_int_int_3.f at h
 refine VCalls.of (fn := f58) (N := 9) func58 rfl rfl (fun w0 => ?_)
 obtain ⟨t1, g1, h⟩ := bindN h
 let C1 := mkCon (slices_IndexFunc_int_int_3.ok k a0 p1 gi1 u1_0_0 u1_0_1 u1_0_2 hp1 go1 t1 g1) slices_IndexFunc_int_int_3.go
 cases h
 exact rt func58 [.call C1, .fin] (oc C1 on)
def impl_WindowOk.f (k : Nat) (a0 : S29) : Option Bool := if a0.f0 < 1 then (some false) else (if 8 < a0.f0 then (some false) else (if a0.f1 < 1 then (some false) else (if 100 < a0.f1 then (some false) else (if (a0.f2.length : Int) = (w64 (a0.f0 * 6)) then ((slices_ContainsFunc_int_int_3.f k a0.f2 (fun x6 => impl_WindowOk_1.f x6 a0)).bind fun t1 => some (!t1)) else (some false)))))
theorem impl_WindowOk.go : Callable prog 48 := ⟨_, func48, by kernel_rfl, rfl⟩
theorem impl_WindowOk.ok (k : Nat) (a0 : S29) (r : Bool) (h : impl_WindowOk.f k a0 = some r) : VCalls prog 48 [.agg (e29 a0)] [.c (.p (.sc (.bool r)))] := by
 unfold impl_WindowOk.f at h
 refine VCalls.of (fn := f48) (N := 35) func48 rfl rfl (fun w0 => ?_)
 by_cases c1 : a0.f0 < 1
 ·replace h := ip c1 h
  cases h
  exact rt func48 [.dec 6 true, .b true, .fin] (oT c1 (oR on))
 ·replace h := iq c1 h
  by_cases c2 : 8 < a0.f0
  ·replace h := ip c2 h
   cases h
   exact rt func48 [.dec 6 false, .dec 11 true, .b true, .fin] (oF c1 (oT c2 (oR on)))
  ·replace h := iq c2 h
   by_cases c3 : a0.f1 < 1
   ·replace h := ip c3 h
    cases h
    exact rt func48 [.dec 6 false, .dec 11 false, .dec 16 true, .b true, .fin] (oF c1 (oF c2 (oT c3 (oR on))))
   ·replace h := iq c3 h
    by_cases c4 : 100 < a0.f1
    ·replace h := ip c4 h
     cases h
     exact rt func48 [.dec 6 false, .dec 11 false, .dec 16 false, .dec 21 true, .b true, .fin] (oF c1 (oF c2 (oF c3 (oT c4 (oR on)))))
    ·replace h := iq c4 h
     by_cases c5 : (a0.f2.length : Int) = (w64 (a0.f0 * 6))
     ·replace h := ip c5 h
      obtain ⟨t1, g7, h⟩ := bindN h
      let C7 := mkCon (slices_ContainsFunc_int_int_3.ok k a0.f2 (fun x6 => impl_WindowOk_1.f x6 a0) 89 (iI a0.f0) (iI a0.f1) (R 1 (eI .i64) 0 a0.f2) (fun x6 r h => impl_WindowOk_1.ok x6 a0 r h) impl_WindowOk_1.go t1 g7) slices_ContainsFunc_int_int_3.go
      cases h
      exact rt func48 [.dec 6 false, .dec 11 false, .dec 16 false, .dec 21 false, .b false, .call C7, .fin] (oF c1 (oF c2 (oF c3 (oF c4 (o1 (bnf (decide_eq_true c5)) (oc C7 on))))))
     ·replace h := iq c5 h
      cases h
      exact rt func48 [.dec 6 false, .dec 11 false, .dec 16 false, .dec 21 false, .b true, .fin] (oF c1 (oF c2 (oF c3 (oF c4 (o1 (bnt (decide_eq_false c5)) on)))))
def impl_jobsOk_1.f (a0 : S53) (a1 : S32) : Option Bool := some (!decide ((a0.f0.length : Int) = (w64 (a1.f0 + 1))))
theorem impl_jobsOk_1.go : Callable prog 123 := ⟨_, func123, by kernel_rfl, rfl⟩
theorem impl_jobsOk_1.ok (a0 : S53) (a1 : S32) (r : Bool) (h : impl_jobsOk_1.f a0 a1 = some r) : VCalls prog 123 [.agg (e53 a0), .ptr [.sc (.int .i64 a1.f0), .sc (.int .i64 a1.f1), R 1 e53 z53 a1.f2]] [.c (.p (.sc (.bool r)))] := by
 unfold impl_jobsOk_1.f at h
 refine VCalls.of (fn := f123) (N := 11) func123 rfl rfl (fun w0 => ?_)
 cases h
 exact rt func123 [.fin] on
def slices_IndexFunc_impl_Way_impl_Way_3.h0T (a0 : List S53) (gi1 : FuncId) (u1_0_0 : V) (u1_0_1 : V) (u1_0_2 : V) (v2 : Int) : List (Nat × AV) := [(0, .t (.c (.p false (R 1 e53 z53 a0)))), (1, .bfn gi1 [[u1_0_0, u1_0_1, u1_0_2]]), (7, .t (.c (.p true (.sc (.int .i64 (a0.length : Int)))))), (8, .t (.c (.p true (iI v2))))]
def slices_IndexFunc_impl_Way_impl_Way_3.h0H (a0 : List S53) (gi1 : FuncId) (u1_0_0 : V) (u1_0_1 : V) (u1_0_2 : V) (v2 : Int) : List (Nat × Content) := []
def slices_IndexFunc_impl_Way_impl_Way_3.l0 : Nat → List S53 → (S53 → Option Bool) → Int → Option Int
 | 0, _, _, _ => none
 | kq + 1, a0, p1, v2 => if v2 < (a0.length : Int) then (if 0 ≤ v2 then ((p1 (rdD z53 a0 v2)).bind fun t3 => if t3 = true then (some v2) else (slices_IndexFunc_impl_Way_impl_Way_3.l0 kq a0 p1 (w64 (v2 + 1)))) else none) else (some (-1))
def slices_IndexFunc_impl_Way_impl_Way_3.f (k : Nat) (a0 : List S53) (p1 : S53 → Option Bool) : Option Int := slices_IndexFunc_impl_Way_impl_Way_3.l0 k a0 p1 0
theorem slices_IndexFunc_impl_Way_impl_Way_3.go : Callable prog 138 := ⟨_, func138, by kernel_rfl, rfl⟩
theorem slices_IndexFunc_impl_Way_impl_Way_3.ok (k : Nat) (a0 : List S53) (p1 : S53 → Option Bool) (gi1 : FuncId) (u1_0_0 u1_0_1 u1_0_2 : V) (hp1 : ∀ x0 r, p1 x0 = some r → VCalls prog gi1 [.agg (e53 x0), .ptr [u1_0_0, u1_0_1, u1_0_2]] [.c (.p (.sc (.bool r)))]) (go1 : Callable prog gi1) (r : Int) (h : slices_IndexFunc_impl_Way_impl_Way_3.f k a0 p1 = some r) : VCalls prog 138 [.c (R 1 e53 z53 a0), .fn gi1 [[u1_0_0, u1_0_1, u1_0_2]]] [.c (.p (iI r))] := by
 unfold slices_IndexFunc_impl_Way_impl_Way_3.f at h
 refine VCalls.of (fn := f138) (N := 19) func138 rfl rfl (fun w0 => ?_)
 have H0 : ∀ (kq : Nat) (v2 : Int), slices_IndexFunc_impl_Way_impl_Way_3.l0 kq a0 p1 v2 = some r → AG prog 138 19 [.c (.p (iI r))] w0 (headStk (codeOf f138) 0) (mkFS (slices_IndexFunc_impl_Way_impl_Way_3.h0T a0 gi1 u1_0_0 u1_0_1 u1_0_2 v2) (slices_IndexFunc_impl_Way_impl_Way_3.h0H a0 gi1 u1_0_0 u1_0_1 u1_0_2 v2)) := by
  intro kq
  induction kq with
  | zero => intro v2 h; cases h
  | succ kq ih =>
    intro v2 h
    rw [slices_IndexFunc_impl_Way_impl_Way_3.l0] at h
    by_cases c4 : v2 < (a0.length : Int)
    ·replace h := ip c4 h
     obtain ⟨c5, h⟩ := ifN h
     obtain ⟨t3, g6, h⟩ := bindN h
     let C6 := mkCon (hp1 (rdD z53 a0 v2) t3 g6) go1
     by_cases c7 : t3 = true
     ·replace h := ip c7 h
      cases h
      exact rt func138 [.b true, .call C6, .b true, .fin] (oT c4 (o1 c5 (o1 c4 (oc C6 (o1 c7 on)))))
     ·replace h := iq c7 h
      exact hd func138 [.b true, .call C6, .b false, .fin] (oT c4 (o1 c5 (o1 c4 (oc C6 (o1 (eqf c7) on))))) (ih (w64 (v2 + 1)) h)
    ·replace h := iq c4 h
     cases h
     exact rt func138 [.b false, .fin, .fin] (oF c4 on)
 exact hd func138 [.fin] on (H0 k 0 h)
def slices_ContainsFunc_impl_Way_impl_Way_3.f (k : Nat) (a0 : List S53) (p1 : S53 → Option Bool) : Option Bool := (slices_IndexFunc_impl_Way_impl_Way_3.f k a0 p1).bind fun t1 => some (decide (0 ≤ t1))
theorem slices_ContainsFunc_impl_Way_impl_Way_3.go : Callable prog 122 := ⟨_, func122, by kernel_rfl, rfl⟩
theorem slices_ContainsFunc_impl_Way_impl_Way_3.ok (k : Nat) (a0 : List S53) (p1 : S53 → Option Bool) (gi1 : FuncId) (u1_0_0 u1_0_1 u1_0_2 : V) (hp1 : ∀ x0 r, p1 x0 = some r → VCalls prog gi1 [.agg (e53 x0), .ptr [u1_0_0, u1_0_1, u1_0_2]] [.c (.p (.sc (.bool r)))]) (go1 : Callable prog gi1) (r : Bool) (h : slices_ContainsFunc_impl_Way_impl_Way_3.f k a0 p1 = some r) : VCalls prog 122 [.c (R 1 e53 z53 a0), .fn gi1 [[u1_0_0, u1_0_1, u1_0_2]]] [.c (.p (.sc (.bool r)))] := by
 unfold slices_ContainsFunc_impl_Way_impl_Way_3.f at h
 refine VCalls.of (fn := f122) (N := 9) func122 rfl rfl (fun w0 => ?_)
 obtain ⟨t1, g1, h⟩ := bindN h
 let C1 := mkCon (slices_IndexFunc_impl_Way_impl_Way_3.ok k a0 p1 gi1 u1_0_0 u1_0_1 u1_0_2 hp1 go1 t1 g1) slices_IndexFunc_impl_Way_impl_Way_3.go
 cases h
 exact rt func122 [.call C1, .fin] (oc C1 on)
def impl_compare.f (a0 : Int) (a1 : Int) : Option Int := if a0 < a1 then (some (-1)) else (if a1 < a0 then (some 1) else (some 0))
theorem impl_compare.go : Callable prog 141 := ⟨_, func141, by kernel_rfl, rfl⟩
theorem impl_compare.ok (a0 : Int) (a1 : Int) (r : Int) (h : impl_compare.f a0 a1 = some r) : VCalls prog 141 [.c (iI a0), .c (iI a1)] [.c (.p (iI r))] := by
 unfold impl_compare.f at h
 refine VCalls.of (fn := f141) (N := 13) func141 rfl rfl (fun w0 => ?_)
 by_cases c1 : a0 < a1
 ·replace h := ip c1 h
  cases h
  exact rt func141 [.b true, .fin] (oT c1 on)
 ·replace h := iq c1 h
  by_cases c2 : a1 < a0
  ·replace h := ip c2 h
   cases h
   exact rt func141 [.b false, .b true, .fin] (oF c1 (oT c2 on))
  ·replace h := iq c2 h
   cases h
   exact rt func141 [.b false, .b false, .fin] (oF c1 (oF c2 on))
def impl_LayerOf_1.f (a0 : S55) (a1 : S55) : Option Int := (impl_compare.f a0.f1 a1.f1).bind fun t1 => some t1
theorem impl_LayerOf_1.go : Callable prog 140 := ⟨_, func140, by kernel_rfl, rfl⟩
theorem impl_LayerOf_1.ok (a0 : S55) (a1 : S55) (r : Int) (h : impl_LayerOf_1.f a0 a1 = some r) : VCalls prog 140 [.agg (e55 a0), .agg (e55 a1)] [.c (.p (iI r))] := by
 unfold impl_LayerOf_1.f at h
 refine VCalls.of (fn := f140) (N := 10) func140 rfl rfl (fun w0 => ?_)
 obtain ⟨t1, g1, h⟩ := bindN h
 let C1 := mkCon (impl_compare.ok a0.f1 a1.f1 t1 g1) impl_compare.go
 cases h
 exact rt func140 [.call C1, .fin] (oc C1 on)
def slices_MinFunc_impl_Job_impl_Job_.h0T (a0 : List S55) (gi1 : FuncId) (v14 : Int) (v11 : Int) (v12 : Int) (v13 : Bool) : List (Nat × AV) := [(0, .t (.c (.p false (R 3 e55 z55 a0)))), (1, .bfn gi1 []), (4, .ptr 256 0), (5, .ptr 320 0), (6, .t (.c (.p true (iI v14))))]
def slices_MinFunc_impl_Job_impl_Job_.h0H (a0 : List S55) (gi1 : FuncId) (v14 : Int) (v11 : Int) (v12 : Int) (v13 : Bool) : List (Nat × Content) := [(256, .box 55 [.p true (iI 0), .p true (iI 0), .p true (.sc (.bool false))]), (320, .box 55 [.p false (iI v11), .p false (iI v12), .p false (.sc (.bool v13))])]
def slices_MinFunc_impl_Job_impl_Job_.l0 : Nat → List S55 → (S55 → S55 → Option Int) → Int → Int → Bool → Int → Option S55
 | 0, _, _, _, _, _, _ => none
 | kq + 1, a0, p1, v11, v12, v13, v14 => if v14 < (a0.length : Int) then (if 0 ≤ v14 then ((p1 (rdD z55 a0 v14) (⟨v11, v12, v13⟩ : S55)).bind fun t15 => if t15 < 0 then (slices_MinFunc_impl_Job_impl_Job_.l0 kq a0 p1 ((rdD z55 a0 v14).f0) ((rdD z55 a0 v14).f1) ((rdD z55 a0 v14).f2) (w64 (v14 + 1))) else (slices_MinFunc_impl_Job_impl_Job_.l0 kq a0 p1 v11 v12 v13 (w64 (v14 + 1)))) else none) else (some (⟨v11, v12, v13⟩ : S55))
def slices_MinFunc_impl_Job_impl_Job_.f (k : Nat) (a0 : List S55) (p1 : S55 → S55 → Option Int) : Option S55 := if (a0.length : Int) < 1 then (none) else (if 0 < (a0.length : Int) then (slices_MinFunc_impl_Job_impl_Job_.l0 k a0 p1 ((rdD z55 a0 0).f0) ((rdD z55 a0 0).f1) ((rdD z55 a0 0).f2) 1) else none)
theorem slices_MinFunc_impl_Job_impl_Job_.go : Callable prog 139 := ⟨_, func139, by kernel_rfl, rfl⟩
theorem slices_MinFunc_impl_Job_impl_Job_.ok (k : Nat) (a0 : List S55) (p1 : S55 → S55 → Option Int) (gi1 : FuncId) (hp1 : ∀ x0 x1 r, p1 x0 x1 = some r → VCalls prog gi1 [.agg (e55 x0), .agg (e55 x1)] [.c (.p (iI r))]) (go1 : Callable prog gi1) (r : S55) (h : slices_MinFunc_impl_Job_impl_Job_.f k a0 p1 = some r) : VCalls prog 139 [.c (R 3 e55 z55 a0), .fn gi1 []] [.agg (r55 r)] := by
 unfold slices_MinFunc_impl_Job_impl_Job_.f at h
 refine VCalls.of (fn := f139) (N := 33) func139 rfl rfl (fun w0 => ?_)
 by_cases c1 : (a0.length : Int) < 1
 ·replace h := ip c1 h
  cases h
 ·replace h := iq c1 h
  obtain ⟨c2, h⟩ := ifN h
  have H0 : ∀ (kq : Nat) (v11 : Int) (v12 : Int) (v13 : Bool) (v14 : Int), slices_MinFunc_impl_Job_impl_Job_.l0 kq a0 p1 v11 v12 v13 v14 = some r → AG prog 139 33 [.agg (r55 r)] w0 (headStk (codeOf f139) 0) (mkFS (slices_MinFunc_impl_Job_impl_Job_.h0T a0 gi1 v14 v11 v12 v13) (slices_MinFunc_impl_Job_impl_Job_.h0H a0 gi1 v14 v11 v12 v13)) := by
   intro kq
   induction kq with
   | zero => intro v11 v12 v13 v14 h; cases h
   | succ kq ih =>
     intro v11 v12 v13 v14 h
     rw [slices_MinFunc_impl_Job_impl_Job_.l0] at h
     by_cases c18 : v14 < (a0.length : Int)
     ·replace h := ip c18 h
      obtain ⟨c19, h⟩ := ifN h
      obtain ⟨t15, g20, h⟩ := bindN h
      let C20 := mkCon (hp1 (rdD z55 a0 v14) (⟨v11, v12, v13⟩ : S55) t15 g20) go1
      by_cases c21 : t15 < 0
      ·replace h := ip c21 h
       exact hd func139 [.b true, .call C20, .b true, .fin] (oT c18 (o1 c19 (o1 c18 (oc C20 (oT c21 (o1 c19 (o1 c18 on))))))) (ih ((rdD z55 a0 v14).f0) ((rdD z55 a0 v14).f1) ((rdD z55 a0 v14).f2) (w64 (v14 + 1)) h)
      ·replace h := iq c21 h
       exact hd func139 [.b true, .call C20, .b false, .fin] (oT c18 (o1 c19 (o1 c18 (oc C20 (oF c21 on))))) (ih v11 v12 v13 (w64 (v14 + 1)) h)
     ·replace h := iq c18 h
      cases h
      exact rt func139 [.b false, .fin, .fin] (oF c18 on)
  exact hd func139 [.b false, .fin] (oF c1 (o1 (by decide : (0 : Int) ≤ 0) (o1 c2 on))) (H0 k ((rdD z55 a0 0).f0) ((rdD z55 a0 0).f1) ((rdD z55 a0 0).f2) 1 h)
def impl_LayerOf.f (k : Nat) (a0 : S35) : Option Int := if (a0.f6.length : Int) = 0 then (some (-1)) else ((slices_MinFunc_impl_Job_impl_Job_.f k a0.f6 (fun x2 x3 => impl_LayerOf_1.f x2 x3)).bind fun t1 => some t1.f1)
theorem impl_LayerOf.go : Callable prog 124 := ⟨_, func124, by kernel_rfl, rfl⟩
theorem impl_LayerOf.ok (k : Nat) (a0 : S35) (r : Int) (h : impl_LayerOf.f k a0 = some r) : VCalls prog 124 [.agg (e35 a0)] [.c (.p (iI r))] := by
 unfold impl_LayerOf.f at h
 refine VCalls.of (fn := f124) (N := 11) func124 rfl rfl (fun w0 => ?_)
 by_cases c1 : (a0.f6.length : Int) = 0
 ·replace h := ip c1 h
  cases h
  exact rt func124 [.b true, .fin] (oT c1 on)
 ·replace h := iq c1 h
  obtain ⟨t1, g4, h⟩ := bindN h
  let C4 := mkCon (slices_MinFunc_impl_Job_impl_Job_.ok k a0.f6 (fun x2 x3 => impl_LayerOf_1.f x2 x3) 140  (fun x2 x3 r h => impl_LayerOf_1.ok x2 x3 r h) impl_LayerOf_1.go t1 g4) slices_MinFunc_impl_Job_impl_Job_.go
  cases h
  exact rt func124 [.b false, .call C4, .fin] (oF c1 (oc C4 on))
def impl_RobotAt_1.f (a0 : S51) (a1 : Int) : Option Bool := some (decide (a0.f0 = a1))
theorem impl_RobotAt_1.go : Callable prog 149 := ⟨_, func149, by kernel_rfl, rfl⟩
theorem impl_RobotAt_1.ok (a0 : S51) (a1 : Int) (r : Bool) (h : impl_RobotAt_1.f a0 a1 = some r) : VCalls prog 149 [.agg (e51 a0), .ptr [.sc (.int .i64 a1)]] [.c (.p (.sc (.bool r)))] := by
 unfold impl_RobotAt_1.f at h
 refine VCalls.of (fn := f149) (N := 8) func149 rfl rfl (fun w0 => ?_)
 cases h
 exact rt func149 [.fin] on
def slices_IndexFunc_impl_Robot_impl_Robot_1.h0T (a0 : List S51) (gi1 : FuncId) (u1_0_0 : V) (v2 : Int) : List (Nat × AV) := [(0, .t (.c (.p false (R 4 e51 z51 a0)))), (1, .bfn gi1 [[u1_0_0]]), (7, .t (.c (.p true (.sc (.int .i64 (a0.length : Int)))))), (8, .t (.c (.p true (iI v2))))]
def slices_IndexFunc_impl_Robot_impl_Robot_1.h0H (a0 : List S51) (gi1 : FuncId) (u1_0_0 : V) (v2 : Int) : List (Nat × Content) := []
def slices_IndexFunc_impl_Robot_impl_Robot_1.l0 : Nat → List S51 → (S51 → Option Bool) → Int → Option Int
 | 0, _, _, _ => none
 | kq + 1, a0, p1, v2 => if v2 < (a0.length : Int) then (if 0 ≤ v2 then ((p1 (rdD z51 a0 v2)).bind fun t3 => if t3 = true then (some v2) else (slices_IndexFunc_impl_Robot_impl_Robot_1.l0 kq a0 p1 (w64 (v2 + 1)))) else none) else (some (-1))
def slices_IndexFunc_impl_Robot_impl_Robot_1.f (k : Nat) (a0 : List S51) (p1 : S51 → Option Bool) : Option Int := slices_IndexFunc_impl_Robot_impl_Robot_1.l0 k a0 p1 0
theorem slices_IndexFunc_impl_Robot_impl_Robot_1.go : Callable prog 148 := ⟨_, func148, by kernel_rfl, rfl⟩
theorem slices_IndexFunc_impl_Robot_impl_Robot_1.ok (k : Nat) (a0 : List S51) (p1 : S51 → Option Bool) (gi1 : FuncId) (u1_0_0 : V) (hp1 : ∀ x0 r, p1 x0 = some r → VCalls prog gi1 [.agg (e51 x0), .ptr [u1_0_0]] [.c (.p (.sc (.bool r)))]) (go1 : Callable prog gi1) (r : Int) (h : slices_IndexFunc_impl_Robot_impl_Robot_1.f k a0 p1 = some r) : VCalls prog 148 [.c (R 4 e51 z51 a0), .fn gi1 [[u1_0_0]]] [.c (.p (iI r))] := by
 unfold slices_IndexFunc_impl_Robot_impl_Robot_1.f at h
 refine VCalls.of (fn := f148) (N := 19) func148 rfl rfl (fun w0 => ?_)
 have H0 : ∀ (kq : Nat) (v2 : Int), slices_IndexFunc_impl_Robot_impl_Robot_1.l0 kq a0 p1 v2 = some r → AG prog 148 19 [.c (.p (iI r))] w0 (headStk (codeOf f148) 0) (mkFS (slices_IndexFunc_impl_Robot_impl_Robot_1.h0T a0 gi1 u1_0_0 v2) (slices_IndexFunc_impl_Robot_impl_Robot_1.h0H a0 gi1 u1_0_0 v2)) := by
  intro kq
  induction kq with
  | zero => intro v2 h; cases h
  | succ kq ih =>
    intro v2 h
    rw [slices_IndexFunc_impl_Robot_impl_Robot_1.l0] at h
    by_cases c4 : v2 < (a0.length : Int)
    ·replace h := ip c4 h
     obtain ⟨c5, h⟩ := ifN h
     obtain ⟨t3, g6, h⟩ := bindN h
     let C6 := mkCon (hp1 (rdD z51 a0 v2) t3 g6) go1
     by_cases c7 : t3 = true
     ·replace h := ip c7 h
      cases h
      exact rt func148 [.b true, .call C6, .b true, .fin] (oT c4 (o1 c5 (o1 c4 (oc C6 (o1 c7 on)))))
     ·replace h := iq c7 h
      exact hd func148 [.b true, .call C6, .b false, .fin] (oT c4 (o1 c5 (o1 c4 (oc C6 (o1 (eqf c7) on))))) (ih (w64 (v2 + 1)) h)
    ·replace h := iq c4 h
     cases h
     exact rt func148 [.b false, .fin, .fin] (oF c4 on)
 exact hd func148 [.fin] on (H0 k 0 h)
def impl_RobotAt.f (k : Nat) (a0 : List S51) (a1 : Int) : Option Int := (slices_IndexFunc_impl_Robot_impl_Robot_1.f k a0 (fun x1 => impl_RobotAt_1.f x1 a1)).bind fun t1 => some t1
theorem impl_RobotAt.go : Callable prog 142 := ⟨_, func142, by kernel_rfl, rfl⟩
theorem impl_RobotAt.ok (k : Nat) (a0 : List S51) (a1 : Int) (r : Int) (h : impl_RobotAt.f k a0 a1 = some r) : VCalls prog 142 [.c (R 4 e51 z51 a0), .c (iI a1)] [.c (.p (iI r))] := by
 unfold impl_RobotAt.f at h
 refine VCalls.of (fn := f142) (N := 8) func142 rfl rfl (fun w0 => ?_)
 obtain ⟨t1, g2, h⟩ := bindN h
 let C2 := mkCon (slices_IndexFunc_impl_Robot_impl_Robot_1.ok k a0 (fun x1 => impl_RobotAt_1.f x1 a1) 149 (iI a1) (fun x1 r h => impl_RobotAt_1.ok x1 a1 r h) impl_RobotAt_1.go t1 g2) slices_IndexFunc_impl_Robot_impl_Robot_1.go
 cases h
 exact rt func142 [.call C2, .fin] (oc C2 on)
def impl_isJob_1.f (a0 : S55) (a1 : S55) : Option Bool := some (decide (a0.f0 = a1.f0))
theorem impl_isJob_1.go : Callable prog 143 := ⟨_, func143, by kernel_rfl, rfl⟩
theorem impl_isJob_1.ok (a0 : S55) (a1 : S55) (r : Bool) (h : impl_isJob_1.f a0 a1 = some r) : VCalls prog 143 [.agg (e55 a0), .ptr [.sc (.int .i64 a1.f0), .sc (.int .i64 a1.f1), .sc (.bool a1.f2)]] [.c (.p (.sc (.bool r)))] := by
 unfold impl_isJob_1.f at h
 refine VCalls.of (fn := f143) (N := 9) func143 rfl rfl (fun w0 => ?_)
 cases h
 exact rt func143 [.fin] on
def slices_IndexFunc_impl_Job_impl_Job_3.h0T (a0 : List S55) (gi1 : FuncId) (u1_0_0 : V) (u1_0_1 : V) (u1_0_2 : V) (v2 : Int) : List (Nat × AV) := [(0, .t (.c (.p false (R 3 e55 z55 a0)))), (1, .bfn gi1 [[u1_0_0, u1_0_1, u1_0_2]]), (7, .t (.c (.p true (.sc (.int .i64 (a0.length : Int)))))), (8, .t (.c (.p true (iI v2))))]
def slices_IndexFunc_impl_Job_impl_Job_3.h0H (a0 : List S55) (gi1 : FuncId) (u1_0_0 : V) (u1_0_1 : V) (u1_0_2 : V) (v2 : Int) : List (Nat × Content) := []
def slices_IndexFunc_impl_Job_impl_Job_3.l0 : Nat → List S55 → (S55 → Option Bool) → Int → Option Int
 | 0, _, _, _ => none
 | kq + 1, a0, p1, v2 => if v2 < (a0.length : Int) then (if 0 ≤ v2 then ((p1 (rdD z55 a0 v2)).bind fun t3 => if t3 = true then (some v2) else (slices_IndexFunc_impl_Job_impl_Job_3.l0 kq a0 p1 (w64 (v2 + 1)))) else none) else (some (-1))
def slices_IndexFunc_impl_Job_impl_Job_3.f (k : Nat) (a0 : List S55) (p1 : S55 → Option Bool) : Option Int := slices_IndexFunc_impl_Job_impl_Job_3.l0 k a0 p1 0
theorem slices_IndexFunc_impl_Job_impl_Job_3.go : Callable prog 110 := ⟨_, func110, by kernel_rfl, rfl⟩
theorem slices_IndexFunc_impl_Job_impl_Job_3.ok (k : Nat) (a0 : List S55) (p1 : S55 → Option Bool) (gi1 : FuncId) (u1_0_0 u1_0_1 u1_0_2 : V) (hp1 : ∀ x0 r, p1 x0 = some r → VCalls prog gi1 [.agg (e55 x0), .ptr [u1_0_0, u1_0_1, u1_0_2]] [.c (.p (.sc (.bool r)))]) (go1 : Callable prog gi1) (r : Int) (h : slices_IndexFunc_impl_Job_impl_Job_3.f k a0 p1 = some r) : VCalls prog 110 [.c (R 3 e55 z55 a0), .fn gi1 [[u1_0_0, u1_0_1, u1_0_2]]] [.c (.p (iI r))] := by
 unfold slices_IndexFunc_impl_Job_impl_Job_3.f at h
 refine VCalls.of (fn := f110) (N := 19) func110 rfl rfl (fun w0 => ?_)
 have H0 : ∀ (kq : Nat) (v2 : Int), slices_IndexFunc_impl_Job_impl_Job_3.l0 kq a0 p1 v2 = some r → AG prog 110 19 [.c (.p (iI r))] w0 (headStk (codeOf f110) 0) (mkFS (slices_IndexFunc_impl_Job_impl_Job_3.h0T a0 gi1 u1_0_0 u1_0_1 u1_0_2 v2) (slices_IndexFunc_impl_Job_impl_Job_3.h0H a0 gi1 u1_0_0 u1_0_1 u1_0_2 v2)) := by
  intro kq
  induction kq with
  | zero => intro v2 h; cases h
  | succ kq ih =>
    intro v2 h
    rw [slices_IndexFunc_impl_Job_impl_Job_3.l0] at h
    by_cases c4 : v2 < (a0.length : Int)
    ·replace h := ip c4 h
     obtain ⟨c5, h⟩ := ifN h
     obtain ⟨t3, g6, h⟩ := bindN h
     let C6 := mkCon (hp1 (rdD z55 a0 v2) t3 g6) go1
     by_cases c7 : t3 = true
     ·replace h := ip c7 h
      cases h
      exact rt func110 [.b true, .call C6, .b true, .fin] (oT c4 (o1 c5 (o1 c4 (oc C6 (o1 c7 on)))))
     ·replace h := iq c7 h
      exact hd func110 [.b true, .call C6, .b false, .fin] (oT c4 (o1 c5 (o1 c4 (oc C6 (o1 (eqf c7) on))))) (ih (w64 (v2 + 1)) h)
    ·replace h := iq c4 h
     cases h
     exact rt func110 [.b false, .fin, .fin] (oF c4 on)
 exact hd func110 [.fin] on (H0 k 0 h)
def slices_ContainsFunc_impl_Job_impl_Job_3.f (k : Nat) (a0 : List S55) (p1 : S55 → Option Bool) : Option Bool := (slices_IndexFunc_impl_Job_impl_Job_3.f k a0 p1).bind fun t1 => some (decide (0 ≤ t1))
theorem slices_ContainsFunc_impl_Job_impl_Job_3.go : Callable prog 56 := ⟨_, func56, by kernel_rfl, rfl⟩
theorem slices_ContainsFunc_impl_Job_impl_Job_3.ok (k : Nat) (a0 : List S55) (p1 : S55 → Option Bool) (gi1 : FuncId) (u1_0_0 u1_0_1 u1_0_2 : V) (hp1 : ∀ x0 r, p1 x0 = some r → VCalls prog gi1 [.agg (e55 x0), .ptr [u1_0_0, u1_0_1, u1_0_2]] [.c (.p (.sc (.bool r)))]) (go1 : Callable prog gi1) (r : Bool) (h : slices_ContainsFunc_impl_Job_impl_Job_3.f k a0 p1 = some r) : VCalls prog 56 [.c (R 3 e55 z55 a0), .fn gi1 [[u1_0_0, u1_0_1, u1_0_2]]] [.c (.p (.sc (.bool r)))] := by
 unfold slices_ContainsFunc_impl_Job_impl_Job_3.f at h
 refine VCalls.of (fn := f56) (N := 9) func56 rfl rfl (fun w0 => ?_)
 obtain ⟨t1, g1, h⟩ := bindN h
 let C1 := mkCon (slices_IndexFunc_impl_Job_impl_Job_3.ok k a0 p1 gi1 u1_0_0 u1_0_1 u1_0_2 hp1 go1 t1 g1) slices_IndexFunc_impl_Job_impl_Job_3.go
 cases h
 exact rt func56 [.call C1, .fin] (oc C1 on)
def impl_isJob.f (k : Nat) (a0 : S35) (a1 : Int) (a2 : Int) : Option Bool := if 0 ≤ a1 then (if a1 < (a0.f6.length : Int) then (if a1 < (a0.f5.f2.length : Int) then ((impl_RobotAt.f k a0.f1 ((rdD z55 a0.f6 a1).f0)).bind fun t1 => if t1 < 0 then (some false) else (if 0 ≤ t1 then (if t1 < (a0.f1.length : Int) then (if (rdD z51 a0.f1 t1).f3 = true then (some false) else (if (rdD z55 a0.f6 a1).f1 < 0 then (some false) else (if a0.f5.f0 < (rdD z55 a0.f6 a1).f1 then (some false) else (if (w64 (a2 + 1)) < (rdD z55 a0.f6 a1).f1 then (some false) else (if a1 ≤ (a0.f6.length : Int) then ((slices_ContainsFunc_impl_Job_impl_Job_3.f k ((a0.f6.drop (0 : Int).toNat).take (a1.toNat - (0 : Int).toNat)) (fun x13 => impl_isJob_1.f x13 (rdD z55 a0.f6 a1))).bind fun t2 => if t2 = true then (some false) else (if 0 ≤ (rdD z55 a0.f6 a1).f1 then (if (rdD z55 a0.f6 a1).f1 < (((rdD z53 a0.f5.f2 a1).f0).length : Int) then (if (rdD z51 a0.f1 t1).f1 = (rdD 0 ((rdD z53 a0.f5.f2 a1).f0) ((rdD z55 a0.f6 a1).f1)) then (if (rdD z55 a0.f6 a1).f2 = true then (if (rdD z55 a0.f6 a1).f1 < a0.f5.f0 then (if 0 ≤ (w64 ((rdD z55 a0.f6 a1).f1 + 1)) then (if (w64 ((rdD z55 a0.f6 a1).f1 + 1)) < (((rdD z53 a0.f5.f2 a1).f0).length : Int) then (some (decide ((rdD z51 a0.f1 t1).f2 = (rdD 0 ((rdD z53 a0.f5.f2 a1).f0) (w64 ((rdD z55 a0.f6 a1).f1 + 1)))))) else none) else none) else (some false)) else (some (decide ((rdD z51 a0.f1 t1).f2 = (-1))))) else (some false)) else none) else none)) else none))))) else none) else none)) else none) else none) else none
theorem impl_isJob.go : Callable prog 125 := ⟨_, func125, by kernel_rfl, rfl⟩
theorem impl_isJob.ok (k : Nat) (a0 : S35) (a1 : Int) (a2 : Int) (r : Bool) (h : impl_isJob.f k a0 a1 a2 = some r) : VCalls prog 125 [.agg (e35 a0), .c (iI a1), .c (iI a2)] [.c (.p (.sc (.bool r)))] := by
 unfold impl_isJob.f at h
 refine VCalls.of (fn := f125) (N := 107) func125 rfl rfl (fun w0 => ?_)
 obtain ⟨c1, h⟩ := ifN h
 obtain ⟨c2, h⟩ := ifN h
 obtain ⟨c3, h⟩ := ifN h
 obtain ⟨t1, g4, h⟩ := bindN h
 let C4 := mkCon (impl_RobotAt.ok k a0.f1 ((rdD z55 a0.f6 a1).f0) t1 g4) impl_RobotAt.go
 by_cases c5 : t1 < 0
 ·replace h := ip c5 h
  cases h
  exact rt func125 [.call C4, .dec 29 true, .b true, .fin] (o1 c1 (o1 c2 (o1 c1 (o1 c3 (oc C4 (oT c5 (oR on)))))))
 ·replace h := iq c5 h
  obtain ⟨c6, h⟩ := ifN h
  obtain ⟨c7, h⟩ := ifN h
  by_cases c8 : (rdD z51 a0.f1 t1).f3 = true
  ·replace h := ip c8 h
   cases h
   exact rt func125 [.call C4, .dec 29 false, .dec 37 true, .b true, .fin] (o1 c1 (o1 c2 (o1 c1 (o1 c3 (oc C4 (oF c5 (o1 c6 (o1 c7 (o1 c8 (oR on))))))))))
  ·replace h := iq c8 h
   by_cases c9 : (rdD z55 a0.f6 a1).f1 < 0
   ·replace h := ip c9 h
    cases h
    exact rt func125 [.call C4, .dec 29 false, .dec 37 false, .dec 42 true, .b true, .fin] (o1 c1 (o1 c2 (o1 c1 (o1 c3 (oc C4 (oF c5 (o1 c6 (o1 c7 (o1 (eqf c8) (oT c9 (oR on)))))))))))
   ·replace h := iq c9 h
    by_cases c10 : a0.f5.f0 < (rdD z55 a0.f6 a1).f1
    ·replace h := ip c10 h
     cases h
     exact rt func125 [.call C4, .dec 29 false, .dec 37 false, .dec 42 false, .dec 50 true, .b true, .fin] (o1 c1 (o1 c2 (o1 c1 (o1 c3 (oc C4 (oF c5 (o1 c6 (o1 c7 (o1 (eqf c8) (oF c9 (oT c10 (oR on))))))))))))
    ·replace h := iq c10 h
     by_cases c11 : (w64 (a2 + 1)) < (rdD z55 a0.f6 a1).f1
     ·replace h := ip c11 h
      cases h
      exact rt func125 [.call C4, .dec 29 false, .dec 37 false, .dec 42 false, .dec 50 false, .b true, .fin] (o1 c1 (o1 c2 (o1 c1 (o1 c3 (oc C4 (oF c5 (o1 c6 (o1 c7 (o1 (eqf c8) (oF c9 (oF c10 (oT c11 on))))))))))))
     ·replace h := iq c11 h
      obtain ⟨c12, h⟩ := ifN h
      obtain ⟨t2, g14, h⟩ := bindN h
      let C14 := mkCon (slices_ContainsFunc_impl_Job_impl_Job_3.ok k ((a0.f6.drop (0 : Int).toNat).take (a1.toNat - (0 : Int).toNat)) (fun x13 => impl_isJob_1.f x13 (rdD z55 a0.f6 a1)) 143 (.sc (.int .i64 ((rdD z55 a0.f6 a1).f0))) (.sc (.int .i64 ((rdD z55 a0.f6 a1).f1))) (.sc (.bool ((rdD z55 a0.f6 a1).f2))) (fun x13 r h => impl_isJob_1.ok x13 (rdD z55 a0.f6 a1) r h) impl_isJob_1.go t2 g14) slices_ContainsFunc_impl_Job_impl_Job_3.go
      by_cases c15 : t2 = true
      ·replace h := ip c15 h
       cases h
       exact rt func125 [.call C4, .dec 29 false, .dec 37 false, .dec 42 false, .dec 50 false, .b false, .cst 60 (R 3 e55 z55 ((a0.f6.drop (0 : Int).toNat).take (a1.toNat - (0 : Int).toNat))), .call C14, .dec 63 true, .b true, .fin] (o1 c1 (o1 c2 (o1 c1 (o1 c3 (oc C4 (oF c5 (o1 c6 (o1 c7 (o1 (eqf c8) (oF c9 (oF c10 (oF c11 (o1 (by decide : (0 : Int) ≤ 0) (o1 c1 (o1 c12 (o1 (VE.cut (z := 3) (e := e55) (d := z55) a0.f6 (n := a0.f6.length) (lo := 0) (hi := a1) rfl (by decide : (0 : Int) ≤ 0) c1 c12) (oc C14 (o1 c15 (oR on)))))))))))))))))))
      ·replace h := iq c15 h
       obtain ⟨c16, h⟩ := ifN h
       obtain ⟨c17, h⟩ := ifN h
       by_cases c18 : (rdD z51 a0.f1 t1).f1 = (rdD 0 ((rdD z53 a0.f5.f2 a1).f0) ((rdD z55 a0.f6 a1).f1))
       ·replace h := ip c18 h
        by_cases c19 : (rdD z55 a0.f6 a1).f2 = true
        ·replace h := ip c19 h
         by_cases c20 : (rdD z55 a0.f6 a1).f1 < a0.f5.f0
         ·replace h := ip c20 h
          obtain ⟨c21, h⟩ := ifN h
          obtain ⟨c22, h⟩ := ifN h
          cases h
          exact rt func125 [.call C4, .dec 29 false, .dec 37 false, .dec 42 false, .dec 50 false, .b false, .cst 60 (R 3 e55 z55 ((a0.f6.drop (0 : Int).toNat).take (a1.toNat - (0 : Int).toNat))), .call C14, .dec 63 false, .b false, .b true, .dec 85 true, .fin] (o1 c1 (o1 c2 (o1 c1 (o1 c3 (oc C4 (oF c5 (o1 c6 (o1 c7 (o1 (eqf c8) (oF c9 (oF c10 (oF c11 (o1 (by decide : (0 : Int) ≤ 0) (o1 c1 (o1 c12 (o1 (VE.cut (z := 3) (e := e55) (d := z55) a0.f6 (n := a0.f6.length) (lo := 0) (hi := a1) rfl (by decide : (0 : Int) ≤ 0) c1 c12) (oc C14 (o1 (eqf c15) (o1 c6 (o1 c7 (o1 c16 (o1 c17 (o1 (bnf (decide_eq_true c18)) (o1 c19 (oT c20 (o1 c6 (o1 c7 (o1 c21 (o1 c22 on)))))))))))))))))))))))))))))
         ·replace h := iq c20 h
          cases h
          exact rt func125 [.call C4, .dec 29 false, .dec 37 false, .dec 42 false, .dec 50 false, .b false, .cst 60 (R 3 e55 z55 ((a0.f6.drop (0 : Int).toNat).take (a1.toNat - (0 : Int).toNat))), .call C14, .dec 63 false, .b false, .b true, .dec 85 false, .fin] (o1 c1 (o1 c2 (o1 c1 (o1 c3 (oc C4 (oF c5 (o1 c6 (o1 c7 (o1 (eqf c8) (oF c9 (oF c10 (oF c11 (o1 (by decide : (0 : Int) ≤ 0) (o1 c1 (o1 c12 (o1 (VE.cut (z := 3) (e := e55) (d := z55) a0.f6 (n := a0.f6.length) (lo := 0) (hi := a1) rfl (by decide : (0 : Int) ≤ 0) c1 c12) (oc C14 (o1 (eqf c15) (o1 c6 (o1 c7 (o1 c16 (o1 c17 (o1 (bnf (decide_eq_true c18)) (o1 c19 (oF c20 on)))))))))))))))))))))))))
        ·replace h := iq c19 h
         cases h
         exact rt func125 [.call C4, .dec 29 false, .dec 37 false, .dec 42 false, .dec 50 false, .b false, .cst 60 (R 3 e55 z55 ((a0.f6.drop (0 : Int).toNat).take (a1.toNat - (0 : Int).toNat))), .call C14, .dec 63 false, .b false, .b false, .fin] (o1 c1 (o1 c2 (o1 c1 (o1 c3 (oc C4 (oF c5 (o1 c6 (o1 c7 (o1 (eqf c8) (oF c9 (oF c10 (oF c11 (o1 (by decide : (0 : Int) ≤ 0) (o1 c1 (o1 c12 (o1 (VE.cut (z := 3) (e := e55) (d := z55) a0.f6 (n := a0.f6.length) (lo := 0) (hi := a1) rfl (by decide : (0 : Int) ≤ 0) c1 c12) (oc C14 (o1 (eqf c15) (o1 c6 (o1 c7 (o1 c16 (o1 c17 (o1 (bnf (decide_eq_true c18)) (o1 (eqf c19) (o1 c6 (o1 c7 on))))))))))))))))))))))))))
       ·replace h := iq c18 h
        cases h
        exact rt func125 [.call C4, .dec 29 false, .dec 37 false, .dec 42 false, .dec 50 false, .b false, .cst 60 (R 3 e55 z55 ((a0.f6.drop (0 : Int).toNat).take (a1.toNat - (0 : Int).toNat))), .call C14, .dec 63 false, .b true, .fin] (o1 c1 (o1 c2 (o1 c1 (o1 c3 (oc C4 (oF c5 (o1 c6 (o1 c7 (o1 (eqf c8) (oF c9 (oF c10 (oF c11 (o1 (by decide : (0 : Int) ≤ 0) (o1 c1 (o1 c12 (o1 (VE.cut (z := 3) (e := e55) (d := z55) a0.f6 (n := a0.f6.length) (lo := 0) (hi := a1) rfl (by decide : (0 : Int) ≤ 0) c1 c12) (oc C14 (o1 (eqf c15) (o1 c6 (o1 c7 (o1 c16 (o1 c17 (o1 (bnt (decide_eq_false c18)) on)))))))))))))))))))))))
def impl_jobsOk.h0T (a1 : Bool) (t2 : Int) (a0 : S35) (v4 : Int) : List (Nat × AV) := [(1, .t (.c (.p false (.sc (.bool a1))))), (2, .ptr 128 0), (5, .ptr 320 0), (6, .t (.c (.p true (iI t2)))), (70, .t (.c (.p true (.sc (.int .i64 (a0.f6.length : Int)))))), (71, .t (.c (.p true (iI v4))))]
def impl_jobsOk.h0H (a1 : Bool) (t2 : Int) (a0 : S35) (v4 : Int) : List (Nat × Content) := [(128, .box 35 [.p false (iI a0.f0.f0.f0), .p false (iI a0.f0.f0.f1), .p false (.sc (.string a0.f0.f0.f2)), .p false (iI a0.f0.f1), .p false (iI a0.f0.f2), .p false (iI a0.f0.f3), .p false (iI a0.f0.f4), .p false (R 4 e51 z51 a0.f1), .p false (iI a0.f2.f0), .p false (iI a0.f2.f1), .p false (R 1 (eI .i64) 0 a0.f2.f2), .p false (iI a0.f3), .p false (.sc (.bool a0.f4)), .p false (iI a0.f5.f0), .p false (iI a0.f5.f1), .p false (R 1 e53 z53 a0.f5.f2), .p false (R 3 e55 z55 a0.f6), .p false (R 1 (eI .i64) 0 a0.f7)]), (320, .box 32 [.p false (iI a0.f5.f0), .p false (iI a0.f5.f1), .p false (R 1 e53 z53 a0.f5.f2)])]
def impl_jobsOk.l0 : Nat → S35 → Int → Bool → Int → Option Bool
 | 0, _, _, _, _ => none
 | kq + 1, a0, t2, a1, v4 => if v4 < (a0.f6.length : Int) then ((impl_isJob.f kq a0 v4 t2).bind fun t5 => if t5 = true then (impl_jobsOk.l0 kq a0 t2 a1 (w64 (v4 + 1))) else (some false)) else (if a1 = true then (some true) else (some (decide (t2 < a0.f5.f0))))
def impl_jobsOk.f (k : Nat) (a0 : S35) (a1 : Bool) : Option Bool := if a0.f4 = true then (if a0.f5.f0 < 0 then (some false) else (if 20 < a0.f5.f0 then (some false) else (if (a0.f6.length : Int) < 1 then (some false) else (if 10 < (a0.f6.length : Int) then (some false) else (if (a0.f6.length : Int) = (a0.f5.f2.length : Int) then ((slices_ContainsFunc_impl_Way_impl_Way_3.f k a0.f5.f2 (fun x7 => impl_jobsOk_1.f x7 a0.f5)).bind fun t1 => if t1 = true then (some false) else ((impl_LayerOf.f k a0).bind fun t2 => impl_jobsOk.l0 k a0 t2 a1 0)) else (some false)))))) else (if a0.f5.f0 = 0 then (if a0.f5.f1 = 0 then (if (a0.f5.f2.length : Int) = 0 then (some (decide ((a0.f6.length : Int) = 0))) else (some false)) else (some false)) else (some false))
theorem impl_jobsOk.go : Callable prog 90 := ⟨_, func90, by kernel_rfl, rfl⟩
theorem impl_jobsOk.ok (k : Nat) (a0 : S35) (a1 : Bool) (r : Bool) (h : impl_jobsOk.f k a0 a1 = some r) : VCalls prog 90 [.agg (e35 a0), .c (.sc (.bool a1))] [.c (.p (.sc (.bool r)))] := by
 unfold impl_jobsOk.f at h
 refine VCalls.of (fn := f90) (N := 87) func90 rfl rfl (fun w0 => ?_)
 by_cases c1 : a0.f4 = true
 ·replace h := ip c1 h
  by_cases c2 : a0.f5.f0 < 0
  ·replace h := ip c2 h
   cases h
   exact rt func90 [.b false, .dec 36 true, .b true, .fin] (o1 (bnf c1) (oT c2 (oR on)))
  ·replace h := iq c2 h
   by_cases c3 : 20 < a0.f5.f0
   ·replace h := ip c3 h
    cases h
    exact rt func90 [.b false, .dec 36 false, .dec 41 true, .b true, .fin] (o1 (bnf c1) (oF c2 (oT c3 (oR on))))
   ·replace h := iq c3 h
    by_cases c4 : (a0.f6.length : Int) < 1
    ·replace h := ip c4 h
     cases h
     exact rt func90 [.b false, .dec 36 false, .dec 41 false, .dec 47 true, .b true, .fin] (o1 (bnf c1) (oF c2 (oF c3 (oT c4 (oR on)))))
    ·replace h := iq c4 h
     by_cases c5 : 10 < (a0.f6.length : Int)
     ·replace h := ip c5 h
      cases h
      exact rt func90 [.b false, .dec 36 false, .dec 41 false, .dec 47 false, .dec 53 true, .b true, .fin] (o1 (bnf c1) (oF c2 (oF c3 (oF c4 (oT c5 (oR on))))))
     ·replace h := iq c5 h
      by_cases c6 : (a0.f6.length : Int) = (a0.f5.f2.length : Int)
      ·replace h := ip c6 h
       obtain ⟨t1, g8, h⟩ := bindN h
       let C8 := mkCon (slices_ContainsFunc_impl_Way_impl_Way_3.ok k a0.f5.f2 (fun x7 => impl_jobsOk_1.f x7 a0.f5) 123 (iI a0.f5.f0) (iI a0.f5.f1) (R 1 e53 z53 a0.f5.f2) (fun x7 r h => impl_jobsOk_1.ok x7 a0.f5 r h) impl_jobsOk_1.go t1 g8) slices_ContainsFunc_impl_Way_impl_Way_3.go
       by_cases c9 : t1 = true
       ·replace h := ip c9 h
        cases h
        exact rt func90 [.b false, .dec 36 false, .dec 41 false, .dec 47 false, .dec 53 false, .b false, .call C8, .b true, .fin] (o1 (bnf c1) (oF c2 (oF c3 (oF c4 (oF c5 (o1 (bnf (decide_eq_true c6)) (oc C8 (o1 c9 on))))))))
       ·replace h := iq c9 h
        obtain ⟨t2, g10, h⟩ := bindN h
        let C10 := mkCon (impl_LayerOf.ok k a0 t2 g10) impl_LayerOf.go
        have H0 : ∀ (kq : Nat) (v4 : Int), impl_jobsOk.l0 kq a0 t2 a1 v4 = some r → AG prog 90 87 [.c (.p (.sc (.bool r)))] w0 (headStk (codeOf f90) 0) (mkFS (impl_jobsOk.h0T a1 t2 a0 v4) (impl_jobsOk.h0H a1 t2 a0 v4)) := by
         intro kq
         induction kq with
         | zero => intro v4 h; cases h
         | succ kq ih =>
           intro v4 h
           rw [impl_jobsOk.l0] at h
           by_cases c14 : v4 < (a0.f6.length : Int)
           ·replace h := ip c14 h
            obtain ⟨t5, g15, h⟩ := bindN h
            let C15 := mkCon (impl_isJob.ok kq a0 v4 t2 t5 g15) impl_isJob.go
            by_cases c16 : t5 = true
            ·replace h := ip c16 h
             exact hd func90 [.b true, .call C15, .b false, .fin] (oT c14 (oc C15 (o1 (bnf c16) on))) (ih (w64 (v4 + 1)) h)
            ·replace h := iq c16 h
             cases h
             exact rt func90 [.b true, .call C15, .b true, .fin] (oT c14 (oc C15 (oN c16 on)))
           ·replace h := iq c14 h
            by_cases c17 : a1 = true
            ·replace h := ip c17 h
             cases h
             exact rt func90 [.b false, .fin, .dec 81 true, .fin] (oF c14 (o1 c17 on))
            ·replace h := iq c17 h
             cases h
             exact rt func90 [.b false, .fin, .dec 81 false, .fin] (oF c14 (o1 (eqf c17) on))
        exact hd func90 [.b false, .dec 36 false, .dec 41 false, .dec 47 false, .dec 53 false, .b false, .call C8, .b false, .call C10, .fin] (o1 (bnf c1) (oF c2 (oF c3 (oF c4 (oF c5 (o1 (bnf (decide_eq_true c6)) (oc C8 (o1 (eqf c9) (oc C10 on))))))))) (H0 k 0 h)
      ·replace h := iq c6 h
       cases h
       exact rt func90 [.b false, .dec 36 false, .dec 41 false, .dec 47 false, .dec 53 false, .b true, .fin] (o1 (bnf c1) (oF c2 (oF c3 (oF c4 (oF c5 (o1 (bnt (decide_eq_false c6)) on))))))
 ·replace h := iq c1 h
  by_cases c18 : a0.f5.f0 = 0
  ·replace h := ip c18 h
   by_cases c19 : a0.f5.f1 = 0
   ·replace h := ip c19 h
    by_cases c20 : (a0.f5.f2.length : Int) = 0
    ·replace h := ip c20 h
     cases h
     exact rt func90 [.b true, .dec 16 true, .dec 21 true, .dec 27 true, .fin] (oN c1 (oT c18 (oT c19 (oT c20 on))))
    ·replace h := iq c20 h
     cases h
     exact rt func90 [.b true, .dec 16 true, .dec 21 true, .dec 27 false, .fin] (oN c1 (oT c18 (oT c19 (oF c20 on))))
   ·replace h := iq c19 h
    cases h
    exact rt func90 [.b true, .dec 16 true, .dec 21 false, .fin] (oN c1 (oT c18 (oF c19 on)))
  ·replace h := iq c18 h
   cases h
   exact rt func90 [.b true, .dec 16 false, .fin] (oN c1 (oF c18 on))
def impl_JobsOk.f (k : Nat) (a0 : S35) : Option Bool := (impl_jobsOk.f k a0 false).bind fun t1 => some t1
theorem impl_JobsOk.go : Callable prog 49 := ⟨_, func49, by kernel_rfl, rfl⟩
theorem impl_JobsOk.ok (k : Nat) (a0 : S35) (r : Bool) (h : impl_JobsOk.f k a0 = some r) : VCalls prog 49 [.agg (e35 a0)] [.c (.p (.sc (.bool r)))] := by
 unfold impl_JobsOk.f at h
 refine VCalls.of (fn := f49) (N := 5) func49 rfl rfl (fun w0 => ?_)
 obtain ⟨t1, g1, h⟩ := bindN h
 let C1 := mkCon (impl_jobsOk.ok k a0 false t1 g1) impl_jobsOk.go
 cases h
 exact rt func49 [.call C1, .fin] (oc C1 on)
def impl_areFree_1.f (a0 : Int) (a1 : S24) : Option Bool := (impl_isFree.f a1 a0).bind fun t1 => some (!t1)
theorem impl_areFree_1.go : Callable prog 91 := ⟨_, func91, by kernel_rfl, rfl⟩
theorem impl_areFree_1.ok (a0 : Int) (a1 : S24) (r : Bool) (h : impl_areFree_1.f a0 a1 = some r) : VCalls prog 91 [.c (iI a0), .ptr [.sc (.int .i64 a1.f0), .sc (.int .i64 a1.f1), .sc (.string a1.f2)]] [.c (.p (.sc (.bool r)))] := by
 unfold impl_areFree_1.f at h
 refine VCalls.of (fn := f91) (N := 8) func91 rfl rfl (fun w0 => ?_)
 obtain ⟨t1, g1, h⟩ := bindN h
 let C1 := mkCon (impl_isFree.ok a1 a0 t1 g1) impl_isFree.go
 cases h
 exact rt func91 [.call C1, .fin] (oc C1 on)
def impl_areFree.f (k : Nat) (a0 : S24) (a1 : List Int) : Option Bool := (impl_GridOk.f k a0).bind fun t1 => if t1 = true then ((slices_ContainsFunc_int_int_3.f k a1 (fun x3 => impl_areFree_1.f x3 a0)).bind fun t2 => some (!t2)) else (some false)
theorem impl_areFree.go : Callable prog 50 := ⟨_, func50, by kernel_rfl, rfl⟩
theorem impl_areFree.ok (k : Nat) (a0 : S24) (a1 : List Int) (r : Bool) (h : impl_areFree.f k a0 a1 = some r) : VCalls prog 50 [.agg (e24 a0), .c (R 1 (eI .i64) 0 a1)] [.c (.p (.sc (.bool r)))] := by
 unfold impl_areFree.f at h
 refine VCalls.of (fn := f50) (N := 13) func50 rfl rfl (fun w0 => ?_)
 obtain ⟨t1, g1, h⟩ := bindN h
 let C1 := mkCon (impl_GridOk.ok k a0 t1 g1) impl_GridOk.go
 by_cases c2 : t1 = true
 ·replace h := ip c2 h
  obtain ⟨t2, g4, h⟩ := bindN h
  let C4 := mkCon (slices_ContainsFunc_int_int_3.ok k a1 (fun x3 => impl_areFree_1.f x3 a0) 91 (iI a0.f0) (iI a0.f1) (.sc (.string a0.f2)) (fun x3 r h => impl_areFree_1.ok x3 a0 r h) impl_areFree_1.go t2 g4) slices_ContainsFunc_int_int_3.go
  cases h
  exact rt func50 [.call C1, .dec 7 true, .call C4, .fin] (oc C1 (o1 c2 (oc C4 on)))
 ·replace h := iq c2 h
  cases h
  exact rt func50 [.call C1, .dec 7 false, .fin] (oc C1 (o1 (eqf c2) on))
def impl_isAscending.h0T (a0 : List Int) (v1 : Int) : List (Nat × AV) := [(0, .t (.c (.p false (R 1 (eI .i64) 0 a0)))), (3, .t (.c (.p true (iI v1))))]
def impl_isAscending.h0H (a0 : List Int) (v1 : Int) : List (Nat × Content) := []
def impl_isAscending.l0 : Nat → List Int → Int → Option Bool
 | 0, _, _ => none
 | kq + 1, a0, v1 => if v1 < (a0.length : Int) then (if 0 ≤ (w64 (v1 - 1)) then (if (w64 (v1 - 1)) < (a0.length : Int) then (if 0 ≤ v1 then (if (rdD 0 a0 v1) ≤ (rdD 0 a0 (w64 (v1 - 1))) then (some false) else (impl_isAscending.l0 kq a0 (w64 (v1 + 1)))) else none) else none) else none) else (some true)
def impl_isAscending.f (k : Nat) (a0 : List Int) : Option Bool := impl_isAscending.l0 k a0 1
theorem impl_isAscending.go : Callable prog 51 := ⟨_, func51, by kernel_rfl, rfl⟩
theorem impl_isAscending.ok (k : Nat) (a0 : List Int) (r : Bool) (h : impl_isAscending.f k a0 = some r) : VCalls prog 51 [.c (R 1 (eI .i64) 0 a0)] [.c (.p (.sc (.bool r)))] := by
 unfold impl_isAscending.f at h
 refine VCalls.of (fn := f51) (N := 20) func51 rfl rfl (fun w0 => ?_)
 have H0 : ∀ (kq : Nat) (v1 : Int), impl_isAscending.l0 kq a0 v1 = some r → AG prog 51 20 [.c (.p (.sc (.bool r)))] w0 (headStk (codeOf f51) 0) (mkFS (impl_isAscending.h0T a0 v1) (impl_isAscending.h0H a0 v1)) := by
  intro kq
  induction kq with
  | zero => intro v1 h; cases h
  | succ kq ih =>
    intro v1 h
    rw [impl_isAscending.l0] at h
    by_cases c5 : v1 < (a0.length : Int)
    ·replace h := ip c5 h
     obtain ⟨c6, h⟩ := ifN h
     obtain ⟨c7, h⟩ := ifN h
     obtain ⟨c8, h⟩ := ifN h
     by_cases c9 : (rdD 0 a0 v1) ≤ (rdD 0 a0 (w64 (v1 - 1)))
     ·replace h := ip c9 h
      cases h
      exact rt func51 [.b true, .b true, .fin] (oT c5 (o1 c6 (o1 c7 (o1 c8 (o1 c5 (oT c9 on))))))
     ·replace h := iq c9 h
      exact hd func51 [.b true, .b false, .fin] (oT c5 (o1 c6 (o1 c7 (o1 c8 (o1 c5 (oF c9 on)))))) (ih (w64 (v1 + 1)) h)
    ·replace h := iq c5 h
     cases h
     exact rt func51 [.b false, .fin, .fin] (oF c5 on)
 exact hd func51 [.fin] on (H0 k 1 h)
def impl_CellsUsed.h0T (a0 : List S53) (v3 : Int) (v2 : List Int) : List (Nat × AV) := [(3, .t (.c (.h 320192))), (6, .t (.c (.p false (R 1 e53 z53 a0)))), (7, .t (.c (.p true (.sc (.int .i64 (a0.length : Int)))))), (8, .t (.c (.p true (iI v3))))]
def impl_CellsUsed.h0H (a0 : List S53) (v3 : Int) (v2 : List Int) : List (Nat × Content) := [(320192, .row 3 1 v2.length (fun j => (eI .i64) (v2.getD j 0)) true)]
def impl_CellsUsed.l0 : Nat → List S53 → List Int → Int → Option (List Int)
 | 0, _, _, _ => none
 | kq + 1, a0, v2, v3 => if v3 < (a0.length : Int) then (if 0 ≤ v3 then (if (v2.length + ((rdD z53 a0 v3).f0).length) * 8 ≤ 140737488355328 then (impl_CellsUsed.l0 kq a0 (v2 ++ (rdD z53 a0 v3).f0) (w64 (v3 + 1))) else none) else none) else ((AvOrd.impl_ordered.f v2).bind fun t4 => some t4)
def impl_CellsUsed.f (k : Nat) (a0 : List S53) : Option (List Int) := impl_CellsUsed.l0 k a0 ([] : List Int) 0
theorem impl_CellsUsed.go : Callable prog 92 := ⟨_, func92, by kernel_rfl, rfl⟩
theorem impl_CellsUsed.ok (k : Nat) (a0 : List S53) (r : (List Int)) (h : impl_CellsUsed.f k a0 = some r) : VCalls prog 92 [.c (R 1 e53 z53 a0)] [.c (.own 3 1 r.length (fun j => (eI .i64) (r.getD j 0)))] := by
 unfold impl_CellsUsed.f at h
 refine VCalls.of (fn := f92) (N := 19) func92 rfl rfl (fun w0 => ?_)
 have H0 : ∀ (kq : Nat) (v2 : List Int) (v3 : Int), impl_CellsUsed.l0 kq a0 v2 v3 = some r → AG prog 92 19 [.c (.own 3 1 r.length (fun j => (eI .i64) (r.getD j 0)))] w0 (headStk (codeOf f92) 0) (mkFS (impl_CellsUsed.h0T a0 v3 v2) (impl_CellsUsed.h0H a0 v3 v2)) := by
  intro kq
  induction kq with
  | zero => intro v2 v3 h; cases h
  | succ kq ih =>
    intro v2 v3 h
    rw [impl_CellsUsed.l0] at h
    by_cases c8 : v3 < (a0.length : Int)
    ·replace h := ip c8 h
     obtain ⟨c9, h⟩ := ifN h
     obtain ⟨c10, h⟩ := ifN h
     exact hd func92 [.b true, .aft 15, orow 320192 (eI .i64) 0 (v2 ++ (rdD z53 a0 v3).f0), .reg 6, .flat 320192, .fin] (oT c8 (o1 c9 (o1 c8 (o1 c10 (o1 (GE.app (e := (eI .i64)) (d := 0) v2 ((rdD z53 a0 v3).f0) rfl (fun _ _ => CE.refl _) rfl) (o1 (SC.of (e := (eI .i64)) (d := 0) (v2 ++ (rdD z53 a0 v3).f0) (by intro x; rfl)) on)))))) (ih (v2 ++ (rdD z53 a0 v3).f0) (w64 (v3 + 1)) h)
    ·replace h := iq c8 h
     obtain ⟨t4, g11, h⟩ := bindN h
     let C11 := AvOrd.impl_ordered.con v2 t4 g11
     cases h
     exact rt func92 [.b false, .fin, .callM C11, .aft 18, orow 320192 (eI .i64) 0 r, .fin] (oF c8 (o1 (rfl : C11.f = C11.f) (o1 (rfl : C11.e = C11.e) (o1 (AvOrd.sc_in v2) (o1 (AvOrd.sc_out r) on)))))
 exact hd func92 [.fin, .nil 3 320192 3 1, orow 320192 (eI .i64) 0 ([] : List Int)] (o1 (GE.nil (eI .i64) 0) on) (H0 k ([] : List Int) 0 h)
def impl_Footprint.f (k : Nat) (a0 : S35) : Option (List Int) := if a0.f4 = true then ((impl_CellsUsed.f k a0.f5.f2).bind fun t1 => some t1) else (some ([] : List Int))
theorem impl_Footprint.go : Callable prog 52 := ⟨_, func52, by kernel_rfl, rfl⟩
theorem impl_Footprint.ok (k : Nat) (a0 : S35) (r : (List Int)) (h : impl_Footprint.f k a0 = some r) : VCalls prog 52 [.agg (e35 a0)] [.c (.own 3 1 r.length (fun j => (eI .i64) (r.getD j 0)))] := by
 unfold impl_Footprint.f at h
 refine VCalls.of (fn := f52) (N := 10) func52 rfl rfl (fun w0 => ?_)
 by_cases c1 : a0.f4 = true
 ·replace h := ip c1 h
  obtain ⟨t1, g2, h⟩ := bindN h
  let C2 := mkCon (impl_CellsUsed.ok k a0.f5.f2 t1 g2) impl_CellsUsed.go
  cases h
  exact rt func52 [.b false, .call C2, .fin] (o1 (bnf c1) (oc C2 on))
 ·replace h := iq c1 h
  cases h
  exact rt func52 [.b true, .fin, .nil 2 384128 3 1, orow 384128 (eI .i64) 0 ([] : List Int)] (oN c1 (o1 (GE.nil (eI .i64) 0) on))
def impl_FreeCells.h0T (a0 : S24) (v7 : Nat) (v6 : List Int) : List (Nat × AV) := [(1, .ptr 64 0), (3, .t (.c (.h 320192))), (10, .ptr 640 0)]
def impl_FreeCells.h0H (a0 : S24) (v7 : Nat) (v6 : List Int) : List (Nat × Content) := [(64, .box 24 [.p false (iI a0.f0), .p false (iI a0.f1), .p false (.sc (.string a0.f2))]), (640, .iter a0.f2 v7), (320192, .row 3 1 v6.length (fun j => (eI .i64) (v6.getD j 0)) true)]
def impl_FreeCells.l0 : Nat → S24 → List Int → Nat → Option (List Int)
 | 0, _, _, _ => none
 | kq + 1, a0, v6, v7 => if v7 < a0.f2.size then ((impl_isFree.f a0 ((v7 : Nat) : Int)).bind fun t8 => if t8 = true then (if (v6.length + 1) * 8 ≤ 140737488355328 then (impl_FreeCells.l0 kq a0 (v6 ++ [((v7 : Nat) : Int)]) (v7 + (Utf8.decode a0.f2 v7).2)) else none) else (impl_FreeCells.l0 kq a0 v6 (v7 + (Utf8.decode a0.f2 v7).2))) else (some v6)
def impl_FreeCells.f (k : Nat) (a0 : S24) : Option (List Int) := (impl_GridOk.f k a0).bind fun t1 => if t1 = true then (impl_FreeCells.l0 k a0 ([] : List Int) 0) else (some ([] : List Int))
theorem impl_FreeCells.go : Callable prog 108 := ⟨_, func108, by kernel_rfl, rfl⟩
theorem impl_FreeCells.ok (k : Nat) (a0 : S24) (r : (List Int)) (h : impl_FreeCells.f k a0 = some r) : VCalls prog 108 [.agg (e24 a0)] [.c (.own 3 1 r.length (fun j => (eI .i64) (r.getD j 0)))] := by
 unfold impl_FreeCells.f at h
 refine VCalls.of (fn := f108) (N := 22) func108 rfl rfl (fun w0 => ?_)
 obtain ⟨t1, g1, h⟩ := bindN h
 let C1 := mkCon (impl_GridOk.ok k a0 t1 g1) impl_GridOk.go
 by_cases c2 : t1 = true
 ·replace h := ip c2 h
  have H0 : ∀ (kq : Nat) (v6 : List Int) (v7 : Nat), impl_FreeCells.l0 kq a0 v6 v7 = some r → AG prog 108 22 [.c (.own 3 1 r.length (fun j => (eI .i64) (r.getD j 0)))] w0 (headStk (codeOf f108) 0) (mkFS (impl_FreeCells.h0T a0 v7 v6) (impl_FreeCells.h0H a0 v7 v6)) := by
   intro kq
   induction kq with
   | zero => intro v6 v7 h; cases h
   | succ kq ih =>
     intro v6 v7 h
     rw [impl_FreeCells.l0] at h
     by_cases c15 : v7 < a0.f2.size
     ·replace h := ip c15 h
      obtain ⟨t8, g16, h⟩ := bindN h
      let C16 := mkCon (impl_isFree.ok a0 ((v7 : Nat) : Int) t8 g16) impl_isFree.go
      by_cases c17 : t8 = true
      ·replace h := ip c17 h
       obtain ⟨c18, h⟩ := ifN h
       exact hd func108 [.dec 11 true, .b true, .call C16, .b true, rowe 19 (eI .i64) 0 ([((v7 : Nat) : Int)]), .aft 20, orow 320192 (eI .i64) 0 (v6 ++ [((v7 : Nat) : Int)]), .fin] (o1 c15 (oR (oc C16 (o1 c17 (o1 (GE.lit 1 (eI .i64) 0 [((v7 : Nat) : Int)] (by intro x; rfl)) (o1 c18 (o1 (GE.app (e := (eI .i64)) (d := 0) v6 ([((v7 : Nat) : Int)]) rfl (fun _ _ => CE.refl _) rfl) on))))))) (ih (v6 ++ [((v7 : Nat) : Int)]) (v7 + (Utf8.decode a0.f2 v7).2) h)
      ·replace h := iq c17 h
       exact hd func108 [.dec 11 true, .b true, .call C16, .b false, .fin] (o1 c15 (oR (oc C16 (o1 (eqf c17) on)))) (ih v6 (v7 + (Utf8.decode a0.f2 v7).2) h)
     ·replace h := iq c15 h
      cases h
      exact rt func108 [.dec 11 false, .b false, .fin, .fin] (o1 c15 (o1 (rfl : false = false) on))
  exact hd func108 [.call C1, .b false, .fin, .nil 3 320192 3 1, orow 320192 (eI .i64) 0 ([] : List Int)] (oc C1 (o1 (bnf c2) (o1 (GE.nil (eI .i64) 0) on))) (H0 k ([] : List Int) 0 h)
 ·replace h := iq c2 h
  cases h
  exact rt func108 [.call C1, .b true, .fin, .nil 2 384128 3 1, orow 384128 (eI .i64) 0 ([] : List Int)] (oc C1 (oN c2 (o1 (GE.nil (eI .i64) 0) on)))
def impl_Walled.h0T (a1 : List Int) (a0 : S24) (v6 : Int) (v5 : List Int) : List (Nat × AV) := [(1, .t (.c (.p false (R 1 (eI .i64) 0 a1)))), (2, .ptr 128 0), (4, .ptr 256 0), (5, .t (.c (.h 832))), (15, .t (.c (.p true (.sc (.int .i64 ((bytesOf a0.f2).length : Int)))))), (16, .t (.c (.p true (iI v6))))]
def impl_Walled.h0H (a1 : List Int) (a0 : S24) (v6 : Int) (v5 : List Int) : List (Nat × Content) := [(128, .box 24 [.p false (iI a0.f0), .p false (iI a0.f1), .p false (.sc (.string a0.f2))]), (256, .box 24 [.p true (iI 0), .p true (iI 0), .p true (.sc (.string (⟨#[]⟩ : ByteArray)))]), (832, .row 1099511627781 1 v5.length (fun j => (eI .u8) (v5.getD j 0)) true)]
def impl_Walled.l0 : Nat → S24 → List Int → List Int → Int → Option S24
 | 0, _, _, _, _ => none
 | kq + 1, a0, a1, v5, v6 => if v6 < ((bytesOf a0.f2).length : Int) then ((slices_Contains_int_int.f kq a1 v6).bind fun t7 => if t7 = true then (if 0 ≤ v6 then (if v6 < (v5.length : Int) then (impl_Walled.l0 kq a0 a1 (v5.set v6.toNat 35) (w64 (v6 + 1))) else none) else none) else (impl_Walled.l0 kq a0 a1 v5 (w64 (v6 + 1)))) else (if isBytes v5 = true then (some (⟨a0.f0, a0.f1, (strOf v5)⟩ : S24)) else none)
def impl_Walled.f (k : Nat) (a0 : S24) (a1 : List Int) : Option S24 := (impl_GridOk.f k a0).bind fun t1 => if t1 = true then (if a0.f2.size ≤ maxLen then (impl_Walled.l0 k a0 a1 (bytesOf a0.f2) 0) else none) else (some a0)
theorem impl_Walled.go : Callable prog 106 := ⟨_, func106, by kernel_rfl, rfl⟩
theorem impl_Walled.ok (k : Nat) (a0 : S24) (a1 : List Int) (r : S24) (h : impl_Walled.f k a0 a1 = some r) : VCalls prog 106 [.agg (e24 a0), .c (R 1 (eI .i64) 0 a1)] [.agg (r24 r)] := by
 unfold impl_Walled.f at h
 refine VCalls.of (fn := f106) (N := 33) func106 rfl rfl (fun w0 => ?_)
 obtain ⟨t1, g1, h⟩ := bindN h
 let C1 := mkCon (impl_GridOk.ok k a0 t1 g1) impl_GridOk.go
 by_cases c2 : t1 = true
 ·replace h := ip c2 h
  obtain ⟨c3, h⟩ := ifN h
  have H0 : ∀ (kq : Nat) (v5 : List Int) (v6 : Int), impl_Walled.l0 kq a0 a1 v5 v6 = some r → AG prog 106 33 [.agg (r24 r)] w0 (headStk (codeOf f106) 0) (mkFS (impl_Walled.h0T a1 a0 v6 v5) (impl_Walled.h0H a1 a0 v6 v5)) := by
   intro kq
   induction kq with
   | zero => intro v5 v6 h; cases h
   | succ kq ih =>
     intro v5 v6 h
     rw [impl_Walled.l0] at h
     by_cases c11 : v6 < ((bytesOf a0.f2).length : Int)
     ·replace h := ip c11 h
      obtain ⟨t7, g12, h⟩ := bindN h
      let C12 := mkCon (slices_Contains_int_int.ok kq a1 v6 t7 g12) slices_Contains_int_int.go
      by_cases c13 : t7 = true
      ·replace h := ip c13 h
       obtain ⟨c14, h⟩ := ifN h
       obtain ⟨c15, h⟩ := ifN h
       exact hd func106 [.b true, .call C12, .b true, .aft 999999, orow 832 (eI .u8) 0 (v5.set v6.toNat 35), .fin] (oT c11 (oc C12 (o1 c13 (o1 c14 (o1 c15 (o1 (GE.set (e := (eI .u8)) (d := 0) v5 v6.toNat 35 (lt_toNat c14 c15) rfl) on)))))) (ih (v5.set v6.toNat 35) (w64 (v6 + 1)) h)
      ·replace h := iq c13 h
       exact hd func106 [.b true, .call C12, .b false, .fin] (oT c11 (oc C12 (o1 (eqf c13) on))) (ih v5 (w64 (v6 + 1)) h)
     ·replace h := iq c11 h
      obtain ⟨c16, h⟩ := ifN h
      cases h
      exact rt func106 [.b false, .fin, .cst 31 (.sc (.string (strOf v5))), .fin] (oF c11 (o1 (ByOk.of c16) (o1 (VE.str v5) on)))
  exact hd func106 [.call C1, .b false, rowe 13 (eI .u8) 0 (bytesOf a0.f2), .fin] (oc C1 (o1 (bnf c2) (o1 c3 (o1 (GE.bytes a0.f2) on)))) (H0 k (bytesOf a0.f2) 0 h)
 ·replace h := iq c2 h
  cases h
  exact rt func106 [.call C1, .b true, .fin] (oc C1 (oN c2 on))
def impl_onlyCells.f (k : Nat) (a0 : S24) (a1 : List Int) : Option S24 := (impl_FreeCells.f k a0).bind fun v => (AvDel.del.f a1 v).bind fun u => impl_Walled.f k a0 u
theorem impl_onlyCells.go : Callable prog 54 := ⟨_, func54, by kernel_rfl, rfl⟩
theorem impl_onlyCells.ok (k : Nat) (a0 : S24) (a1 : List Int) (r : S24) (h : impl_onlyCells.f k a0 a1 = some r) : VCalls prog 54 [.agg (e24 a0), .c (R 1 (eI .i64) 0 a1)] [.agg (r24 r)] := by
 unfold impl_onlyCells.f at h
 refine VCalls.of (fn := f54) (N := 11) func54 rfl rfl (fun w0 => ?_)
 obtain ⟨v, g1, h⟩ := bindN h
 obtain ⟨u, g2, h⟩ := bindN h
 let C1 := mkCon (impl_FreeCells.ok k a0 v g1) impl_FreeCells.go
 let C2 := AvDel.del.con a1 v u g2
 let C3 := mkCon (impl_Walled.ok k a0 u r h) impl_Walled.go
 have b2 := sc_ C1
 have b4 := o1 (rfl : C2.f = C2.f) (o1 (rfl : C2.e = C2.e) (o1 (AvOrd.sc_in v) (o1 (rfl : 109 = 109) (o1 (VE.refl (rowI .i64 a1)) on))))
 have b5 := o1 (rfl : C3.f = C3.f) (o1 (VE.refl (iI a0.f0)) (o1 (VE.refl (iI a0.f1)) (o1 (VE.refl (.sc (.string a0.f2))) (o1 (VE.row (z := 1) (AvOrd.sc_out u)) on))))
 have lf := selfS_ok [(4, .ptr 256 0)] [(256, .box 24 [.p true (iI r.f0), .p true (iI r.f1), .p true (.sc (.string r.f2))])]
 have n1 := (oa lf on)
 have n2 := (oa (oa b5 n1) on)
 have n3 := (oa n2 on)
 have n4 := (oa (oa b4 n2) on)
 have n5 := (oa n4 (oa (oa b4 n3) on))
 have n6 := (oa (oa b2 n4) on)
 have n7 := (oa n6 (oa (oa b2 n5) on))
 have n8 := (oa n6 on)
 have n9 := (oa n8 (oa n7 on))
 have n10 := (oa n4 on)
 have n11 := (oa n10 (oa n5 on))
 have n12 := (oa (oa b2 n10) (oa n6 on))
 have n13 := (oa n12 (oa (oa b2 n11) (oa n7 on)))
 have n14 := (oa n12 (oa n8 on))
 have n15 := (oa n14 (oa n13 (oa n9 on)))
 exact rt func54 [.anyR 6 [(4, .ptr 256 0)] [(256, .box 24 [.p true (iI r.f0), .p true (iI r.f1), .p true (.sc (.string r.f2))])], .reg 2, .call C1, .reg 4, .callM C2, .reg 5, .call C3, .fin] (oa n15 on)
def impl_firstCells.h0T (a0 : List S53) (v3 : Int) (v2 : List Int) : List (Nat × AV) := [(3, .t (.c (.h 320192))), (6, .t (.c (.p false (R 1 e53 z53 a0)))), (7, .t (.c (.p true (.sc (.int .i64 (a0.length : Int)))))), (8, .t (.c (.p true (iI v3))))]
def impl_firstCells.h0H (a0 : List S53) (v3 : Int) (v2 : List Int) : List (Nat × Content) := [(320192, .row 3 1 v2.length (fun j => (eI .i64) (v2.getD j 0)) true)]
def impl_firstCells.l0 : Nat → List S53 → List Int → Int → Option (List Int)
 | 0, _, _, _ => none
 | kq + 1, a0, v2, v3 => if v3 < (a0.length : Int) then (if 0 ≤ v3 then (if 0 < (((rdD z53 a0 v3).f0).length : Int) then (if (v2.length + 1) * 8 ≤ 140737488355328 then (impl_firstCells.l0 kq a0 (v2 ++ [(rdD 0 ((rdD z53 a0 v3).f0) 0)]) (w64 (v3 + 1))) else none) else none) else none) else (some v2)
def impl_firstCells.f (k : Nat) (a0 : List S53) : Option (List Int) := impl_firstCells.l0 k a0 ([] : List Int) 0
theorem impl_firstCells.go : Callable prog 55 := ⟨_, func55, by kernel_rfl, rfl⟩
theorem impl_firstCells.ok (k : Nat) (a0 : List S53) (r : (List Int)) (h : impl_firstCells.f k a0 = some r) : VCalls prog 55 [.c (R 1 e53 z53 a0)] [.c (.own 3 1 r.length (fun j => (eI .i64) (r.getD j 0)))] := by
 unfold impl_firstCells.f at h
 refine VCalls.of (fn := f55) (N := 21) func55 rfl rfl (fun w0 => ?_)
 have H0 : ∀ (kq : Nat) (v2 : List Int) (v3 : Int), impl_firstCells.l0 kq a0 v2 v3 = some r → AG prog 55 21 [.c (.own 3 1 r.length (fun j => (eI .i64) (r.getD j 0)))] w0 (headStk (codeOf f55) 0) (mkFS (impl_firstCells.h0T a0 v3 v2) (impl_firstCells.h0H a0 v3 v2)) := by
  intro kq
  induction kq with
  | zero => intro v2 v3 h; cases h
  | succ kq ih =>
    intro v2 v3 h
    rw [impl_firstCells.l0] at h
    by_cases c11 : v3 < (a0.length : Int)
    ·replace h := ip c11 h
     obtain ⟨c12, h⟩ := ifN h
     obtain ⟨c13, h⟩ := ifN h
     obtain ⟨c14, h⟩ := ifN h
     exact hd func55 [.b true, rowe 17 (eI .i64) 0 ([(rdD 0 ((rdD z53 a0 v3).f0) 0)]), .aft 18, orow 320192 (eI .i64) 0 (v2 ++ [(rdD 0 ((rdD z53 a0 v3).f0) 0)]), .fin] (oT c11 (o1 c12 (o1 c11 (o1 (by decide : (0 : Int) ≤ 0) (o1 c13 (o1 (GE.lit 1 (eI .i64) 0 [(rdD 0 ((rdD z53 a0 v3).f0) 0)] (by intro x; rfl)) (o1 c14 (o1 (GE.app (e := (eI .i64)) (d := 0) v2 ([(rdD 0 ((rdD z53 a0 v3).f0) 0)]) rfl (fun _ _ => CE.refl _) rfl) on)))))))) (ih (v2 ++ [(rdD 0 ((rdD z53 a0 v3).f0) 0)]) (w64 (v3 + 1)) h)
    ·replace h := iq c11 h
     cases h
     exact rt func55 [.b false, .fin, .fin] (oF c11 on)
 exact hd func55 [.fin, .nil 3 320192 3 1, orow 320192 (eI .i64) 0 ([] : List Int)] (o1 (GE.nil (eI .i64) 0) on) (H0 k ([] : List Int) 0 h)
def impl_EndsOf.h0T (a0 : List S53) (v3 : Int) (v2 : List Int) : List (Nat × AV) := [(3, .t (.c (.h 320192))), (6, .t (.c (.p false (R 1 e53 z53 a0)))), (7, .t (.c (.p true (.sc (.int .i64 (a0.length : Int)))))), (8, .t (.c (.p true (iI v3))))]
def impl_EndsOf.h0H (a0 : List S53) (v3 : Int) (v2 : List Int) : List (Nat × Content) := [(320192, .row 3 1 v2.length (fun j => (eI .i64) (v2.getD j 0)) true)]
def impl_EndsOf.l0 : Nat → List S53 → List Int → Int → Option (List Int)
 | 0, _, _, _ => none
 | kq + 1, a0, v2, v3 => if v3 < (a0.length : Int) then (if 0 ≤ v3 then (if 0 < (((rdD z53 a0 v3).f0).length : Int) then (if 0 ≤ (w64 ((((rdD z53 a0 v3).f0).length : Int) - 1)) then (if (w64 ((((rdD z53 a0 v3).f0).length : Int) - 1)) < (((rdD z53 a0 v3).f0).length : Int) then (if (v2.length + 1) * 8 ≤ 140737488355328 then (impl_EndsOf.l0 kq a0 (v2 ++ [(rdD 0 ((rdD z53 a0 v3).f0) (w64 ((((rdD z53 a0 v3).f0).length : Int) - 1)))]) (w64 (v3 + 1))) else none) else none) else none) else (impl_EndsOf.l0 kq a0 v2 (w64 (v3 + 1)))) else none) else ((AvOrd.impl_ordered.f v2).bind fun t4 => some t4)
def impl_EndsOf.f (k : Nat) (a0 : List S53) : Option (List Int) := impl_EndsOf.l0 k a0 ([] : List Int) 0
theorem impl_EndsOf.go : Callable prog 93 := ⟨_, func93, by kernel_rfl, rfl⟩
theorem impl_EndsOf.ok (k : Nat) (a0 : List S53) (r : (List Int)) (h : impl_EndsOf.f k a0 = some r) : VCalls prog 93 [.c (R 1 e53 z53 a0)] [.c (.own 3 1 r.length (fun j => (eI .i64) (r.getD j 0)))] := by
 unfold impl_EndsOf.f at h
 refine VCalls.of (fn := f93) (N := 30) func93 rfl rfl (fun w0 => ?_)
 have H0 : ∀ (kq : Nat) (v2 : List Int) (v3 : Int), impl_EndsOf.l0 kq a0 v2 v3 = some r → AG prog 93 30 [.c (.own 3 1 r.length (fun j => (eI .i64) (r.getD j 0)))] w0 (headStk (codeOf f93) 0) (mkFS (impl_EndsOf.h0T a0 v3 v2) (impl_EndsOf.h0H a0 v3 v2)) := by
  intro kq
  induction kq with
  | zero => intro v2 v3 h; cases h
  | succ kq ih =>
    intro v2 v3 h
    rw [impl_EndsOf.l0] at h
    by_cases c17 : v3 < (a0.length : Int)
    ·replace h := ip c17 h
     obtain ⟨c18, h⟩ := ifN h
     by_cases c19 : 0 < (((rdD z53 a0 v3).f0).length : Int)
     ·replace h := ip c19 h
      obtain ⟨c20, h⟩ := ifN h
      obtain ⟨c21, h⟩ := ifN h
      obtain ⟨c22, h⟩ := ifN h
      exact hd func93 [.b true, .b true, rowe 25 (eI .i64) 0 ([(rdD 0 ((rdD z53 a0 v3).f0) (w64 ((((rdD z53 a0 v3).f0).length : Int) - 1)))]), .aft 26, orow 320192 (eI .i64) 0 (v2 ++ [(rdD 0 ((rdD z53 a0 v3).f0) (w64 ((((rdD z53 a0 v3).f0).length : Int) - 1)))]), .fin] (oT c17 (o1 c18 (o1 c17 (oT c19 (o1 c20 (o1 c21 (o1 (GE.lit 1 (eI .i64) 0 [(rdD 0 ((rdD z53 a0 v3).f0) (w64 ((((rdD z53 a0 v3).f0).length : Int) - 1)))] (by intro x; rfl)) (o1 c22 (o1 (GE.app (e := (eI .i64)) (d := 0) v2 ([(rdD 0 ((rdD z53 a0 v3).f0) (w64 ((((rdD z53 a0 v3).f0).length : Int) - 1)))]) rfl (fun _ _ => CE.refl _) rfl) on))))))))) (ih (v2 ++ [(rdD 0 ((rdD z53 a0 v3).f0) (w64 ((((rdD z53 a0 v3).f0).length : Int) - 1)))]) (w64 (v3 + 1)) h)
     ·replace h := iq c19 h
      exact hd func93 [.b true, .b false, .fin] (oT c17 (o1 c18 (o1 c17 (oF c19 on)))) (ih v2 (w64 (v3 + 1)) h)
    ·replace h := iq c17 h
     obtain ⟨t4, g23, h⟩ := bindN h
     let C23 := AvOrd.impl_ordered.con v2 t4 g23
     cases h
     exact rt func93 [.b false, .fin, .callM C23, .aft 29, orow 320192 (eI .i64) 0 r, .fin] (oF c17 (o1 (rfl : C23.f = C23.f) (o1 (rfl : C23.e = C23.e) (o1 (AvOrd.sc_in v2) (o1 (AvOrd.sc_out r) on)))))
 exact hd func93 [.fin, .nil 3 320192 3 1, orow 320192 (eI .i64) 0 ([] : List Int)] (o1 (GE.nil (eI .i64) 0) on) (H0 k ([] : List Int) 0 h)
def impl_isAsked.f (k : Nat) (a0 : S24) (a1 : List Int) (a2 : List Int) : Option Bool := (impl_areFree.f k a0 a1).bind fun t1 => if t1 = true then ((impl_areFree.f k a0 a2).bind fun t2 => if t2 = true then (if (a1.length : Int) < 1 then (some false) else (if 10 < (a1.length : Int) then (some false) else ((impl_isAscending.f k a1).bind fun t3 => if t3 = true then ((impl_isAscending.f k a2).bind fun t4 => if t4 = true then (some (decide ((a2.length : Int) ≤ (a1.length : Int)))) else (some false)) else (some false)))) else (some false)) else (some false)
theorem impl_isAsked.go : Callable prog 127 := ⟨_, func127, by kernel_rfl, rfl⟩
theorem impl_isAsked.ok (k : Nat) (a0 : S24) (a1 : List Int) (a2 : List Int) (r : Bool) (h : impl_isAsked.f k a0 a1 a2 = some r) : VCalls prog 127 [.agg (e24 a0), .c (R 1 (eI .i64) 0 a1), .c (R 1 (eI .i64) 0 a2)] [.c (.p (.sc (.bool r)))] := by
 unfold impl_isAsked.f at h
 refine VCalls.of (fn := f127) (N := 40) func127 rfl rfl (fun w0 => ?_)
 obtain ⟨t1, g1, h⟩ := bindN h
 let C1 := mkCon (impl_areFree.ok k a0 a1 t1 g1) impl_areFree.go
 by_cases c2 : t1 = true
 ·replace h := ip c2 h
  obtain ⟨t2, g3, h⟩ := bindN h
  let C3 := mkCon (impl_areFree.ok k a0 a2 t2 g3) impl_areFree.go
  by_cases c4 : t2 = true
  ·replace h := ip c4 h
   by_cases c5 : (a1.length : Int) < 1
   ·replace h := ip c5 h
    cases h
    exact rt func127 [.call C1, .dec 11 false, .call C3, .dec 17 false, .dec 22 true, .b true, .fin] (oc C1 (o1 (bnf c2) (oc C3 (o1 (bnf c4) (oT c5 (oR on))))))
   ·replace h := iq c5 h
    by_cases c6 : 10 < (a1.length : Int)
    ·replace h := ip c6 h
     cases h
     exact rt func127 [.call C1, .dec 11 false, .call C3, .dec 17 false, .dec 22 false, .b true, .fin] (oc C1 (o1 (bnf c2) (oc C3 (o1 (bnf c4) (oF c5 (oT c6 on))))))
    ·replace h := iq c6 h
     obtain ⟨t3, g7, h⟩ := bindN h
     let C7 := mkCon (impl_isAscending.ok k a1 t3 g7) impl_isAscending.go
     by_cases c8 : t3 = true
     ·replace h := ip c8 h
      obtain ⟨t4, g9, h⟩ := bindN h
      let C9 := mkCon (impl_isAscending.ok k a2 t4 g9) impl_isAscending.go
      by_cases c10 : t4 = true
      ·replace h := ip c10 h
       cases h
       exact rt func127 [.call C1, .dec 11 false, .call C3, .dec 17 false, .dec 22 false, .b false, .call C7, .dec 29 true, .call C9, .dec 33 true, .fin] (oc C1 (o1 (bnf c2) (oc C3 (o1 (bnf c4) (oF c5 (oF c6 (oc C7 (o1 c8 (oc C9 (o1 c10 on))))))))))
      ·replace h := iq c10 h
       cases h
       exact rt func127 [.call C1, .dec 11 false, .call C3, .dec 17 false, .dec 22 false, .b false, .call C7, .dec 29 true, .call C9, .dec 33 false, .fin] (oc C1 (o1 (bnf c2) (oc C3 (o1 (bnf c4) (oF c5 (oF c6 (oc C7 (o1 c8 (oc C9 (o1 (eqf c10) on))))))))))
     ·replace h := iq c8 h
      cases h
      exact rt func127 [.call C1, .dec 11 false, .call C3, .dec 17 false, .dec 22 false, .b false, .call C7, .dec 29 false, .fin] (oc C1 (o1 (bnf c2) (oc C3 (o1 (bnf c4) (oF c5 (oF c6 (oc C7 (o1 (eqf c8) on))))))))
  ·replace h := iq c4 h
   cases h
   exact rt func127 [.call C1, .dec 11 false, .call C3, .dec 17 true, .b true, .fin] (oc C1 (o1 (bnf c2) (oc C3 (oN c4 (oR on)))))
 ·replace h := iq c2 h
  cases h
  exact rt func127 [.call C1, .dec 11 true, .b true, .fin] (oc C1 (oN c2 (oR on)))
def impl_AskOk.f (k : Nat) (a0 : S24) (a1 : List Int) (a2 : List Int) (a3 : Int) : Option Bool := (impl_isAsked.f k a0 a1 a2).bind fun t1 => if t1 = true then (if 0 ≤ a3 then (if a3 ≤ 20 then ((impl_FreeCells.f k a0).bind fun t2 => some (decide ((w64 ((t2.length : Int) * (w64 (a3 + 1)))) ≤ 240))) else (some false)) else (some false)) else (some false)
theorem impl_AskOk.go : Callable prog 94 := ⟨_, func94, by kernel_rfl, rfl⟩
theorem impl_AskOk.ok (k : Nat) (a0 : S24) (a1 : List Int) (a2 : List Int) (a3 : Int) (r : Bool) (h : impl_AskOk.f k a0 a1 a2 a3 = some r) : VCalls prog 94 [.agg (e24 a0), .c (R 1 (eI .i64) 0 a1), .c (R 1 (eI .i64) 0 a2), .c (iI a3)] [.c (.p (.sc (.bool r)))] := by
 unfold impl_AskOk.f at h
 refine VCalls.of (fn := f94) (N := 30) func94 rfl rfl (fun w0 => ?_)
 obtain ⟨t1, g1, h⟩ := bindN h
 let C1 := mkCon (impl_isAsked.ok k a0 a1 a2 t1 g1) impl_isAsked.go
 by_cases c2 : t1 = true
 ·replace h := ip c2 h
  by_cases c3 : 0 ≤ a3
  ·replace h := ip c3 h
   by_cases c4 : a3 ≤ 20
   ·replace h := ip c4 h
    obtain ⟨t2, g5, h⟩ := bindN h
    let C5 := mkCon (impl_FreeCells.ok k a0 t2 g5) impl_FreeCells.go
    cases h
    exact rt func94 [.call C1, .dec 13 true, .dec 17 true, .dec 21 true, .call C5, .fin] (oc C1 (o1 c2 (oT c3 (oT c4 (oc C5 on)))))
   ·replace h := iq c4 h
    cases h
    exact rt func94 [.call C1, .dec 13 true, .dec 17 true, .dec 21 false, .fin] (oc C1 (o1 c2 (oT c3 (oF c4 on))))
  ·replace h := iq c3 h
   cases h
   exact rt func94 [.call C1, .dec 13 true, .dec 17 false, .fin] (oc C1 (o1 c2 (oF c3 on)))
 ·replace h := iq c2 h
  cases h
  exact rt func94 [.call C1, .dec 13 false, .fin] (oc C1 (o1 (eqf c2) on))
def impl_formFault.h0T (a0 : List Int) (a1 : S32) (v1 : Int) : List (Nat × AV) := [(0, .t (.c (.p false (R 1 (eI .i64) 0 a0)))), (3, .ptr 192 0), (14, .t (.c (.p false (R 1 e53 z53 a1.f2)))), (15, .t (.c (.p true (.sc (.int .i64 (a1.f2.length : Int)))))), (16, .t (.c (.p true (iI v1))))]
def impl_formFault.h0H (a0 : List Int) (a1 : S32) (v1 : Int) : List (Nat × Content) := [(192, .box 32 [.p false (iI a1.f0), .p false (iI a1.f1), .p false (R 1 e53 z53 a1.f2)])]
def impl_formFault.l0 : Nat → S32 → List Int → Int → Option Bool
 | 0, _, _, _ => none
 | kq + 1, a1, a0, v1 => if v1 < (a1.f2.length : Int) then (if 0 ≤ v1 then (if (((rdD z53 a1.f2 v1).f0).length : Int) = (w64 (a1.f0 + 1)) then (if 0 < (((rdD z53 a1.f2 v1).f0).length : Int) then (if v1 < (a0.length : Int) then (if (rdD 0 ((rdD z53 a1.f2 v1).f0) 0) = (rdD 0 a0 v1) then (impl_formFault.l0 kq a1 a0 (w64 (v1 + 1))) else (some true)) else none) else none) else (some true)) else none) else (some false)
def impl_formFault.f (k : Nat) (a0 : List Int) (a1 : S32) : Option Bool := if (a1.f2.length : Int) = (a0.length : Int) then (impl_formFault.l0 k a1 a0 0) else (some true)
theorem impl_formFault.go : Callable prog 95 := ⟨_, func95, by kernel_rfl, rfl⟩
theorem impl_formFault.ok (k : Nat) (a0 : List Int) (a1 : S32) (r : Bool) (h : impl_formFault.f k a0 a1 = some r) : VCalls prog 95 [.c (R 1 (eI .i64) 0 a0), .agg (e32 a1)] [.c (.p (.sc (.bool r)))] := by
 unfold impl_formFault.f at h
 refine VCalls.of (fn := f95) (N := 40) func95 rfl rfl (fun w0 => ?_)
 by_cases c1 : (a1.f2.length : Int) = (a0.length : Int)
 ·replace h := ip c1 h
  have H0 : ∀ (kq : Nat) (v1 : Int), impl_formFault.l0 kq a1 a0 v1 = some r → AG prog 95 40 [.c (.p (.sc (.bool r)))] w0 (headStk (codeOf f95) 0) (mkFS (impl_formFault.h0T a0 a1 v1) (impl_formFault.h0H a0 a1 v1)) := by
   intro kq
   induction kq with
   | zero => intro v1 h; cases h
   | succ kq ih =>
     intro v1 h
     rw [impl_formFault.l0] at h
     by_cases c7 : v1 < (a1.f2.length : Int)
     ·replace h := ip c7 h
      obtain ⟨c8, h⟩ := ifN h
      by_cases c9 : (((rdD z53 a1.f2 v1).f0).length : Int) = (w64 (a1.f0 + 1))
      ·replace h := ip c9 h
       obtain ⟨c10, h⟩ := ifN h
       obtain ⟨c11, h⟩ := ifN h
       by_cases c12 : (rdD 0 ((rdD z53 a1.f2 v1).f0) 0) = (rdD 0 a0 v1)
       ·replace h := ip c12 h
        exact hd func95 [.b true, .dec 28 false, .b false, .fin] (oT c7 (o1 c8 (o1 c7 (o1 (bnf (decide_eq_true c9)) (o1 (by decide : (0 : Int) ≤ 0) (o1 c10 (o1 c8 (o1 c11 (o1 (bnf (decide_eq_true c12)) on))))))))) (ih (w64 (v1 + 1)) h)
       ·replace h := iq c12 h
        cases h
        exact rt func95 [.b true, .dec 28 false, .b true, .fin] (oT c7 (o1 c8 (o1 c7 (o1 (bnf (decide_eq_true c9)) (o1 (by decide : (0 : Int) ≤ 0) (o1 c10 (o1 c8 (o1 c11 (o1 (bnt (decide_eq_false c12)) on)))))))))
      ·replace h := iq c9 h
       cases h
       exact rt func95 [.b true, .dec 28 true, .b true, .fin] (oT c7 (o1 c8 (o1 c7 (o1 (bnt (decide_eq_false c9)) (oR on)))))
     ·replace h := iq c7 h
      cases h
      exact rt func95 [.b false, .fin, .fin] (oF c7 on)
  exact hd func95 [.b false, .fin] (o1 (bnf (decide_eq_true c1)) on) (H0 k 0 h)
 ·replace h := iq c1 h
  cases h
  exact rt func95 [.b true, .fin] (o1 (bnt (decide_eq_false c1)) on)
def impl_stepFault.h1T (a1 : List S53) (v7 : Int) (v9 : Int) (a0 : S24) : List (Nat × AV) := [(2, .ptr 128 0), (6, .ptr 384 0), (9, .t (.c (.p false (R 1 e53 z53 a1)))), (10, .t (.c (.p true (.sc (.int .i64 (a1.length : Int)))))), (11, .t (.c (.p true (iI v7)))), (16, .t (.c (.p false (R 1 (eI .i64) 0 ((rdD z53 a1 v7).f0))))), (17, .t (.c (.p true (.sc (.int .i64 (((rdD z53 a1 v7).f0).length : Int)))))), (18, .t (.c (.p true (iI v9))))]
def impl_stepFault.h1H (a1 : List S53) (v7 : Int) (v9 : Int) (a0 : S24) : List (Nat × Content) := [(128, .box 24 [.p false (iI a0.f0), .p false (iI a0.f1), .p false (.sc (.string a0.f2))]), (384, .box 53 [.p false (R 1 (eI .i64) 0 ((rdD z53 a1 v7).f0))])]
def impl_stepFault.x1T (a1 : List S53) (v7 : Int) (a0 : S24) : List (Nat × AV) := [(2, .ptr 128 0), (9, .t (.c (.p false (R 1 e53 z53 a1)))), (10, .t (.c (.p true (.sc (.int .i64 (a1.length : Int)))))), (11, .t (.c (.p true (iI v7))))]
def impl_stepFault.x1H (a1 : List S53) (v7 : Int) (a0 : S24) : List (Nat × Content) := [(128, .box 24 [.p false (iI a0.f0), .p false (iI a0.f1), .p false (.sc (.string a0.f2))])]
def impl_stepFault.l1 : Nat → List S53 → Int → S24 → Int → Option (Bool ⊕ Unit)
 | 0, _, _, _, _ => none
 | kq + 1, a1, v7, a0, v9 => if v9 < (((rdD z53 a1 v7).f0).length : Int) then (if 0 ≤ v9 then ((impl_isFree.f a0 (rdD 0 ((rdD z53 a1 v7).f0) v9)).bind fun t10 => if t10 = true then (if 0 < v9 then (if 0 ≤ (w64 (v9 - 1)) then (if (w64 (v9 - 1)) < (((rdD z53 a1 v7).f0).length : Int) then (if (rdD 0 ((rdD z53 a1 v7).f0) v9) = (rdD 0 ((rdD z53 a1 v7).f0) (w64 (v9 - 1))) then (impl_stepFault.l1 kq a1 v7 a0 (w64 (v9 + 1))) else ((impl_around.f a0 (rdD 0 ((rdD z53 a1 v7).f0) (w64 (v9 - 1)))).bind fun t11 => (slices_Contains_int_int.f kq t11 (rdD 0 ((rdD z53 a1 v7).f0) v9)).bind fun t12 => if t12 = true then (impl_stepFault.l1 kq a1 v7 a0 (w64 (v9 + 1))) else (some (.inl true)))) else none) else none) else (impl_stepFault.l1 kq a1 v7 a0 (w64 (v9 + 1)))) else (some (.inl true))) else none) else (some (.inr ()))
def impl_stepFault.h0T (a1 : List S53) (v7 : Int) (a0 : S24) : List (Nat × AV) := [(2, .ptr 128 0), (9, .t (.c (.p false (R 1 e53 z53 a1)))), (10, .t (.c (.p true (.sc (.int .i64 (a1.length : Int)))))), (11, .t (.c (.p true (iI v7))))]
def impl_stepFault.h0H (a1 : List S53) (v7 : Int) (a0 : S24) : List (Nat × Content) := [(128, .box 24 [.p false (iI a0.f0), .p false (iI a0.f1), .p false (.sc (.string a0.f2))])]
def impl_stepFault.l0 : Nat → List S53 → S24 → Int → Option Bool
 | 0, _, _, _ => none
 | kq + 1, a1, a0, v7 => if v7 < (a1.length : Int) then (if 0 ≤ v7 then ((impl_stepFault.l1 kq a1 v7 a0 0).bind fun x40 => match x40 with | .inl r => some r | .inr y13 => (impl_stepFault.l0 kq a1 a0 (w64 (v7 + 1)))) else none) else (some false)
def impl_stepFault.f (k : Nat) (a0 : S24) (a1 : List S53) : Option Bool := impl_stepFault.l0 k a1 a0 0
theorem impl_stepFault.go : Callable prog 96 := ⟨_, func96, by kernel_rfl, rfl⟩
theorem impl_stepFault.ok (k : Nat) (a0 : S24) (a1 : List S53) (r : Bool) (h : impl_stepFault.f k a0 a1 = some r) : VCalls prog 96 [.agg (e24 a0), .c (R 1 e53 z53 a1)] [.c (.p (.sc (.bool r)))] := by
 unfold impl_stepFault.f at h
 refine VCalls.of (fn := f96) (N := 56) func96 rfl rfl (fun w0 => ?_)
 have H0 : ∀ (kq : Nat) (v7 : Int), impl_stepFault.l0 kq a1 a0 v7 = some r → AG prog 96 56 [.c (.p (.sc (.bool r)))] w0 (headStk (codeOf f96) 0) (mkFS (impl_stepFault.h0T a1 v7 a0) (impl_stepFault.h0H a1 v7 a0)) := by
  intro kq
  induction kq with
  | zero => intro v7 h; cases h
  | succ kq ih =>
    intro v7 h
    rw [impl_stepFault.l0] at h
    by_cases c20 : v7 < (a1.length : Int)
    ·replace h := ip c20 h
     obtain ⟨c21, h⟩ := ifN h
     have H1 : ∀ (kq : Nat) (v9 : Int) (x : (Bool ⊕ Unit)), impl_stepFault.l1 kq a1 v7 a0 v9 = some x → (match x with | .inl r' => r' = r | .inr y13 => AG prog 96 56 [.c (.p (.sc (.bool r)))] w0 (exitStk (codeOf f96) 1) (mkFS (impl_stepFault.x1T a1 v7 a0) (impl_stepFault.x1H a1 v7 a0))) → AG prog 96 56 [.c (.p (.sc (.bool r)))] w0 (headStk (codeOf f96) 1) (mkFS (impl_stepFault.h1T a1 v7 v9 a0) (impl_stepFault.h1H a1 v7 v9 a0)) := by
      intro kq
      induction kq with
      | zero => intro v9 x h hx; cases h
      | succ kq ih =>
        intro v9 x h hx
        rw [impl_stepFault.l1] at h
        by_cases c29 : v9 < (((rdD z53 a1 v7).f0).length : Int)
        ·replace h := ip c29 h
         obtain ⟨c30, h⟩ := ifN h
         obtain ⟨t10, g31, h⟩ := bindN h
         let C31 := mkCon (impl_isFree.ok a0 (rdD 0 ((rdD z53 a1 v7).f0) v9) t10 g31) impl_isFree.go
         by_cases c32 : t10 = true
         ·replace h := ip c32 h
          by_cases c33 : 0 < v9
          ·replace h := ip c33 h
           obtain ⟨c34, h⟩ := ifN h
           obtain ⟨c35, h⟩ := ifN h
           by_cases c36 : (rdD 0 ((rdD z53 a1 v7).f0) v9) = (rdD 0 ((rdD z53 a1 v7).f0) (w64 (v9 - 1)))
           ·replace h := ip c36 h
            exact hd func96 [.b true, .call C31, .dec 27 false, .dec 30 true, .dec 40 false, .b false, .fin] (oT c29 (o1 c30 (o1 c29 (oc C31 (o1 (bnf c32) (oT c33 (o1 c34 (o1 c35 (o1 (bnf (decide_eq_true c36)) (o1 (rfl : false = false) on)))))))))) (ih (w64 (v9 + 1)) _ h hx)
           ·replace h := iq c36 h
            obtain ⟨t11, g37, h⟩ := bindN h
            let C37 := mkCon (impl_around.ok a0 (rdD 0 ((rdD z53 a1 v7).f0) (w64 (v9 - 1))) t11 g37) impl_around.go
            obtain ⟨t12, g38, h⟩ := bindN h
            let C38 := mkCon (slices_Contains_int_int.ok kq t11 (rdD 0 ((rdD z53 a1 v7).f0) v9) t12 g38) slices_Contains_int_int.go
            by_cases c39 : t12 = true
            ·replace h := ip c39 h
             exact hd func96 [.b true, .call C31, .dec 27 false, .dec 30 true, .dec 40 true, .call C37, .call C38, .b false, .fin] (oT c29 (o1 c30 (o1 c29 (oc C31 (o1 (bnf c32) (oT c33 (o1 c34 (o1 c35 (o1 (bnt (decide_eq_false c36)) (o1 c34 (o1 c35 (oc C37 (oc C38 (o1 (bnf c39) on)))))))))))))) (ih (w64 (v9 + 1)) _ h hx)
            ·replace h := iq c39 h
             cases h
             subst hx
             exact rt func96 [.b true, .call C31, .dec 27 false, .dec 30 true, .dec 40 true, .call C37, .call C38, .b true, .fin] (oT c29 (o1 c30 (o1 c29 (oc C31 (o1 (bnf c32) (oT c33 (o1 c34 (o1 c35 (o1 (bnt (decide_eq_false c36)) (o1 c34 (o1 c35 (oc C37 (oc C38 (oN c39 on))))))))))))))
          ·replace h := iq c33 h
           exact hd func96 [.b true, .call C31, .dec 27 false, .dec 30 false, .b false, .fin] (oT c29 (o1 c30 (o1 c29 (oc C31 (o1 (bnf c32) (oF c33 (o1 (rfl : false = false) on))))))) (ih (w64 (v9 + 1)) _ h hx)
         ·replace h := iq c32 h
          cases h
          subst hx
          exact rt func96 [.b true, .call C31, .dec 27 true, .b true, .fin] (oT c29 (o1 c30 (o1 c29 (oc C31 (oN c32 (oR on))))))
        ·replace h := iq c29 h
         cases h
         exact st func96 [.b false, .fin] (oF c29 on) hx
     obtain ⟨x40, g40, h⟩ := bindN h
     cases x40 with
     | inl r' =>
       exact hd func96 [.b true, .fin] (oT c20 (o1 c21 (o1 c20 on))) (H1 kq 0 _ g40 (Option.some.inj h))
     | inr y13 =>
       refine hd func96 [.b true, .fin] (oT c20 (o1 c21 (o1 c20 on))) (H1 kq 0 _ g40 ?_)
       show AG prog 96 56 [.c (.p (.sc (.bool r)))] w0 (exitStk (codeOf f96) 1) (mkFS (impl_stepFault.x1T a1 v7 a0) (impl_stepFault.x1H a1 v7 a0))
       exact hd func96 [.fin] on (ih (w64 (v7 + 1)) h)
    ·replace h := iq c20 h
     cases h
     exact rt func96 [.b false, .fin, .fin] (oF c20 on)
 exact hd func96 [.fin] on (H0 k 0 h)
def impl_areLevel_1.f (a0 : S53) (a1 : List S53) : Option Bool := if 0 < (a1.length : Int) then (some (!decide ((a0.f0.length : Int) = (((rdD z53 a1 0).f0).length : Int)))) else none
theorem impl_areLevel_1.go : Callable prog 152 := ⟨_, func152, by kernel_rfl, rfl⟩
theorem impl_areLevel_1.ok (a0 : S53) (a1 : List S53) (r : Bool) (h : impl_areLevel_1.f a0 a1 = some r) : VCalls prog 152 [.agg (e53 a0), .ptr [R 1 e53 z53 a1]] [.c (.p (.sc (.bool r)))] := by
 unfold impl_areLevel_1.f at h
 refine VCalls.of (fn := f152) (N := 13) func152 rfl rfl (fun w0 => ?_)
 obtain ⟨c1, h⟩ := ifN h
 cases h
 exact rt func152 [.fin] (o1 (by decide : (0 : Int) ≤ 0) (o1 c1 on))
def slices_IndexFunc_impl_Way_impl_Way_1.h0T (a0 : List S53) (gi1 : FuncId) (u1_0_0 : V) (v2 : Int) : List (Nat × AV) := [(0, .t (.c (.p false (R 1 e53 z53 a0)))), (1, .bfn gi1 [[u1_0_0]]), (7, .t (.c (.p true (.sc (.int .i64 (a0.length : Int)))))), (8, .t (.c (.p true (iI v2))))]
def slices_IndexFunc_impl_Way_impl_Way_1.h0H (a0 : List S53) (gi1 : FuncId) (u1_0_0 : V) (v2 : Int) : List (Nat × Content) := []
def slices_IndexFunc_impl_Way_impl_Way_1.l0 : Nat → List S53 → (S53 → Option Bool) → Int → Option Int
 | 0, _, _, _ => none
 | kq + 1, a0, p1, v2 => if v2 < (a0.length : Int) then (if 0 ≤ v2 then ((p1 (rdD z53 a0 v2)).bind fun t3 => if t3 = true then (some v2) else (slices_IndexFunc_impl_Way_impl_Way_1.l0 kq a0 p1 (w64 (v2 + 1)))) else none) else (some (-1))
def slices_IndexFunc_impl_Way_impl_Way_1.f (k : Nat) (a0 : List S53) (p1 : S53 → Option Bool) : Option Int := slices_IndexFunc_impl_Way_impl_Way_1.l0 k a0 p1 0
theorem slices_IndexFunc_impl_Way_impl_Way_1.go : Callable prog 138 := ⟨_, func138, by kernel_rfl, rfl⟩
theorem slices_IndexFunc_impl_Way_impl_Way_1.ok (k : Nat) (a0 : List S53) (p1 : S53 → Option Bool) (gi1 : FuncId) (u1_0_0 : V) (hp1 : ∀ x0 r, p1 x0 = some r → VCalls prog gi1 [.agg (e53 x0), .ptr [u1_0_0]] [.c (.p (.sc (.bool r)))]) (go1 : Callable prog gi1) (r : Int) (h : slices_IndexFunc_impl_Way_impl_Way_1.f k a0 p1 = some r) : VCalls prog 138 [.c (R 1 e53 z53 a0), .fn gi1 [[u1_0_0]]] [.c (.p (iI r))] := by
 unfold slices_IndexFunc_impl_Way_impl_Way_1.f at h
 refine VCalls.of (fn := f138) (N := 19) func138 rfl rfl (fun w0 => ?_)
 have H0 : ∀ (kq : Nat) (v2 : Int), slices_IndexFunc_impl_Way_impl_Way_1.l0 kq a0 p1 v2 = some r → AG prog 138 19 [.c (.p (iI r))] w0 (headStk (codeOf f138) 0) (mkFS (slices_IndexFunc_impl_Way_impl_Way_1.h0T a0 gi1 u1_0_0 v2) (slices_IndexFunc_impl_Way_impl_Way_1.h0H a0 gi1 u1_0_0 v2)) := by
  intro kq
  induction kq with
  | zero => intro v2 h; cases h
  | succ kq ih =>
    intro v2 h
    rw [slices_IndexFunc_impl_Way_impl_Way_1.l0] at h
    by_cases c4 : v2 < (a0.length : Int)
    ·replace h := ip c4 h
     obtain ⟨c5, h⟩ := ifN h
     obtain ⟨t3, g6, h⟩ := bindN h
     let C6 := mkCon (hp1 (rdD z53 a0 v2) t3 g6) go1
     by_cases c7 : t3 = true
     ·replace h := ip c7 h
      cases h
      exact rt func138 [.b true, .call C6, .b true, .fin] (oT c4 (o1 c5 (o1 c4 (oc C6 (o1 c7 on)))))
     ·replace h := iq c7 h
      exact hd func138 [.b true, .call C6, .b false, .fin] (oT c4 (o1 c5 (o1 c4 (oc C6 (o1 (eqf c7) on))))) (ih (w64 (v2 + 1)) h)
    ·replace h := iq c4 h
     cases h
     exact rt func138 [.b false, .fin, .fin] (oF c4 on)
 exact hd func138 [.fin] on (H0 k 0 h)
def slices_ContainsFunc_impl_Way_impl_Way_1.f (k : Nat) (a0 : List S53) (p1 : S53 → Option Bool) : Option Bool := (slices_IndexFunc_impl_Way_impl_Way_1.f k a0 p1).bind fun t1 => some (decide (0 ≤ t1))
theorem slices_ContainsFunc_impl_Way_impl_Way_1.go : Callable prog 122 := ⟨_, func122, by kernel_rfl, rfl⟩
theorem slices_ContainsFunc_impl_Way_impl_Way_1.ok (k : Nat) (a0 : List S53) (p1 : S53 → Option Bool) (gi1 : FuncId) (u1_0_0 : V) (hp1 : ∀ x0 r, p1 x0 = some r → VCalls prog gi1 [.agg (e53 x0), .ptr [u1_0_0]] [.c (.p (.sc (.bool r)))]) (go1 : Callable prog gi1) (r : Bool) (h : slices_ContainsFunc_impl_Way_impl_Way_1.f k a0 p1 = some r) : VCalls prog 122 [.c (R 1 e53 z53 a0), .fn gi1 [[u1_0_0]]] [.c (.p (.sc (.bool r)))] := by
 unfold slices_ContainsFunc_impl_Way_impl_Way_1.f at h
 refine VCalls.of (fn := f122) (N := 9) func122 rfl rfl (fun w0 => ?_)
 obtain ⟨t1, g1, h⟩ := bindN h
 let C1 := mkCon (slices_IndexFunc_impl_Way_impl_Way_1.ok k a0 p1 gi1 u1_0_0 hp1 go1 t1 g1) slices_IndexFunc_impl_Way_impl_Way_1.go
 cases h
 exact rt func122 [.call C1, .fin] (oc C1 on)
end Go.Proofs.YtfhjipfkaemapaaGreat.V