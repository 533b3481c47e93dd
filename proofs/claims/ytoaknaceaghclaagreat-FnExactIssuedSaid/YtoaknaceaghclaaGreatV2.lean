/- What each Go function computes, and that the machine does so: printed by a program of this session (avgen.py). -/
import Derived.Test.YtoaknaceaghclaaGreatV1
namespace Go.Proofs.YtoaknaceaghclaaGreat.V
open Go Go.Av Go.Proofs Go.Proofs.Tryz
set_option linter.unusedVariables false
set_option maxRecDepth 100000
/-! ### spec_YardOk: function 32 -/
def spec_YardOk.h0T (v11 : Int) (a0 : S48) (v10 : List Int) : List (Nat × AV) := [(1, .ptr 64 0), (3, .t (.c (.h 4544))), (4, .t (.c (.p true (iI v11))))]
def spec_YardOk.h0H (v11 : Int) (a0 : S48) (v10 : List Int) : List (Nat × Content) := [(64, .box 48 [.p false (iI a0.f0.f0.f0), .p false (iI a0.f0.f0.f1), .p false (.sc (.string a0.f0.f0.f2)), .p false (iI a0.f0.f1), .p false (iI a0.f0.f2), .p false (iI a0.f0.f3), .p false (iI a0.f0.f4), .p false (R 4 e69 z69 a0.f1), .p false (iI a0.f2.f0), .p false (iI a0.f2.f1), .p false (R 1 (eI .i64) 0 a0.f2.f2), .p false (iI a0.f3), .p false (.sc (.bool a0.f4)), .p false (iI a0.f5.f0), .p false (iI a0.f5.f1), .p false (R 1 e72 z72 a0.f5.f2), .p false (R 3 e74 z74 a0.f6), .p false (R 1 (eI .i64) 0 a0.f7)]), (4544, .row 3 1 v10.length (fun j => (eI .i64) (v10.getD j 0)) true)]
def spec_YardOk.x0T (a0 : S48) (y12 : (List Int)) : List (Nat × AV) := [(1, .ptr 64 0), (3, .t (.c (.h 4544)))]
def spec_YardOk.x0H (a0 : S48) (y12 : (List Int)) : List (Nat × Content) := [(64, .box 48 [.p false (iI a0.f0.f0.f0), .p false (iI a0.f0.f0.f1), .p false (.sc (.string a0.f0.f0.f2)), .p false (iI a0.f0.f1), .p false (iI a0.f0.f2), .p false (iI a0.f0.f3), .p false (iI a0.f0.f4), .p false (R 4 e69 z69 a0.f1), .p false (iI a0.f2.f0), .p false (iI a0.f2.f1), .p false (R 1 (eI .i64) 0 a0.f2.f2), .p false (iI a0.f3), .p false (.sc (.bool a0.f4)), .p false (iI a0.f5.f0), .p false (iI a0.f5.f1), .p false (R 1 e72 z72 a0.f5.f2), .p false (R 3 e74 z74 a0.f6), .p false (R 1 (eI .i64) 0 a0.f7)]), (4544, .row 3 1 y12.length (fun j => (eI .i64) (y12.getD j 0)) true)]
def spec_YardOk.l0 : Nat → S48 → List Int → Int → Option (List Int)
  | 0, _, _, _ => none
  | kq + 1, a0, v10, v11 => if v11 < (a0.f5.f2.length : Int) then (if 0 ≤ v11 then (if 0 < (((rdD z72 a0.f5.f2 v11).f0).length : Int) then (if (v10.length + 1) * 8 ≤ 140737488355328 then (spec_YardOk.l0 kq a0 (v10 ++ [(rdD 0 ((rdD z72 a0.f5.f2 v11).f0) 0)]) (w64 (v11 + 1))) else none) else none) else none) else (some v10)
def spec_YardOk.h1T (v21 : Int) (a0 : S48) (y12 : (List Int)) (t13 : List Int) (v20 : List Int) : List (Nat × AV) := [(1, .ptr 64 0), (3, .t (.c (.h 4544))), (5, .t (.c (.h 5952))), (6, .t (.c (.h 6016))), (7, .t (.c (.p true (iI v21))))]
def spec_YardOk.h1H (v21 : Int) (a0 : S48) (y12 : (List Int)) (t13 : List Int) (v20 : List Int) : List (Nat × Content) := [(64, .box 48 [.p false (iI a0.f0.f0.f0), .p false (iI a0.f0.f0.f1), .p false (.sc (.string a0.f0.f0.f2)), .p false (iI a0.f0.f1), .p false (iI a0.f0.f2), .p false (iI a0.f0.f3), .p false (iI a0.f0.f4), .p false (R 4 e69 z69 a0.f1), .p false (iI a0.f2.f0), .p false (iI a0.f2.f1), .p false (R 1 (eI .i64) 0 a0.f2.f2), .p false (iI a0.f3), .p false (.sc (.bool a0.f4)), .p false (iI a0.f5.f0), .p false (iI a0.f5.f1), .p false (R 1 e72 z72 a0.f5.f2), .p false (R 3 e74 z74 a0.f6), .p false (R 1 (eI .i64) 0 a0.f7)]), (4544, .row 3 1 y12.length (fun j => (eI .i64) (y12.getD j 0)) true), (5952, .row 3 1 t13.length (fun j => (eI .i64) (t13.getD j 0)) true), (6016, .row 3 1 v20.length (fun j => (eI .i64) (v20.getD j 0)) true)]
def spec_YardOk.x1T (a0 : S48) (y12 : (List Int)) (t13 : List Int) (y23 : (List Int)) : List (Nat × AV) := [(1, .ptr 64 0), (3, .t (.c (.h 4544))), (5, .t (.c (.h 5952))), (6, .t (.c (.h 6016)))]
def spec_YardOk.x1H (a0 : S48) (y12 : (List Int)) (t13 : List Int) (y23 : (List Int)) : List (Nat × Content) := [(64, .box 48 [.p false (iI a0.f0.f0.f0), .p false (iI a0.f0.f0.f1), .p false (.sc (.string a0.f0.f0.f2)), .p false (iI a0.f0.f1), .p false (iI a0.f0.f2), .p false (iI a0.f0.f3), .p false (iI a0.f0.f4), .p false (R 4 e69 z69 a0.f1), .p false (iI a0.f2.f0), .p false (iI a0.f2.f1), .p false (R 1 (eI .i64) 0 a0.f2.f2), .p false (iI a0.f3), .p false (.sc (.bool a0.f4)), .p false (iI a0.f5.f0), .p false (iI a0.f5.f1), .p false (R 1 e72 z72 a0.f5.f2), .p false (R 3 e74 z74 a0.f6), .p false (R 1 (eI .i64) 0 a0.f7)]), (4544, .row 3 1 y12.length (fun j => (eI .i64) (y12.getD j 0)) true), (5952, .row 3 1 t13.length (fun j => (eI .i64) (t13.getD j 0)) true), (6016, .row 3 1 y23.length (fun j => (eI .i64) (y23.getD j 0)) true)]
def spec_YardOk.l1 : Nat → S48 → List Int → List Int → Int → Option (List Int)
  | 0, _, _, _, _ => none
  | kq + 1, a0, t13, v20, v21 => if v21 < (a0.f0.f0.f2.size : Int) then ((spec_l03Has.f kq t13 v21).bind fun t22 => if t22 = true then (spec_YardOk.l1 kq a0 t13 v20 (w64 (v21 + 1))) else (if (v20.length + 1) * 8 ≤ 140737488355328 then (spec_YardOk.l1 kq a0 t13 (v20 ++ [v21]) (w64 (v21 + 1))) else none)) else (some v20)
def spec_YardOk.h3T (v30 : Int) (v35 : Bool) (v34 : Int) (a0 : S48) (y12 : (List Int)) (t13 : List Int) (y23 : (List Int)) : List (Nat × AV) := [(1, .ptr 64 0), (3, .t (.c (.h 4544))), (5, .t (.c (.h 5952))), (6, .t (.c (.h 6016))), (8, .t (.c (.p true (iI v30)))), (9, .t (.c (.p true (.sc (.bool v35))))), (10, .t (.c (.p true (iI v34))))]
def spec_YardOk.h3H (v30 : Int) (v35 : Bool) (v34 : Int) (a0 : S48) (y12 : (List Int)) (t13 : List Int) (y23 : (List Int)) : List (Nat × Content) := [(64, .box 48 [.p false (iI a0.f0.f0.f0), .p false (iI a0.f0.f0.f1), .p false (.sc (.string a0.f0.f0.f2)), .p false (iI a0.f0.f1), .p false (iI a0.f0.f2), .p false (iI a0.f0.f3), .p false (iI a0.f0.f4), .p false (R 4 e69 z69 a0.f1), .p false (iI a0.f2.f0), .p false (iI a0.f2.f1), .p false (R 1 (eI .i64) 0 a0.f2.f2), .p false (iI a0.f3), .p false (.sc (.bool a0.f4)), .p false (iI a0.f5.f0), .p false (iI a0.f5.f1), .p false (R 1 e72 z72 a0.f5.f2), .p false (R 3 e74 z74 a0.f6), .p false (R 1 (eI .i64) 0 a0.f7)]), (4544, .row 3 1 y12.length (fun j => (eI .i64) (y12.getD j 0)) true), (5952, .row 3 1 t13.length (fun j => (eI .i64) (t13.getD j 0)) true), (6016, .row 3 1 y23.length (fun j => (eI .i64) (y23.getD j 0)) true)]
def spec_YardOk.x3T (v30 : Int) (y36 : Bool) (a0 : S48) (y12 : (List Int)) (t13 : List Int) (y23 : (List Int)) : List (Nat × AV) := [(1, .ptr 64 0), (3, .t (.c (.h 4544))), (5, .t (.c (.h 5952))), (6, .t (.c (.h 6016))), (8, .t (.c (.p true (iI v30)))), (9, .t (.c (.p true (.sc (.bool y36)))))]
def spec_YardOk.x3H (v30 : Int) (y36 : Bool) (a0 : S48) (y12 : (List Int)) (t13 : List Int) (y23 : (List Int)) : List (Nat × Content) := [(64, .box 48 [.p false (iI a0.f0.f0.f0), .p false (iI a0.f0.f0.f1), .p false (.sc (.string a0.f0.f0.f2)), .p false (iI a0.f0.f1), .p false (iI a0.f0.f2), .p false (iI a0.f0.f3), .p false (iI a0.f0.f4), .p false (R 4 e69 z69 a0.f1), .p false (iI a0.f2.f0), .p false (iI a0.f2.f1), .p false (R 1 (eI .i64) 0 a0.f2.f2), .p false (iI a0.f3), .p false (.sc (.bool a0.f4)), .p false (iI a0.f5.f0), .p false (iI a0.f5.f1), .p false (R 1 e72 z72 a0.f5.f2), .p false (R 3 e74 z74 a0.f6), .p false (R 1 (eI .i64) 0 a0.f7)]), (4544, .row 3 1 y12.length (fun j => (eI .i64) (y12.getD j 0)) true), (5952, .row 3 1 t13.length (fun j => (eI .i64) (t13.getD j 0)) true), (6016, .row 3 1 y23.length (fun j => (eI .i64) (y23.getD j 0)) true)]
def spec_YardOk.l3 : Nat → S48 → Int → Int → Bool → Option Bool
  | 0, _, _, _, _ => none
  | kq + 1, a0, v30, v34, v35 => if v34 < (a0.f6.length : Int) then (if 0 ≤ v34 then (if 0 ≤ v30 then (if (rdD z74 a0.f6 v34).f0 = (rdD z69 a0.f1 v30).f0 then (spec_YardOk.l3 kq a0 v30 (w64 (v34 + 1)) true) else (spec_YardOk.l3 kq a0 v30 (w64 (v34 + 1)) v35)) else none) else none) else (some v35)
def spec_YardOk.h2T (v30 : Int) (a0 : S48) (y12 : (List Int)) (t13 : List Int) (y23 : (List Int)) : List (Nat × AV) := [(1, .ptr 64 0), (3, .t (.c (.h 4544))), (5, .t (.c (.h 5952))), (6, .t (.c (.h 6016))), (8, .t (.c (.p true (iI v30))))]
def spec_YardOk.h2H (v30 : Int) (a0 : S48) (y12 : (List Int)) (t13 : List Int) (y23 : (List Int)) : List (Nat × Content) := [(64, .box 48 [.p false (iI a0.f0.f0.f0), .p false (iI a0.f0.f0.f1), .p false (.sc (.string a0.f0.f0.f2)), .p false (iI a0.f0.f1), .p false (iI a0.f0.f2), .p false (iI a0.f0.f3), .p false (iI a0.f0.f4), .p false (R 4 e69 z69 a0.f1), .p false (iI a0.f2.f0), .p false (iI a0.f2.f1), .p false (R 1 (eI .i64) 0 a0.f2.f2), .p false (iI a0.f3), .p false (.sc (.bool a0.f4)), .p false (iI a0.f5.f0), .p false (iI a0.f5.f1), .p false (R 1 e72 z72 a0.f5.f2), .p false (R 3 e74 z74 a0.f6), .p false (R 1 (eI .i64) 0 a0.f7)]), (4544, .row 3 1 y12.length (fun j => (eI .i64) (y12.getD j 0)) true), (5952, .row 3 1 t13.length (fun j => (eI .i64) (t13.getD j 0)) true), (6016, .row 3 1 y23.length (fun j => (eI .i64) (y23.getD j 0)) true)]
def spec_YardOk.l2 : Nat → S48 → List Int → (List Int) → (List Int) → Int → Option Bool
  | 0, _, _, _, _, _ => none
  | kq + 1, a0, t13, y23, y12, v30 => if v30 < (a0.f1.length : Int) then ((spec_YardOk.l3 kq a0 v30 0 false).bind fun y36 => (if y36 = true then (spec_YardOk.l2 kq a0 t13 y23 y12 (w64 (v30 + 1))) else (if 0 ≤ v30 then ((spec_l03Has.f kq t13 ((rdD z69 a0.f1 v30).f1)).bind fun t37 => if t37 = true then (some false) else ((spec_l03Has.f kq t13 ((rdD z69 a0.f1 v30).f2)).bind fun t38 => if t38 = true then (some false) else (spec_YardOk.l2 kq a0 t13 y23 y12 (w64 (v30 + 1))))) else none))) else ((spec_Walled.f kq a0.f0.f0 y23).bind fun t39 => (spec_PlanFault.f kq t39 y12 a0.f7 a0.f5).bind fun t40 => some (decide (t40 = 0)))
def spec_YardOk.f (k : Nat) (a0 : S48) : Option Bool := (spec_SetupOk.f k a0.f0).bind fun t1 => if t1 = true then ((spec_RobotsOk.f k a0.f0.f0 a0.f1).bind fun t2 => if t2 = true then ((spec_WindowOk.f k a0.f2).bind fun t3 => if t3 = true then (if a0.f2.f0 = a0.f0.f2 then (if a0.f2.f1 = a0.f0.f3 then ((spec_l01In.f a0.f3 0 1000000000).bind fun t4 => if t4 = true then ((spec_JobsOk.f k a0).bind fun t5 => if t5 = true then ((spec_l10Cells.f k a0.f0.f0 a0.f7).bind fun t6 => if t6 = true then (if a0.f4 = true then ((spec_YardOk.l0 k a0 ([] : List Int) 0).bind fun y12 => ((spec_Footprint.f k a0).bind fun t13 => (spec_YardOk.l1 k a0 t13 ([] : List Int) 0).bind fun y23 => (spec_YardOk.l2 k a0 t13 y23 y12 0))) else (some true)) else (some false)) else (some false)) else (some false)) else (some false)) else (some false)) else (some false)) else (some false)) else (some false)
theorem spec_YardOk.go : Callable prog 32 := ⟨_, func32, by kernel_rfl, rfl⟩
theorem spec_YardOk.ok (k : Nat) (a0 : S48) (r : Bool) (h : spec_YardOk.f k a0 = some r) : VCalls prog 32 [.agg (e48 a0)] [.c (.p (.sc (.bool r)))] := by
  unfold spec_YardOk.f at h
  refine VCalls.of (fn := f32) (N := 173) func32 rfl rfl (fun w0 => ?_)
  obtain ⟨t1, g1, h⟩ := bindN h
  let C1 := mkCon (spec_SetupOk.ok k a0.f0 t1 g1) spec_SetupOk.go
  by_cases c2 : t1 = true
  · replace h := ip c2 h
    obtain ⟨t2, g3, h⟩ := bindN h
    let C3 := mkCon (spec_RobotsOk.ok k a0.f0.f0 a0.f1 t2 g3) spec_RobotsOk.go
    by_cases c4 : t2 = true
    · replace h := ip c4 h
      obtain ⟨t3, g5, h⟩ := bindN h
      let C5 := mkCon (spec_WindowOk.ok k a0.f2 t3 g5) spec_WindowOk.go
      by_cases c6 : t3 = true
      · replace h := ip c6 h
        by_cases c7 : a0.f2.f0 = a0.f0.f2
        · replace h := ip c7 h
          by_cases c8 : a0.f2.f1 = a0.f0.f3
          · replace h := ip c8 h
            obtain ⟨t4, g9, h⟩ := bindN h
            let C9 := mkCon (spec_l01In.ok a0.f3 0 1000000000 t4 g9) spec_l01In.go
            by_cases c10 : t4 = true
            · replace h := ip c10 h
              obtain ⟨t5, g11, h⟩ := bindN h
              let C11 := mkCon (spec_JobsOk.ok k a0 t5 g11) spec_JobsOk.go
              by_cases c12 : t5 = true
              · replace h := ip c12 h
                obtain ⟨t6, g13, h⟩ := bindN h
                let C13 := mkCon (spec_l10Cells.ok k a0.f0.f0 a0.f7 t6 g13) spec_l10Cells.go
                by_cases c14 : t6 = true
                · replace h := ip c14 h
                  by_cases c15 : a0.f4 = true
                  · replace h := ip c15 h
                    have H0 : ∀ (kq : Nat) (v10 : List Int) (v11 : Int) (x : (List Int)), spec_YardOk.l0 kq a0 v10 v11 = some x → AG prog 32 173 [.c (.p (.sc (.bool r)))] w0 (exitStk (codeOf f32) 0) (mkFS (spec_YardOk.x0T a0 x) (spec_YardOk.x0H a0 x)) → AG prog 32 173 [.c (.p (.sc (.bool r)))] w0 (headStk (codeOf f32) 0) (mkFS (spec_YardOk.h0T v11 a0 v10) (spec_YardOk.h0H v11 a0 v10)) := by
                      intro kq
                      induction kq with
                      | zero => intro v10 v11 x h hx; cases h
                      | succ kq ih =>
                        intro v10 v11 x h hx
                        rw [spec_YardOk.l0] at h
                        by_cases c27 : v11 < (a0.f5.f2.length : Int)
                        · replace h := ip c27 h
                          obtain ⟨c28, h⟩ := ifN h
                          obtain ⟨c29, h⟩ := ifN h
                          obtain ⟨c30, h⟩ := ifN h
                          exact hd func32 [.b true, rowe 90 (eI .i64) 0 ([(rdD 0 ((rdD z72 a0.f5.f2 v11).f0) 0)]), .aft 91, orow 4544 (eI .i64) 0 (v10 ++ [(rdD 0 ((rdD z72 a0.f5.f2 v11).f0) 0)]), .fin] (oT c27 (o1 c28 (o1 c27 (o1 (by decide : (0 : Int) ≤ 0) (o1 c29 (o1 (GE.lit 1 (eI .i64) 0 [(rdD 0 ((rdD z72 a0.f5.f2 v11).f0) 0)] (by intro x; rfl)) (o1 c30 (o1 (GE.app (e := (eI .i64)) (d := 0) v10 ([(rdD 0 ((rdD z72 a0.f5.f2 v11).f0) 0)]) rfl (fun _ _ => CE.refl _) rfl) on)))))))) (ih (v10 ++ [(rdD 0 ((rdD z72 a0.f5.f2 v11).f0) 0)]) (w64 (v11 + 1)) _ h hx)
                        · replace h := iq c27 h
                          cases h
                          exact st func32 [.b false, .fin] (oF c27 on) hx
                    obtain ⟨y12, g84, h⟩ := bindN h
                    refine hd func32 [.call C1, .dec 15 false, .call C3, .dec 24 false, .call C5, .dec 30 false, .dec 39 false, .dec 48 false, .call C9, .dec 54 false, .call C11, .dec 59 false, .call C13, .b false, .b false, rowe 71 (eI .i64) 0 ([] : List Int), .fin] (oc C1 (o1 (bnf c2) (oc C3 (o1 (bnf c4) (oc C5 (o1 (bnf c6) (o1 (bnf (decide_eq_true c7)) (o1 (bnf (decide_eq_true c8)) (oc C9 (o1 (bnf c10) (oc C11 (o1 (bnf c12) (oc C13 (o1 (bnf c14) (o1 (bnf c15) (o1 (GE.lit 1 (eI .i64) 0 ([] : List Int) (by intro x; rfl)) on)))))))))))))))) (H0 k ([] : List Int) 0 _ g84 ?_)
                    obtain ⟨t13, g31, h⟩ := bindN h
                    let C31 := mkCon (spec_Footprint.ok k a0 t13 g31) spec_Footprint.go
                    have H1 : ∀ (kq : Nat) (v20 : List Int) (v21 : Int) (x : (List Int)), spec_YardOk.l1 kq a0 t13 v20 v21 = some x → AG prog 32 173 [.c (.p (.sc (.bool r)))] w0 (exitStk (codeOf f32) 1) (mkFS (spec_YardOk.x1T a0 y12 t13 x) (spec_YardOk.x1H a0 y12 t13 x)) → AG prog 32 173 [.c (.p (.sc (.bool r)))] w0 (headStk (codeOf f32) 1) (mkFS (spec_YardOk.h1T v21 a0 y12 t13 v20) (spec_YardOk.h1H v21 a0 y12 t13 v20)) := by
                      intro kq
                      induction kq with
                      | zero => intro v20 v21 x h hx; cases h
                      | succ kq ih =>
                        intro v20 v21 x h hx
                        rw [spec_YardOk.l1] at h
                        by_cases c43 : v21 < (a0.f0.f0.f2.size : Int)
                        · replace h := ip c43 h
                          obtain ⟨t22, g44, h⟩ := bindN h
                          let C44 := mkCon (spec_l03Has.ok kq t13 v21 t22 g44) spec_l03Has.go
                          by_cases c45 : t22 = true
                          · replace h := ip c45 h
                            exact hd func32 [.b true, .call C44, .b false, .fin] (oT c43 (oc C44 (o1 (bnf c45) on))) (ih v20 (w64 (v21 + 1)) _ h hx)
                          · replace h := iq c45 h
                            obtain ⟨c46, h⟩ := ifN h
                            exact hd func32 [.b true, .call C44, .b true, rowe 110 (eI .i64) 0 ([v21]), .aft 111, orow 6016 (eI .i64) 0 (v20 ++ [v21]), .fin] (oT c43 (oc C44 (oN c45 (o1 (GE.lit 1 (eI .i64) 0 [v21] (by intro x; rfl)) (o1 c46 (o1 (GE.app (e := (eI .i64)) (d := 0) v20 ([v21]) rfl (fun _ _ => CE.refl _) rfl) on)))))) (ih (v20 ++ [v21]) (w64 (v21 + 1)) _ h hx)
                        · replace h := iq c43 h
                          cases h
                          exact st func32 [.b false, .fin] (oF c43 on) hx
                    obtain ⟨y23, g83, h⟩ := bindN h
                    refine hd func32 [.call C31, rowe 94 (eI .i64) 0 ([] : List Int), .fin] (oc C31 (o1 (GE.lit 1 (eI .i64) 0 ([] : List Int) (by intro x; rfl)) on)) (H1 k ([] : List Int) 0 _ g83 ?_)
                    have H2 : ∀ (kq : Nat) (v30 : Int), spec_YardOk.l2 kq a0 t13 y23 y12 v30 = some r → AG prog 32 173 [.c (.p (.sc (.bool r)))] w0 (headStk (codeOf f32) 2) (mkFS (spec_YardOk.h2T v30 a0 y12 t13 y23) (spec_YardOk.h2H v30 a0 y12 t13 y23)) := by
                      intro kq
                      induction kq with
                      | zero => intro v30 h; cases h
                      | succ kq ih =>
                        intro v30 h
                        rw [spec_YardOk.l2] at h
                        by_cases c59 : v30 < (a0.f1.length : Int)
                        · replace h := ip c59 h
                          have H3 : ∀ (kq : Nat) (v34 : Int) (v35 : Bool) (x : Bool), spec_YardOk.l3 kq a0 v30 v34 v35 = some x → AG prog 32 173 [.c (.p (.sc (.bool r)))] w0 (exitStk (codeOf f32) 3) (mkFS (spec_YardOk.x3T v30 x a0 y12 t13 y23) (spec_YardOk.x3H v30 x a0 y12 t13 y23)) → AG prog 32 173 [.c (.p (.sc (.bool r)))] w0 (headStk (codeOf f32) 3) (mkFS (spec_YardOk.h3T v30 v35 v34 a0 y12 t13 y23) (spec_YardOk.h3H v30 v35 v34 a0 y12 t13 y23)) := by
                            intro kq
                            induction kq with
                            | zero => intro v34 v35 x h hx; cases h
                            | succ kq ih =>
                              intro v34 v35 x h hx
                              rw [spec_YardOk.l3] at h
                              by_cases c70 : v34 < (a0.f6.length : Int)
                              · replace h := ip c70 h
                                obtain ⟨c71, h⟩ := ifN h
                                obtain ⟨c72, h⟩ := ifN h
                                by_cases c73 : (rdD z74 a0.f6 v34).f0 = (rdD z69 a0.f1 v30).f0
                                · replace h := ip c73 h
                                  exact hd func32 [.b true, .b true, .fin] (oT c70 (o1 c71 (o1 c70 (o1 c72 (o1 c59 (oT c73 on)))))) (ih (w64 (v34 + 1)) true _ h hx)
                                · replace h := iq c73 h
                                  exact hd func32 [.b true, .b false, .fin] (oT c70 (o1 c71 (o1 c70 (o1 c72 (o1 c59 (oF c73 on)))))) (ih (w64 (v34 + 1)) v35 _ h hx)
                              · replace h := iq c70 h
                                cases h
                                exact st func32 [.b false, .fin] (oF c70 on) hx
                          obtain ⟨y36, g80, h⟩ := bindN h
                          refine hd func32 [.b true, .fin] (oT c59 on) (H3 kq 0 false _ g80 ?_)
                          by_cases c74 : y36 = true
                          · replace h := ip c74 h
                            exact hd func32 [.dec 141 false, .b false, .fin] (o1 (bnf c74) (o1 (rfl : false = false) on)) (ih (w64 (v30 + 1)) h)
                          · replace h := iq c74 h
                            obtain ⟨c75, h⟩ := ifN h
                            obtain ⟨t37, g76, h⟩ := bindN h
                            let C76 := mkCon (spec_l03Has.ok kq t13 ((rdD z69 a0.f1 v30).f1) t37 g76) spec_l03Has.go
                            by_cases c77 : t37 = true
                            · replace h := ip c77 h
                              cases h
                              exact rt func32 [.dec 141 true, .call C76, .dec 150 true, .b true, .fin] (oN c74 (o1 c75 (o1 c59 (oc C76 (o1 c77 (oR on))))))
                            · replace h := iq c77 h
                              obtain ⟨t38, g78, h⟩ := bindN h
                              let C78 := mkCon (spec_l03Has.ok kq t13 ((rdD z69 a0.f1 v30).f2) t38 g78) spec_l03Has.go
                              by_cases c79 : t38 = true
                              · replace h := ip c79 h
                                cases h
                                exact rt func32 [.dec 141 true, .call C76, .dec 150 false, .call C78, .b true, .fin] (oN c74 (o1 c75 (o1 c59 (oc C76 (o1 (eqf c77) (o1 c75 (o1 c59 (oc C78 (o1 c79 on)))))))))
                              · replace h := iq c79 h
                                exact hd func32 [.dec 141 true, .call C76, .dec 150 false, .call C78, .b false, .fin] (oN c74 (o1 c75 (o1 c59 (oc C76 (o1 (eqf c77) (o1 c75 (o1 c59 (oc C78 (o1 (eqf c79) on))))))))) (ih (w64 (v30 + 1)) h)
                        · replace h := iq c59 h
                          obtain ⟨t39, g81, h⟩ := bindN h
                          let C81 := mkCon (spec_Walled.ok kq a0.f0.f0 y23 t39 g81) spec_Walled.go
                          obtain ⟨t40, g82, h⟩ := bindN h
                          let C82 := mkCon (spec_PlanFault.ok kq t39 y12 a0.f7 a0.f5 t40 g82) spec_PlanFault.go
                          cases h
                          exact rt func32 [.b false, .fin, .call C81, .call C82, .fin] (oF c59 (oc C81 (oc C82 on)))
                    exact hd func32 [.fin] on (H2 k 0 h)
                  · replace h := iq c15 h
                    cases h
                    exact rt func32 [.call C1, .dec 15 false, .call C3, .dec 24 false, .call C5, .dec 30 false, .dec 39 false, .dec 48 false, .call C9, .dec 54 false, .call C11, .dec 59 false, .call C13, .b false, .b true, .fin] (oc C1 (o1 (bnf c2) (oc C3 (o1 (bnf c4) (oc C5 (o1 (bnf c6) (o1 (bnf (decide_eq_true c7)) (o1 (bnf (decide_eq_true c8)) (oc C9 (o1 (bnf c10) (oc C11 (o1 (bnf c12) (oc C13 (o1 (bnf c14) (oN c15 on)))))))))))))))
                · replace h := iq c14 h
                  cases h
                  exact rt func32 [.call C1, .dec 15 false, .call C3, .dec 24 false, .call C5, .dec 30 false, .dec 39 false, .dec 48 false, .call C9, .dec 54 false, .call C11, .dec 59 false, .call C13, .b true, .fin] (oc C1 (o1 (bnf c2) (oc C3 (o1 (bnf c4) (oc C5 (o1 (bnf c6) (o1 (bnf (decide_eq_true c7)) (o1 (bnf (decide_eq_true c8)) (oc C9 (o1 (bnf c10) (oc C11 (o1 (bnf c12) (oc C13 (oN c14 on))))))))))))))
              · replace h := iq c12 h
                cases h
                exact rt func32 [.call C1, .dec 15 false, .call C3, .dec 24 false, .call C5, .dec 30 false, .dec 39 false, .dec 48 false, .call C9, .dec 54 false, .call C11, .dec 59 true, .b true, .fin] (oc C1 (o1 (bnf c2) (oc C3 (o1 (bnf c4) (oc C5 (o1 (bnf c6) (o1 (bnf (decide_eq_true c7)) (o1 (bnf (decide_eq_true c8)) (oc C9 (o1 (bnf c10) (oc C11 (oN c12 (oR on)))))))))))))
            · replace h := iq c10 h
              cases h
              exact rt func32 [.call C1, .dec 15 false, .call C3, .dec 24 false, .call C5, .dec 30 false, .dec 39 false, .dec 48 false, .call C9, .dec 54 true, .b true, .fin] (oc C1 (o1 (bnf c2) (oc C3 (o1 (bnf c4) (oc C5 (o1 (bnf c6) (o1 (bnf (decide_eq_true c7)) (o1 (bnf (decide_eq_true c8)) (oc C9 (oN c10 (oR on)))))))))))
          · replace h := iq c8 h
            cases h
            exact rt func32 [.call C1, .dec 15 false, .call C3, .dec 24 false, .call C5, .dec 30 false, .dec 39 false, .dec 48 true, .b true, .fin] (oc C1 (o1 (bnf c2) (oc C3 (o1 (bnf c4) (oc C5 (o1 (bnf c6) (o1 (bnf (decide_eq_true c7)) (o1 (bnt (decide_eq_false c8)) (oR on)))))))))
        · replace h := iq c7 h
          cases h
          exact rt func32 [.call C1, .dec 15 false, .call C3, .dec 24 false, .call C5, .dec 30 false, .dec 39 true, .b true, .fin] (oc C1 (o1 (bnf c2) (oc C3 (o1 (bnf c4) (oc C5 (o1 (bnf c6) (o1 (bnt (decide_eq_false c7)) (oR on))))))))
      · replace h := iq c6 h
        cases h
        exact rt func32 [.call C1, .dec 15 false, .call C3, .dec 24 false, .call C5, .dec 30 true, .b true, .fin] (oc C1 (o1 (bnf c2) (oc C3 (o1 (bnf c4) (oc C5 (oN c6 (oR on)))))))
    · replace h := iq c4 h
      cases h
      exact rt func32 [.call C1, .dec 15 false, .call C3, .dec 24 true, .b true, .fin] (oc C1 (o1 (bnf c2) (oc C3 (oN c4 (oR on)))))
  · replace h := iq c2 h
    cases h
    exact rt func32 [.call C1, .dec 15 true, .b true, .fin] (oc C1 (oN c2 (oR on)))

/-! ### spec_OrdersOf: function 16 -/
def spec_OrdersOf.h0T (t2 : Int) (v6 : Int) (a0 : S48) (v5 : List S92) : List (Nat × AV) := [(1, .ptr 64 0), (3, .t (.c (.h 512))), (4, .t (.c (.p true (iI t2)))), (5, .t (.c (.p true (iI v6))))]
def spec_OrdersOf.h0H (t2 : Int) (v6 : Int) (a0 : S48) (v5 : List S92) : List (Nat × Content) := [(64, .box 48 [.p false (iI a0.f0.f0.f0), .p false (iI a0.f0.f0.f1), .p false (.sc (.string a0.f0.f0.f2)), .p false (iI a0.f0.f1), .p false (iI a0.f0.f2), .p false (iI a0.f0.f3), .p false (iI a0.f0.f4), .p false (R 4 e69 z69 a0.f1), .p false (iI a0.f2.f0), .p false (iI a0.f2.f1), .p false (R 1 (eI .i64) 0 a0.f2.f2), .p false (iI a0.f3), .p false (.sc (.bool a0.f4)), .p false (iI a0.f5.f0), .p false (iI a0.f5.f1), .p false (R 1 e72 z72 a0.f5.f2), .p false (R 3 e74 z74 a0.f6), .p false (R 1 (eI .i64) 0 a0.f7)]), (512, .row 92 3 v5.length (fun j => e92 (v5.getD j z92)) true)]
def spec_OrdersOf.l0 : Nat → S48 → Int → List S92 → Int → Option (List S92)
  | 0, _, _, _, _ => none
  | kq + 1, a0, t2, v5, v6 => if v6 < (a0.f6.length : Int) then (if 0 ≤ v6 then (if v6 < (a0.f5.f2.length : Int) then (if (rdD z74 a0.f6 v6).f1 = t2 then (if (rdD z74 a0.f6 v6).f2 = true then (spec_OrdersOf.l0 kq a0 t2 v5 (w64 (v6 + 1))) else (if 0 ≤ (w64 ((rdD z74 a0.f6 v6).f1 + 1)) then (if (w64 ((rdD z74 a0.f6 v6).f1 + 1)) < (((rdD z72 a0.f5.f2 v6).f0).length : Int) then ((spec_HolderOf.f kq a0.f1 (rdD 0 ((rdD z72 a0.f5.f2 v6).f0) (w64 ((rdD z74 a0.f6 v6).f1 + 1)))).bind fun t7 => if t7 < 0 then (if 0 ≤ (rdD z74 a0.f6 v6).f1 then (if (rdD z74 a0.f6 v6).f1 < (((rdD z72 a0.f5.f2 v6).f0).length : Int) then (if (v5.length + 1) * 24 ≤ 140737488355328 then (spec_OrdersOf.l0 kq a0 t2 (v5 ++ [(⟨(rdD z74 a0.f6 v6).f0, (rdD 0 ((rdD z72 a0.f5.f2 v6).f0) ((rdD z74 a0.f6 v6).f1)), (rdD 0 ((rdD z72 a0.f5.f2 v6).f0) (w64 ((rdD z74 a0.f6 v6).f1 + 1)))⟩ : S92)]) (w64 (v6 + 1))) else none) else none) else none) else (spec_OrdersOf.l0 kq a0 t2 v5 (w64 (v6 + 1)))) else none) else none)) else (spec_OrdersOf.l0 kq a0 t2 v5 (w64 (v6 + 1)))) else none) else none) else (some v5)
def spec_OrdersOf.f (k : Nat) (a0 : S48) : Option (List S92) := (spec_YardOk.f k a0).bind fun t1 => if t1 = true then (if a0.f4 = true then ((spec_LayerOf.f k a0).bind fun t2 => spec_OrdersOf.l0 k a0 t2 ([] : List S92) 0) else (some ([] : List S92))) else (some ([] : List S92))
theorem spec_OrdersOf.go : Callable prog 16 := ⟨_, func16, by kernel_rfl, rfl⟩
theorem spec_OrdersOf.ok (k : Nat) (a0 : S48) (r : (List S92)) (h : spec_OrdersOf.f k a0 = some r) : VCalls prog 16 [.agg (e48 a0)] [.c (.own 92 3 r.length (fun j => e92 (r.getD j z92)))] := by
  unfold spec_OrdersOf.f at h
  refine VCalls.of (fn := f16) (N := 78) func16 rfl rfl (fun w0 => ?_)
  obtain ⟨t1, g1, h⟩ := bindN h
  let C1 := mkCon (spec_YardOk.ok k a0 t1 g1) spec_YardOk.go
  by_cases c2 : t1 = true
  · replace h := ip c2 h
    by_cases c3 : a0.f4 = true
    · replace h := ip c3 h
      obtain ⟨t2, g4, h⟩ := bindN h
      let C4 := mkCon (spec_LayerOf.ok k a0 t2 g4) spec_LayerOf.go
      have H0 : ∀ (kq : Nat) (v5 : List S92) (v6 : Int), spec_OrdersOf.l0 kq a0 t2 v5 v6 = some r → AG prog 16 78 [.c (.own 92 3 r.length (fun j => e92 (r.getD j z92)))] w0 (headStk (codeOf f16) 0) (mkFS (spec_OrdersOf.h0T t2 v6 a0 v5) (spec_OrdersOf.h0H t2 v6 a0 v5)) := by
        intro kq
        induction kq with
        | zero => intro v5 v6 h; cases h
        | succ kq ih =>
          intro v5 v6 h
          rw [spec_OrdersOf.l0] at h
          by_cases c21 : v6 < (a0.f6.length : Int)
          · replace h := ip c21 h
            obtain ⟨c22, h⟩ := ifN h
            obtain ⟨c23, h⟩ := ifN h
            by_cases c24 : (rdD z74 a0.f6 v6).f1 = t2
            · replace h := ip c24 h
              by_cases c25 : (rdD z74 a0.f6 v6).f2 = true
              · replace h := ip c25 h
                exact hd func16 [.b true, .dec 43 true, .dec 48 false, .b false, .fin] (oT c21 (o1 c22 (o1 c21 (o1 c22 (o1 c23 (oT c24 (o1 (bnf c25) (o1 (rfl : false = false) on)))))))) (ih v5 (w64 (v6 + 1)) h)
              · replace h := iq c25 h
                obtain ⟨c26, h⟩ := ifN h
                obtain ⟨c27, h⟩ := ifN h
                obtain ⟨t7, g28, h⟩ := bindN h
                let C28 := mkCon (spec_HolderOf.ok kq a0.f1 (rdD 0 ((rdD z72 a0.f5.f2 v6).f0) (w64 ((rdD z74 a0.f6 v6).f1 + 1))) t7 g28) spec_HolderOf.go
                by_cases c29 : t7 < 0
                · replace h := ip c29 h
                  obtain ⟨c30, h⟩ := ifN h
                  obtain ⟨c31, h⟩ := ifN h
                  obtain ⟨c32, h⟩ := ifN h
                  exact hd func16 [.b true, .dec 43 true, .dec 48 true, .call C28, .b true, rowe 75 e92 z92 ([(⟨(rdD z74 a0.f6 v6).f0, (rdD 0 ((rdD z72 a0.f5.f2 v6).f0) ((rdD z74 a0.f6 v6).f1)), (rdD 0 ((rdD z72 a0.f5.f2 v6).f0) (w64 ((rdD z74 a0.f6 v6).f1 + 1)))⟩ : S92)]), .aft 76, orow 512 e92 z92 (v5 ++ [(⟨(rdD z74 a0.f6 v6).f0, (rdD 0 ((rdD z72 a0.f5.f2 v6).f0) ((rdD z74 a0.f6 v6).f1)), (rdD 0 ((rdD z72 a0.f5.f2 v6).f0) (w64 ((rdD z74 a0.f6 v6).f1 + 1)))⟩ : S92)]), .fin] (oT c21 (o1 c22 (o1 c21 (o1 c22 (o1 c23 (oT c24 (oN c25 (o1 c26 (o1 c27 (oc C28 (oT c29 (o1 c30 (o1 c31 (o1 c26 (o1 c27 (o1 (GE.lit 3 e92 z92 [(⟨(rdD z74 a0.f6 v6).f0, (rdD 0 ((rdD z72 a0.f5.f2 v6).f0) ((rdD z74 a0.f6 v6).f1)), (rdD 0 ((rdD z72 a0.f5.f2 v6).f0) (w64 ((rdD z74 a0.f6 v6).f1 + 1)))⟩ : S92)] (by intro x; rfl)) (o1 c32 (o1 (GE.app (e := e92) (d := z92) v5 ([(⟨(rdD z74 a0.f6 v6).f0, (rdD 0 ((rdD z72 a0.f5.f2 v6).f0) ((rdD z74 a0.f6 v6).f1)), (rdD 0 ((rdD z72 a0.f5.f2 v6).f0) (w64 ((rdD z74 a0.f6 v6).f1 + 1)))⟩ : S92)]) rfl (fun _ _ => CE.refl _) rfl) on)))))))))))))))))) (ih (v5 ++ [(⟨(rdD z74 a0.f6 v6).f0, (rdD 0 ((rdD z72 a0.f5.f2 v6).f0) ((rdD z74 a0.f6 v6).f1)), (rdD 0 ((rdD z72 a0.f5.f2 v6).f0) (w64 ((rdD z74 a0.f6 v6).f1 + 1)))⟩ : S92)]) (w64 (v6 + 1)) h)
                · replace h := iq c29 h
                  exact hd func16 [.b true, .dec 43 true, .dec 48 true, .call C28, .b false, .fin] (oT c21 (o1 c22 (o1 c21 (o1 c22 (o1 c23 (oT c24 (oN c25 (o1 c26 (o1 c27 (oc C28 (oF c29 on))))))))))) (ih v5 (w64 (v6 + 1)) h)
            · replace h := iq c24 h
              exact hd func16 [.b true, .dec 43 false, .b false, .fin] (oT c21 (o1 c22 (o1 c21 (o1 c22 (o1 c23 (oF c24 (o1 (rfl : false = false) on))))))) (ih v5 (w64 (v6 + 1)) h)
          · replace h := iq c21 h
            cases h
            exact rt func16 [.b false, .fin, .fin] (oF c21 on)
      exact hd func16 [rowe 8 e92 z92 ([] : List S92), .call C1, .dec 12 false, .b false, .call C4, .fin] (o1 (GE.lit 3 e92 z92 ([] : List S92) (by intro x; rfl)) (oc C1 (o1 (bnf c2) (o1 (bnf c3) (oc C4 on))))) (H0 k ([] : List S92) 0 h)
    · replace h := iq c3 h
      cases h
      exact rt func16 [rowe 8 e92 z92 ([] : List S92), .call C1, .dec 12 false, .b true, .fin] (o1 (GE.lit 3 e92 z92 ([] : List S92) (by intro x; rfl)) (oc C1 (o1 (bnf c2) (oN c3 on))))
  · replace h := iq c2 h
    cases h
    exact rt func16 [rowe 8 e92 z92 ([] : List S92), .call C1, .dec 12 true, .b true, .fin] (o1 (GE.lit 3 e92 z92 ([] : List S92) (by intro x; rfl)) (oc C1 (oN c2 (oR on))))

/-! ### spec_l17Copy: function 116 -/
def spec_l17Copy.f (a0 : S42) : Option S42 := if (([] : List Int).length + a0.f2.length) * 8 ≤ 140737488355328 then (some (⟨a0.f0, a0.f1, (([] : List Int) ++ a0.f2)⟩ : S42)) else none
theorem spec_l17Copy.go : Callable prog 116 := ⟨_, func116, by kernel_rfl, rfl⟩
theorem spec_l17Copy.ok (a0 : S42) (r : S42) (h : spec_l17Copy.f a0 = some r) : VCalls prog 116 [.agg (e42 a0)] [.agg (r42 r)] := by
  unfold spec_l17Copy.f at h
  refine VCalls.of (fn := f116) (N := 9) func116 rfl rfl (fun w0 => ?_)
  obtain ⟨c1, h⟩ := ifN h
  cases h
  exact rt func116 [rowe 3 (eI .i64) 0 ([] : List Int), .aft 6, orow 192 (eI .i64) 0 (([] : List Int) ++ a0.f2), .reg 2, .flat 192, .fin] (o1 (GE.lit 1 (eI .i64) 0 ([] : List Int) (by intro x; rfl)) (o1 c1 (o1 (GE.app (e := (eI .i64)) (d := 0) ([] : List Int) a0.f2 rfl (fun _ _ => CE.refl _) rfl) (o1 (SC.of (e := (eI .i64)) (d := 0) (([] : List Int) ++ a0.f2) (by intro x; rfl)) on))))

/-! ### spec_l11Copy: function 117 -/
def spec_l11Copy.h0T (a0 : List S72) (v3 : Int) (v2 : List S72) : List (Nat × AV) := [(0, .t (.c (.p false (R 1 e72 z72 a0)))), (3, .t (.c (.h 320))), (4, .t (.c (.p true (iI v3))))]
def spec_l11Copy.h0H (a0 : List S72) (v3 : Int) (v2 : List S72) : List (Nat × Content) := [(320, .row 72 1 v2.length (fun j => e72 (v2.getD j z72)) true)]
def spec_l11Copy.l0 : Nat → List S72 → List S72 → Int → Option (List S72)
  | 0, _, _, _ => none
  | kq + 1, a0, v2, v3 => if v3 < (a0.length : Int) then (if 0 ≤ v3 then (if (([] : List Int).length + ((rdD z72 a0 v3).f0).length) * 8 ≤ 140737488355328 then (if (v2.length + 1) * 24 ≤ 140737488355328 then (spec_l11Copy.l0 kq a0 (v2 ++ [(⟨(([] : List Int) ++ (rdD z72 a0 v3).f0)⟩ : S72)]) (w64 (v3 + 1))) else none) else none) else none) else (some v2)
def spec_l11Copy.f (k : Nat) (a0 : List S72) : Option (List S72) := spec_l11Copy.l0 k a0 ([] : List S72) 0
theorem spec_l11Copy.go : Callable prog 117 := ⟨_, func117, by kernel_rfl, rfl⟩
theorem spec_l11Copy.ok (k : Nat) (a0 : List S72) (r : (List S72)) (h : spec_l11Copy.f k a0 = some r) : VCalls prog 117 [.c (R 1 e72 z72 a0)] [.c (.own 72 1 r.length (fun j => e72 (r.getD j z72)))] := by
  unfold spec_l11Copy.f at h
  refine VCalls.of (fn := f117) (N := 24) func117 rfl rfl (fun w0 => ?_)
  have H0 : ∀ (kq : Nat) (v2 : List S72) (v3 : Int), spec_l11Copy.l0 kq a0 v2 v3 = some r → AG prog 117 24 [.c (.own 72 1 r.length (fun j => e72 (r.getD j z72)))] w0 (headStk (codeOf f117) 0) (mkFS (spec_l11Copy.h0T a0 v3 v2) (spec_l11Copy.h0H a0 v3 v2)) := by
    intro kq
    induction kq with
    | zero => intro v2 v3 h; cases h
    | succ kq ih =>
      intro v2 v3 h
      rw [spec_l11Copy.l0] at h
      by_cases c8 : v3 < (a0.length : Int)
      · replace h := ip c8 h
        obtain ⟨c9, h⟩ := ifN h
        obtain ⟨c10, h⟩ := ifN h
        obtain ⟨c11, h⟩ := ifN h
        exact hd func117 [.b true, rowe 13 (eI .i64) 0 ([] : List Int), .aft 19, orow 832 (eI .i64) 0 (([] : List Int) ++ (rdD z72 a0 v3).f0), .op 21, .flat 832, .freeze 832, rowe 21 e72 z72 ([(⟨(([] : List Int) ++ (rdD z72 a0 v3).f0)⟩ : S72)]), .aft 22, orow 320 e72 z72 (v2 ++ [(⟨(([] : List Int) ++ (rdD z72 a0 v3).f0)⟩ : S72)]), .fin] (oT c8 (o1 (GE.lit 1 (eI .i64) 0 ([] : List Int) (by intro x; rfl)) (o1 c9 (o1 c8 (o1 c10 (o1 (GE.app (e := (eI .i64)) (d := 0) ([] : List Int) ((rdD z72 a0 v3).f0) rfl (fun _ _ => CE.refl _) rfl) (o1 (SC.of (e := (eI .i64)) (d := 0) (([] : List Int) ++ (rdD z72 a0 v3).f0) (by intro x; rfl)) (o1 (GE.lit 1 e72 z72 [(⟨(([] : List Int) ++ (rdD z72 a0 v3).f0)⟩ : S72)] (by intro x; rfl)) (o1 c11 (o1 (GE.app (e := e72) (d := z72) v2 ([(⟨(([] : List Int) ++ (rdD z72 a0 v3).f0)⟩ : S72)]) rfl (fun _ _ => CE.refl _) rfl) on)))))))))) (ih (v2 ++ [(⟨(([] : List Int) ++ (rdD z72 a0 v3).f0)⟩ : S72)]) (w64 (v3 + 1)) h)
      · replace h := iq c8 h
        cases h
        exact rt func117 [.b false, .fin, .fin] (oF c8 on)
  exact hd func117 [rowe 5 e72 z72 ([] : List S72), .fin] (o1 (GE.lit 1 e72 z72 ([] : List S72) (by intro x; rfl)) on) (H0 k ([] : List S72) 0 h)

/-! ### spec_l21Copy: function 56 -/
def spec_l21Copy.f (k : Nat) (a0 : S48) : Option S48 := if (([] : List S69).length + a0.f1.length) * 32 ≤ 140737488355328 then ((spec_l17Copy.f a0.f2).bind fun t1 => (spec_l11Copy.f k a0.f5.f2).bind fun t2 => if (([] : List S74).length + a0.f6.length) * 24 ≤ 140737488355328 then (if (([] : List Int).length + a0.f7.length) * 8 ≤ 140737488355328 then (some (⟨a0.f0, (([] : List S69) ++ a0.f1), t1, a0.f3, a0.f4, (⟨a0.f5.f0, a0.f5.f1, t2⟩ : S45), (([] : List S74) ++ a0.f6), (([] : List Int) ++ a0.f7)⟩ : S48)) else none) else none) else none
theorem spec_l21Copy.go : Callable prog 56 := ⟨_, func56, by kernel_rfl, rfl⟩
theorem spec_l21Copy.ok (k : Nat) (a0 : S48) (r : S48) (h : spec_l21Copy.f k a0 = some r) : VCalls prog 56 [.agg (e48 a0)] [.agg (r48 r)] := by
  unfold spec_l21Copy.f at h
  refine VCalls.of (fn := f56) (N := 29) func56 rfl rfl (fun w0 => ?_)
  obtain ⟨c1, h⟩ := ifN h
  obtain ⟨t1, g2, h⟩ := bindN h
  let C2 := mkCon (spec_l17Copy.ok a0.f2 t1 g2) spec_l17Copy.go
  obtain ⟨t2, g3, h⟩ := bindN h
  let C3 := mkCon (spec_l11Copy.ok k a0.f5.f2 t2 g3) spec_l11Copy.go
  obtain ⟨c4, h⟩ := ifN h
  obtain ⟨c5, h⟩ := ifN h
  cases h
  exact rt func56 [rowe 3 e69 z69 ([] : List S69), .aft 6, orow 192 e69 z69 (([] : List S69) ++ a0.f1), .reg 2, .flat 192, .call C2, .call C3, rowe 18 e74 z74 ([] : List S74), .aft 21, orow 1152 e74 z74 (([] : List S74) ++ a0.f6), .reg 5, .flat 1152, rowe 23 (eI .i64) 0 ([] : List Int), .aft 26, orow 1472 (eI .i64) 0 (([] : List Int) ++ a0.f7), .reg 6, .flat 1472, .fin] (o1 (GE.lit 4 e69 z69 ([] : List S69) (by intro x; rfl)) (o1 c1 (o1 (GE.app (e := e69) (d := z69) ([] : List S69) a0.f1 rfl (fun _ _ => CE.refl _) rfl) (o1 (SC.of (e := e69) (d := z69) (([] : List S69) ++ a0.f1) (by intro x; rfl)) (oc C2 (oc C3 (o1 (GE.lit 3 e74 z74 ([] : List S74) (by intro x; rfl)) (o1 c4 (o1 (GE.app (e := e74) (d := z74) ([] : List S74) a0.f6 rfl (fun _ _ => CE.refl _) rfl) (o1 (SC.of (e := e74) (d := z74) (([] : List S74) ++ a0.f6) (by intro x; rfl)) (o1 (GE.lit 1 (eI .i64) 0 ([] : List Int) (by intro x; rfl)) (o1 c5 (o1 (GE.app (e := (eI .i64)) (d := 0) ([] : List Int) a0.f7 rfl (fun _ _ => CE.refl _) rfl) (o1 (SC.of (e := (eI .i64)) (d := 0) (([] : List Int) ++ a0.f7) (by intro x; rfl)) on))))))))))))))

/-! ### spec_Issued: function 21 -/
def spec_Issued.h1T (v29 : Int) (v35 : Int) (t2 : S48) (t1 : List S92) (v27 : List S69) (t30 : Int) (v34 : List S74) : List (Nat × AV) := [(1, .ptr 64 0), (2, .ptr 128 0), (3, .t (.c (.h 448))), (4, .t (.c (.p true (iI v29)))), (5, .t (.c (.p true (iI v35))))]
def spec_Issued.h1H (v29 : Int) (v35 : Int) (t2 : S48) (t1 : List S92) (v27 : List S69) (t30 : Int) (v34 : List S74) : List (Nat × Content) := [(64, .box 48 [.p true (iI t2.f0.f0.f0), .p true (iI t2.f0.f0.f1), .p true (.sc (.string t2.f0.f0.f2)), .p true (iI t2.f0.f1), .p true (iI t2.f0.f2), .p true (iI t2.f0.f3), .p true (iI t2.f0.f4), .h 583, .p true (iI t2.f2.f0), .p true (iI t2.f2.f1), .h 586, .p true (iI t2.f3), .p true (.sc (.bool t2.f4)), .p true (iI t2.f5.f0), .p true (iI t2.f5.f1), .h 591, .h 592, .h 593]), (128, .box 48 [.p true (iI 0), .p true (iI 0), .p true (.sc (.string (⟨#[]⟩ : ByteArray))), .p true (iI 0), .p true (iI 0), .p true (iI 0), .p true (iI 0), .p true (.sc (.slice none 0 0)), .p true (iI 0), .p true (iI 0), .p true (.sc (.slice none 0 0)), .p true (iI 0), .p true (.sc (.bool false)), .p true (iI 0), .p true (iI 0), .p true (.sc (.slice none 0 0)), .p true (.sc (.slice none 0 0)), .p true (.sc (.slice none 0 0))]), (448, .row 92 3 t1.length (fun j => e92 (t1.getD j z92)) true), (583, .row 69 4 (v27.set t30.toNat (⟨(rdD z69 v27 t30).f0, (rdD z69 v27 t30).f1, (rdD z92 t1 v29).f2, (rdD z69 v27 t30).f3⟩ : S69)).length (fun j => e69 ((v27.set t30.toNat (⟨(rdD z69 v27 t30).f0, (rdD z69 v27 t30).f1, (rdD z92 t1 v29).f2, (rdD z69 v27 t30).f3⟩ : S69)).getD j z69)) true), (586, .row 3 1 t2.f2.f2.length (fun j => (eI .i64) (t2.f2.f2.getD j 0)) true), (591, .row 72 1 t2.f5.f2.length (fun j => e72 (t2.f5.f2.getD j z72)) true), (592, .row 74 3 v34.length (fun j => e74 (v34.getD j z74)) true), (593, .row 3 1 t2.f7.length (fun j => (eI .i64) (t2.f7.getD j 0)) true)]
def spec_Issued.x1T (v29 : Int) (t2 : S48) (t1 : List S92) (v27 : List S69) (t30 : Int) (y36 : (List S74)) : List (Nat × AV) := [(1, .ptr 64 0), (2, .ptr 128 0), (3, .t (.c (.h 448))), (4, .t (.c (.p true (iI v29))))]
def spec_Issued.x1H (v29 : Int) (t2 : S48) (t1 : List S92) (v27 : List S69) (t30 : Int) (y36 : (List S74)) : List (Nat × Content) := [(64, .box 48 [.p true (iI t2.f0.f0.f0), .p true (iI t2.f0.f0.f1), .p true (.sc (.string t2.f0.f0.f2)), .p true (iI t2.f0.f1), .p true (iI t2.f0.f2), .p true (iI t2.f0.f3), .p true (iI t2.f0.f4), .h 583, .p true (iI t2.f2.f0), .p true (iI t2.f2.f1), .h 586, .p true (iI t2.f3), .p true (.sc (.bool t2.f4)), .p true (iI t2.f5.f0), .p true (iI t2.f5.f1), .h 591, .h 592, .h 593]), (128, .box 48 [.p true (iI 0), .p true (iI 0), .p true (.sc (.string (⟨#[]⟩ : ByteArray))), .p true (iI 0), .p true (iI 0), .p true (iI 0), .p true (iI 0), .p true (.sc (.slice none 0 0)), .p true (iI 0), .p true (iI 0), .p true (.sc (.slice none 0 0)), .p true (iI 0), .p true (.sc (.bool false)), .p true (iI 0), .p true (iI 0), .p true (.sc (.slice none 0 0)), .p true (.sc (.slice none 0 0)), .p true (.sc (.slice none 0 0))]), (448, .row 92 3 t1.length (fun j => e92 (t1.getD j z92)) true), (583, .row 69 4 (v27.set t30.toNat (⟨(rdD z69 v27 t30).f0, (rdD z69 v27 t30).f1, (rdD z92 t1 v29).f2, (rdD z69 v27 t30).f3⟩ : S69)).length (fun j => e69 ((v27.set t30.toNat (⟨(rdD z69 v27 t30).f0, (rdD z69 v27 t30).f1, (rdD z92 t1 v29).f2, (rdD z69 v27 t30).f3⟩ : S69)).getD j z69)) true), (586, .row 3 1 t2.f2.f2.length (fun j => (eI .i64) (t2.f2.f2.getD j 0)) true), (591, .row 72 1 t2.f5.f2.length (fun j => e72 (t2.f5.f2.getD j z72)) true), (592, .row 74 3 y36.length (fun j => e74 (y36.getD j z74)) true), (593, .row 3 1 t2.f7.length (fun j => (eI .i64) (t2.f7.getD j 0)) true)]
def spec_Issued.l1 : Nat → List S92 → Int → List S74 → Int → Option (List S74)
  | 0, _, _, _, _ => none
  | kq + 1, t1, v29, v34, v35 => if v35 < (v34.length : Int) then (if 0 ≤ v35 then (if (rdD z74 v34 v35).f0 = (rdD z92 t1 v29).f0 then (spec_Issued.l1 kq t1 v29 (v34.set v35.toNat (⟨(rdD z74 v34 v35).f0, (rdD z74 v34 v35).f1, true⟩ : S74)) (w64 (v35 + 1))) else (spec_Issued.l1 kq t1 v29 v34 (w64 (v35 + 1)))) else none) else (some v34)
def spec_Issued.h0T (v29 : Int) (t2 : S48) (t1 : List S92) (v27 : List S69) (v28 : List S74) : List (Nat × AV) := [(1, .ptr 64 0), (2, .ptr 128 0), (3, .t (.c (.h 448))), (4, .t (.c (.p true (iI v29))))]
def spec_Issued.h0H (v29 : Int) (t2 : S48) (t1 : List S92) (v27 : List S69) (v28 : List S74) : List (Nat × Content) := [(64, .box 48 [.p true (iI t2.f0.f0.f0), .p true (iI t2.f0.f0.f1), .p true (.sc (.string t2.f0.f0.f2)), .p true (iI t2.f0.f1), .p true (iI t2.f0.f2), .p true (iI t2.f0.f3), .p true (iI t2.f0.f4), .h 583, .p true (iI t2.f2.f0), .p true (iI t2.f2.f1), .h 586, .p true (iI t2.f3), .p true (.sc (.bool t2.f4)), .p true (iI t2.f5.f0), .p true (iI t2.f5.f1), .h 591, .h 592, .h 593]), (128, .box 48 [.p true (iI 0), .p true (iI 0), .p true (.sc (.string (⟨#[]⟩ : ByteArray))), .p true (iI 0), .p true (iI 0), .p true (iI 0), .p true (iI 0), .p true (.sc (.slice none 0 0)), .p true (iI 0), .p true (iI 0), .p true (.sc (.slice none 0 0)), .p true (iI 0), .p true (.sc (.bool false)), .p true (iI 0), .p true (iI 0), .p true (.sc (.slice none 0 0)), .p true (.sc (.slice none 0 0)), .p true (.sc (.slice none 0 0))]), (448, .row 92 3 t1.length (fun j => e92 (t1.getD j z92)) true), (583, .row 69 4 v27.length (fun j => e69 (v27.getD j z69)) true), (586, .row 3 1 t2.f2.f2.length (fun j => (eI .i64) (t2.f2.f2.getD j 0)) true), (591, .row 72 1 t2.f5.f2.length (fun j => e72 (t2.f5.f2.getD j z72)) true), (592, .row 74 3 v28.length (fun j => e74 (v28.getD j z74)) true), (593, .row 3 1 t2.f7.length (fun j => (eI .i64) (t2.f7.getD j 0)) true)]
def spec_Issued.l0 : Nat → List S92 → S48 → List S69 → List S74 → Int → Option S48
  | 0, _, _, _, _, _ => none
  | kq + 1, t1, t2, v27, v28, v29 => if v29 < (t1.length : Int) then (if 0 ≤ v29 then ((spec_RobotAt.f kq v27 ((rdD z92 t1 v29).f0)).bind fun t30 => if 0 ≤ t30 then (if t30 < (v27.length : Int) then ((spec_Issued.l1 kq t1 v29 v28 0).bind fun y36 => (spec_Issued.l0 kq t1 t2 (v27.set t30.toNat (⟨(rdD z69 v27 t30).f0, (rdD z69 v27 t30).f1, (rdD z92 t1 v29).f2, (rdD z69 v27 t30).f3⟩ : S69)) y36 (w64 (v29 + 1)))) else none) else none) else none) else (some (⟨t2.f0, v27, t2.f2, t2.f3, t2.f4, t2.f5, v28, t2.f7⟩ : S48))
def spec_Issued.f (k : Nat) (a0 : S48) : Option S48 := (spec_OrdersOf.f k a0).bind fun t1 => (spec_l21Copy.f k a0).bind fun t2 => spec_Issued.l0 k t1 t2 t2.f1 t2.f6 0
theorem spec_Issued.go : Callable prog 21 := ⟨_, func21, by kernel_rfl, rfl⟩
theorem spec_Issued.ok (k : Nat) (a0 : S48) (r : S48) (h : spec_Issued.f k a0 = some r) : VCalls prog 21 [.agg (e48 a0)] [.agg (r48 r)] := by
  unfold spec_Issued.f at h
  refine VCalls.of (fn := f21) (N := 58) func21 rfl rfl (fun w0 => ?_)
  obtain ⟨t1, g1, h⟩ := bindN h
  let C1 := mkCon (spec_OrdersOf.ok k a0 t1 g1) spec_OrdersOf.go
  obtain ⟨t2, g2, h⟩ := bindN h
  let C2 := mkCon (spec_l21Copy.ok k a0 t2 g2) spec_l21Copy.go
  have H0 : ∀ (kq : Nat) (v27 : List S69) (v28 : List S74) (v29 : Int), spec_Issued.l0 kq t1 t2 v27 v28 v29 = some r → AG prog 21 58 [.agg (r48 r)] w0 (headStk (codeOf f21) 0) (mkFS (spec_Issued.h0T v29 t2 t1 v27 v28) (spec_Issued.h0H v29 t2 t1 v27 v28)) := by
    intro kq
    induction kq with
    | zero => intro v27 v28 v29 h; cases h
    | succ kq ih =>
      intro v27 v28 v29 h
      rw [spec_Issued.l0] at h
      by_cases c50 : v29 < (t1.length : Int)
      · replace h := ip c50 h
        obtain ⟨c51, h⟩ := ifN h
        obtain ⟨t30, g52, h⟩ := bindN h
        let C52 := mkCon (spec_RobotAt.ok kq v27 ((rdD z92 t1 v29).f0) t30 g52) spec_RobotAt.go
        obtain ⟨c53, h⟩ := ifN h
        obtain ⟨c54, h⟩ := ifN h
        have H1 : ∀ (kq : Nat) (v34 : List S74) (v35 : Int) (x : (List S74)), spec_Issued.l1 kq t1 v29 v34 v35 = some x → AG prog 21 58 [.agg (r48 r)] w0 (exitStk (codeOf f21) 1) (mkFS (spec_Issued.x1T v29 t2 t1 v27 t30 x) (spec_Issued.x1H v29 t2 t1 v27 t30 x)) → AG prog 21 58 [.agg (r48 r)] w0 (headStk (codeOf f21) 1) (mkFS (spec_Issued.h1T v29 v35 t2 t1 v27 t30 v34) (spec_Issued.h1H v29 v35 t2 t1 v27 t30 v34)) := by
          intro kq
          induction kq with
          | zero => intro v34 v35 x h hx; cases h
          | succ kq ih =>
            intro v34 v35 x h hx
            rw [spec_Issued.l1] at h
            by_cases c63 : v35 < (v34.length : Int)
            · replace h := ip c63 h
              obtain ⟨c64, h⟩ := ifN h
              by_cases c65 : (rdD z74 v34 v35).f0 = (rdD z92 t1 v29).f0
              · replace h := ip c65 h
                exact hd func21 [.b true, .b true, .aft 999999, orow 592 e74 z74 (v34.set v35.toNat (⟨(rdD z74 v34 v35).f0, (rdD z74 v34 v35).f1, true⟩ : S74)), .fin] (oT c63 (o1 c64 (o1 c63 (o1 c51 (o1 c50 (oT c65 (o1 c64 (o1 c63 (o1 (GE.set (e := e74) (d := z74) v34 v35.toNat (⟨(rdD z74 v34 v35).f0, (rdD z74 v34 v35).f1, true⟩ : S74) (lt_toNat c64 c63) rfl) on))))))))) (ih (v34.set v35.toNat (⟨(rdD z74 v34 v35).f0, (rdD z74 v34 v35).f1, true⟩ : S74)) (w64 (v35 + 1)) _ h hx)
              · replace h := iq c65 h
                exact hd func21 [.b true, .b false, .fin] (oT c63 (o1 c64 (o1 c63 (o1 c51 (o1 c50 (oF c65 on)))))) (ih v34 (w64 (v35 + 1)) _ h hx)
            · replace h := iq c63 h
              cases h
              exact st func21 [.b false, .fin] (oF c63 on) hx
        obtain ⟨y36, g66, h⟩ := bindN h
        refine hd func21 [.b true, .call C52, .aft 999999, orow 583 e69 z69 (v27.set t30.toNat (⟨(rdD z69 v27 t30).f0, (rdD z69 v27 t30).f1, (rdD z92 t1 v29).f2, (rdD z69 v27 t30).f3⟩ : S69)), .fin] (oT c50 (o1 c51 (o1 c50 (oc C52 (o1 c51 (o1 c50 (o1 c53 (o1 c54 (o1 (GE.set (e := e69) (d := z69) v27 t30.toNat (⟨(rdD z69 v27 t30).f0, (rdD z69 v27 t30).f1, (rdD z92 t1 v29).f2, (rdD z69 v27 t30).f3⟩ : S69) (lt_toNat c53 c54) rfl) on))))))))) (H1 kq v28 0 _ g66 ?_)
        exact hd func21 [.fin] on (ih (v27.set t30.toNat (⟨(rdD z69 v27 t30).f0, (rdD z69 v27 t30).f1, (rdD z92 t1 v29).f2, (rdD z69 v27 t30).f3⟩ : S69)) y36 (w64 (v29 + 1)) h)
      · replace h := iq c50 h
        cases h
        exact rt func21 [.b false, .fin, .fin] (oF c50 on)
  exact hd func21 [.call C1, .call C2, .fin] (oc C1 (oc C2 on)) (H0 k t2.f1 t2.f6 0 h)

/-! ### slices_Clone_impl_Robot_impl_Robot: function 118 -/
def slices_Clone_impl_Robot_impl_Robot.f (a0 : List S69) : Option (List S69) := if (([] : List S69).length + a0.length) * 32 ≤ 140737488355328 then (some (([] : List S69) ++ a0)) else none
theorem slices_Clone_impl_Robot_impl_Robot.go : Callable prog 118 := ⟨_, func118, by kernel_rfl, rfl⟩
theorem slices_Clone_impl_Robot_impl_Robot.ok (a0 : List S69) (r : (List S69)) (h : slices_Clone_impl_Robot_impl_Robot.f a0 = some r) : VCalls prog 118 [.c (R 4 e69 z69 a0)] [.c (.own 69 4 r.length (fun j => e69 (r.getD j z69)))] := by
  unfold slices_Clone_impl_Robot_impl_Robot.f at h
  rcases Nat.eq_zero_or_pos a0.length with hz | hn
  · obtain rfl := List.eq_nil_of_length_eq_zero hz
    refine VCalls.row0 ?_ (fun ad c => ?_)
    · obtain ⟨c0, h⟩ := ifN h
      refine VCalls.of (fn := f118) (N := 8) func118 rfl rfl (fun w0 => ?_)
      cases h
      exact rt func118 [.b true, .fin, .nil 2 384128 69 4, orow 384128 e69 z69 ([] : List S69)] (oR (o1 (GE.nil e69 z69) on))
    · refine VCalls.of (fn := f118) (N := 8) func118 rfl rfl (fun w0 => ?_)
      obtain ⟨c1, h⟩ := ifN h
      cases h
      exact rt func118 [.b false, rowe 5 e69 z69 ([] : List S69), .aft 7, orow 320 e69 z69 (([] : List S69) ++ ([] : List S69)), .fin, .flat 320] (o1 (rfl : false = false) (o1 (GE.lit 4 e69 z69 ([] : List S69) (by intro x; rfl)) (o1 c1 (o1 (GE.z (e := e69) (d := z69)) (o1 (SC.of (e := e69) (d := z69) (([] : List S69) ++ ([] : List S69)) (by intro x; rfl)) on)))))
  · refine VCalls.of (fn := f118) (N := 8) func118 rfl rfl (fun w0 => ?_)
    obtain ⟨c2, h⟩ := ifN h
    cases h
    exact rt func118 [.b false, rowe 5 e69 z69 ([] : List S69), .aft 7, orow 320 e69 z69 (([] : List S69) ++ a0), .fin, .flat 320] (o1 hn (o1 (rfl : false = false) (o1 (GE.lit 4 e69 z69 ([] : List S69) (by intro x; rfl)) (o1 c2 (o1 (GE.app (e := e69) (d := z69) ([] : List S69) a0 rfl (fun _ _ => CE.refl _) rfl) (o1 (SC.of (e := e69) (d := z69) (([] : List S69) ++ a0) (by intro x; rfl)) on))))))

/-! ### slices_Clone_int_int: function 121 -/
def slices_Clone_int_int.f (a0 : List Int) : Option (List Int) := if (([] : List Int).length + a0.length) * 8 ≤ 140737488355328 then (some (([] : List Int) ++ a0)) else none
theorem slices_Clone_int_int.go : Callable prog 121 := ⟨_, func121, by kernel_rfl, rfl⟩
theorem slices_Clone_int_int.ok (a0 : List Int) (r : (List Int)) (h : slices_Clone_int_int.f a0 = some r) : VCalls prog 121 [.c (R 1 (eI .i64) 0 a0)] [.c (.own 3 1 r.length (fun j => (eI .i64) (r.getD j 0)))] := by
  unfold slices_Clone_int_int.f at h
  rcases Nat.eq_zero_or_pos a0.length with hz | hn
  · obtain rfl := List.eq_nil_of_length_eq_zero hz
    refine VCalls.row0 ?_ (fun ad c => ?_)
    · obtain ⟨c0, h⟩ := ifN h
      refine VCalls.of (fn := f121) (N := 8) func121 rfl rfl (fun w0 => ?_)
      cases h
      exact rt func121 [.b true, .fin, .nil 2 384128 3 1, orow 384128 (eI .i64) 0 ([] : List Int)] (oR (o1 (GE.nil (eI .i64) 0) on))
    · refine VCalls.of (fn := f121) (N := 8) func121 rfl rfl (fun w0 => ?_)
      obtain ⟨c1, h⟩ := ifN h
      cases h
      exact rt func121 [.b false, rowe 5 (eI .i64) 0 ([] : List Int), .aft 7, orow 320 (eI .i64) 0 (([] : List Int) ++ ([] : List Int)), .fin, .flat 320] (o1 (rfl : false = false) (o1 (GE.lit 1 (eI .i64) 0 ([] : List Int) (by intro x; rfl)) (o1 c1 (o1 (GE.z (e := (eI .i64)) (d := 0)) (o1 (SC.of (e := (eI .i64)) (d := 0) (([] : List Int) ++ ([] : List Int)) (by intro x; rfl)) on)))))
  · refine VCalls.of (fn := f121) (N := 8) func121 rfl rfl (fun w0 => ?_)
    obtain ⟨c2, h⟩ := ifN h
    cases h
    exact rt func121 [.b false, rowe 5 (eI .i64) 0 ([] : List Int), .aft 7, orow 320 (eI .i64) 0 (([] : List Int) ++ a0), .fin, .flat 320] (o1 hn (o1 (rfl : false = false) (o1 (GE.lit 1 (eI .i64) 0 ([] : List Int) (by intro x; rfl)) (o1 c2 (o1 (GE.app (e := (eI .i64)) (d := 0) ([] : List Int) a0 rfl (fun _ _ => CE.refl _) rfl) (o1 (SC.of (e := (eI .i64)) (d := 0) (([] : List Int) ++ a0) (by intro x; rfl)) on))))))

/-! ### impl_copyWindow: function 119 -/
def impl_copyWindow.f (a0 : S42) : Option S42 := (slices_Clone_int_int.f a0.f2).bind fun t1 => some (⟨a0.f0, a0.f1, t1⟩ : S42)
theorem impl_copyWindow.go : Callable prog 119 := ⟨_, func119, by kernel_rfl, rfl⟩
theorem impl_copyWindow.ok (a0 : S42) (r : S42) (h : impl_copyWindow.f a0 = some r) : VCalls prog 119 [.agg (e42 a0)] [.agg (r42 r)] := by
  unfold impl_copyWindow.f at h
  refine VCalls.of (fn := f119) (N := 8) func119 rfl rfl (fun w0 => ?_)
  obtain ⟨t1, g1, h⟩ := bindN h
  let C1 := mkCon (slices_Clone_int_int.ok a0.f2 t1 g1) slices_Clone_int_int.go
  cases h
  exact rt func119 [.call C1, .fin] (oc C1 on)

/-! ### slices_Clone_impl_Job_impl_Job: function 120 -/
def slices_Clone_impl_Job_impl_Job.f (a0 : List S74) : Option (List S74) := if (([] : List S74).length + a0.length) * 24 ≤ 140737488355328 then (some (([] : List S74) ++ a0)) else none
theorem slices_Clone_impl_Job_impl_Job.go : Callable prog 120 := ⟨_, func120, by kernel_rfl, rfl⟩
theorem slices_Clone_impl_Job_impl_Job.ok (a0 : List S74) (r : (List S74)) (h : slices_Clone_impl_Job_impl_Job.f a0 = some r) : VCalls prog 120 [.c (R 3 e74 z74 a0)] [.c (.own 74 3 r.length (fun j => e74 (r.getD j z74)))] := by
  unfold slices_Clone_impl_Job_impl_Job.f at h
  rcases Nat.eq_zero_or_pos a0.length with hz | hn
  · obtain rfl := List.eq_nil_of_length_eq_zero hz
    refine VCalls.row0 ?_ (fun ad c => ?_)
    · obtain ⟨c0, h⟩ := ifN h
      refine VCalls.of (fn := f120) (N := 8) func120 rfl rfl (fun w0 => ?_)
      cases h
      exact rt func120 [.b true, .fin, .nil 2 384128 74 3, orow 384128 e74 z74 ([] : List S74)] (oR (o1 (GE.nil e74 z74) on))
    · refine VCalls.of (fn := f120) (N := 8) func120 rfl rfl (fun w0 => ?_)
      obtain ⟨c1, h⟩ := ifN h
      cases h
      exact rt func120 [.b false, rowe 5 e74 z74 ([] : List S74), .aft 7, orow 320 e74 z74 (([] : List S74) ++ ([] : List S74)), .fin, .flat 320] (o1 (rfl : false = false) (o1 (GE.lit 3 e74 z74 ([] : List S74) (by intro x; rfl)) (o1 c1 (o1 (GE.z (e := e74) (d := z74)) (o1 (SC.of (e := e74) (d := z74) (([] : List S74) ++ ([] : List S74)) (by intro x; rfl)) on)))))
  · refine VCalls.of (fn := f120) (N := 8) func120 rfl rfl (fun w0 => ?_)
    obtain ⟨c2, h⟩ := ifN h
    cases h
    exact rt func120 [.b false, rowe 5 e74 z74 ([] : List S74), .aft 7, orow 320 e74 z74 (([] : List S74) ++ a0), .fin, .flat 320] (o1 hn (o1 (rfl : false = false) (o1 (GE.lit 3 e74 z74 ([] : List S74) (by intro x; rfl)) (o1 c2 (o1 (GE.app (e := e74) (d := z74) ([] : List S74) a0 rfl (fun _ _ => CE.refl _) rfl) (o1 (SC.of (e := e74) (d := z74) (([] : List S74) ++ a0) (by intro x; rfl)) on))))))

/-! ### impl_copyWays: function 122 -/
def impl_copyWays.h0T (a0 : List S72) (v6 : Int) (v5 : List S72) : List (Nat × AV) := [(3, .t (.c (.hn 320192))), (6, .t (.c (.p false (R 1 e72 z72 a0)))), (7, .t (.c (.p true (.sc (.int .i64 (a0.length : Int)))))), (8, .t (.c (.p true (iI v6))))]
def impl_copyWays.h0H (a0 : List S72) (v6 : Int) (v5 : List S72) : List (Nat × Content) := [(320192, NC 72 3 S72.f0 (Value.int .i64) z72 0 v5)]
def impl_copyWays.l0 : Nat → List S72 → List S72 → Int → Option (List S72)
  | 0, _, _, _ => none
  | kq + 1, a0, v5, v6 => if v6 < (a0.length : Int) then (if 0 ≤ v6 then ((slices_Clone_int_int.f ((rdD z72 a0 v6).f0)).bind fun t7 => if (v5.length + 1) * 24 ≤ 140737488355328 then (impl_copyWays.l0 kq a0 (v5 ++ [(⟨t7⟩ : S72)]) (w64 (v6 + 1))) else none) else none) else (some v5)
def impl_copyWays.f (k : Nat) (a0 : List S72) : Option (List S72) := impl_copyWays.l0 k a0 ([] : List S72) 0
theorem impl_copyWays.go : Callable prog 122 := ⟨_, func122, by kernel_rfl, rfl⟩
theorem impl_copyWays.ok (k : Nat) (a0 : List S72) (r : (List S72)) (h : impl_copyWays.f k a0 = some r) : VCalls prog 122 [.c (R 1 e72 z72 a0)] [.c (NR 72 3 S72.f0 (Value.int .i64) z72 0 r)] := by
  unfold impl_copyWays.f at h
  refine VCalls.of (fn := f122) (N := 21) func122 rfl rfl (fun w0 => ?_)
  have H0 : ∀ (kq : Nat) (v5 : List S72) (v6 : Int), impl_copyWays.l0 kq a0 v5 v6 = some r → AG prog 122 21 [.c (NR 72 3 S72.f0 (Value.int .i64) z72 0 r)] w0 (headStk (codeOf f122) 0) (mkFS (impl_copyWays.h0T a0 v6 v5) (impl_copyWays.h0H a0 v6 v5)) := by
    intro kq
    induction kq with
    | zero => intro v5 v6 h; cases h
    | succ kq ih =>
      intro v5 v6 h
      rw [impl_copyWays.l0] at h
      by_cases c11 : v6 < (a0.length : Int)
      · replace h := ip c11 h
        obtain ⟨c12, h⟩ := ifN h
        obtain ⟨t7, g13, h⟩ := bindN h
        let C13 := mkCon (slices_Clone_int_int.ok ((rdD z72 a0 v6).f0) t7 g13) slices_Clone_int_int.go
        obtain ⟨c14, h⟩ := ifN h
        exact hd func122 [.b true, .call C13, .aft 17, nrow 1088 S72.f0 (Value.int .i64) z72 0 ([(⟨t7⟩ : S72)]), .aft 18, nrow 320192 S72.f0 (Value.int .i64) z72 0 (v5 ++ [(⟨t7⟩ : S72)]), .fin] (oT c11 (o1 c12 (o1 c11 (oc C13 (o1 (SC.of (e := (eI .i64)) (d := 0) t7 (by intro x; rfl)) (o1 (GEN.one S72.f0 (Value.int .i64) z72 0 (⟨t7⟩ : S72) rfl (fun _ => rfl)) (o1 c14 (o1 (GEN.app S72.f0 (Value.int .i64) z72 0 v5 ([(⟨t7⟩ : S72)])) on)))))))) (ih (v5 ++ [(⟨t7⟩ : S72)]) (w64 (v6 + 1)) h)
      · replace h := iq c11 h
        cases h
        exact rt func122 [.b false, .fin, .fin] (oF c11 on)
  exact hd func122 [.fin, .nil 3 320192 72 1, .toN 320192 3, nrow 320192 S72.f0 (Value.int .i64) z72 0 ([] : List S72)] (o1 (nilG.zero (fun _ => [])) (o1 (GEN.nil S72.f0 (Value.int .i64) z72 0) on)) (H0 k ([] : List S72) 0 h)

/-! ### impl_copyYard: function 58 -/
def impl_copyYard.f (k : Nat) (a0 : S48) : Option S48 := (slices_Clone_impl_Robot_impl_Robot.f a0.f1).bind fun t1 => (impl_copyWindow.f a0.f2).bind fun t2 => (slices_Clone_impl_Job_impl_Job.f a0.f6).bind fun t3 => (slices_Clone_int_int.f a0.f7).bind fun t4 => (impl_copyWays.f k a0.f5.f2).bind fun t5 => some (⟨a0.f0, t1, t2, a0.f3, a0.f4, (⟨a0.f5.f0, a0.f5.f1, t5⟩ : S45), t3, t4⟩ : S48)
theorem impl_copyYard.go : Callable prog 58 := ⟨_, func58, by kernel_rfl, rfl⟩
theorem impl_copyYard.ok (k : Nat) (a0 : S48) (r : S48) (h : impl_copyYard.f k a0 = some r) : VCalls prog 58 [.agg (e48 a0)] [.agg (rn48 r)] := by
  unfold impl_copyYard.f at h
  refine VCalls.of (fn := f58) (N := 26) func58 rfl rfl (fun w0 => ?_)
  obtain ⟨t1, g1, h⟩ := bindN h
  let C1 := mkCon (slices_Clone_impl_Robot_impl_Robot.ok a0.f1 t1 g1) slices_Clone_impl_Robot_impl_Robot.go
  obtain ⟨t2, g2, h⟩ := bindN h
  let C2 := mkCon (impl_copyWindow.ok a0.f2 t2 g2) impl_copyWindow.go
  obtain ⟨t3, g3, h⟩ := bindN h
  let C3 := mkCon (slices_Clone_impl_Job_impl_Job.ok a0.f6 t3 g3) slices_Clone_impl_Job_impl_Job.go
  obtain ⟨t4, g4, h⟩ := bindN h
  let C4 := mkCon (slices_Clone_int_int.ok a0.f7 t4 g4) slices_Clone_int_int.go
  obtain ⟨t5, g5, h⟩ := bindN h
  let C5 := mkCon (impl_copyWays.ok k a0.f5.f2 t5 g5) impl_copyWays.go
  cases h
  exact rt func58 [.call C1, .call C2, .call C3, .call C4, .call C5, .fin] (oc C1 (oc C2 (oc C3 (oc C4 (oc C5 on)))))

/-! ### impl_WindowNew: function 158 -/
def impl_WindowNew.f (a0 : Int) (a1 : Int) : Option (S42 × Bool) := if a0 < 1 then (some ((⟨0, 0, ([] : List Int)⟩ : S42), false)) else (if 8 < a0 then (some ((⟨0, 0, ([] : List Int)⟩ : S42), false)) else (if a1 < 1 then (some ((⟨0, 0, ([] : List Int)⟩ : S42), false)) else (if 100 < a1 then (some ((⟨0, 0, ([] : List Int)⟩ : S42), false)) else (if 0 ≤ (w64 (a0 * 6)) then (if (w64 (a0 * 6)).toNat * 8 ≤ 140737488355328 then (some ((⟨a0, a1, (List.replicate (w64 (a0 * 6)).toNat 0)⟩ : S42), true)) else none) else none))))
theorem impl_WindowNew.go : Callable prog 158 := ⟨_, func158, by kernel_rfl, rfl⟩
theorem impl_WindowNew.ok (a0 : Int) (a1 : Int) (r : S42 × Bool) (h : impl_WindowNew.f a0 a1 = some r) : VCalls prog 158 [.c (iI a0), .c (iI a1)] [.agg (r42 r.1), .c (.p (.sc (.bool r.2)))] := by
  unfold impl_WindowNew.f at h
  refine VCalls.of (fn := f158) (N := 27) func158 rfl rfl (fun w0 => ?_)
  by_cases c1 : a0 < 1
  · replace h := ip c1 h
    cases h
    exact rt func158 [.dec 8 true, .b true, .fin, .nilB 256 2 448258 3 1, orow 448258 (eI .i64) 0 ([] : List Int)] (oT c1 (oR (o1 (GE.nil (eI .i64) 0) on)))
  · replace h := iq c1 h
    by_cases c2 : 8 < a0
    · replace h := ip c2 h
      cases h
      exact rt func158 [.dec 8 false, .dec 12 true, .b true, .fin, .nilB 256 2 448258 3 1, orow 448258 (eI .i64) 0 ([] : List Int)] (oF c1 (oT c2 (oR (o1 (GE.nil (eI .i64) 0) on))))
    · replace h := iq c2 h
      by_cases c3 : a1 < 1
      · replace h := ip c3 h
        cases h
        exact rt func158 [.dec 8 false, .dec 12 false, .dec 16 true, .b true, .fin, .nilB 256 2 448258 3 1, orow 448258 (eI .i64) 0 ([] : List Int)] (oF c1 (oF c2 (oT c3 (oR (o1 (GE.nil (eI .i64) 0) on)))))
      · replace h := iq c3 h
        by_cases c4 : 100 < a1
        · replace h := ip c4 h
          cases h
          exact rt func158 [.dec 8 false, .dec 12 false, .dec 16 false, .b true, .fin, .nilB 256 2 448258 3 1, orow 448258 (eI .i64) 0 ([] : List Int)] (oF c1 (oF c2 (oF c3 (oT c4 (o1 (GE.nil (eI .i64) 0) on)))))
        · replace h := iq c4 h
          obtain ⟨c5, h⟩ := ifN h
          obtain ⟨c6, h⟩ := ifN h
          cases h
          exact rt func158 [.dec 8 false, .dec 12 false, .dec 16 false, .b false, rowe 25 (eI .i64) 0 (List.replicate (w64 (a0 * 6)).toNat 0), .fin] (oF c1 (oF c2 (oF c3 (oF c4 (o1 (rfl : (w64 (a0 * 6)) = (w64 (a0 * 6))) (o1 c5 (o1 (mxl (b := 8) (by decide) c6) (o1 c6 (o1 (GE.rep (e := (eI .i64)) (d := 0) (w64 (a0 * 6)).toNat (CE.refl _)) on)))))))))

/-! ### impl_GridOk: function 134 -/
def impl_GridOk.h0T (v1 : Int) (a0 : S38) : List (Nat × AV) := [(1, .ptr 64 0), (3, .t (.c (.p true (iI v1))))]
def impl_GridOk.h0H (v1 : Int) (a0 : S38) : List (Nat × Content) := [(64, .box 38 [.p false (iI a0.f0), .p false (iI a0.f1), .p false (.sc (.string a0.f2))])]
def impl_GridOk.l0 : Nat → S38 → Int → Option Bool
  | 0, _, _ => none
  | kq + 1, a0, v1 => if v1 < (a0.f2.size : Int) then (if 0 ≤ v1 then (if (bt a0.f2 v1) = 46 then (impl_GridOk.l0 kq a0 (w64 (v1 + 1))) else (if (bt a0.f2 v1) = 35 then (impl_GridOk.l0 kq a0 (w64 (v1 + 1))) else (if (bt a0.f2 v1) < 97 then (if (bt a0.f2 v1) < 65 then (some false) else (if 70 < (bt a0.f2 v1) then (some false) else (impl_GridOk.l0 kq a0 (w64 (v1 + 1))))) else (if 102 < (bt a0.f2 v1) then (if (bt a0.f2 v1) < 65 then (some false) else (if 70 < (bt a0.f2 v1) then (some false) else (impl_GridOk.l0 kq a0 (w64 (v1 + 1))))) else (impl_GridOk.l0 kq a0 (w64 (v1 + 1))))))) else none) else (some true)
def impl_GridOk.f (k : Nat) (a0 : S38) : Option Bool := if a0.f0 < 1 then (some false) else (if 8 < a0.f0 then (some false) else (if a0.f1 < 1 then (some false) else (if 8 < a0.f1 then (some false) else (if (a0.f2.size : Int) = (w64 (a0.f0 * a0.f1)) then (impl_GridOk.l0 k a0 0) else (some false)))))
theorem impl_GridOk.go : Callable prog 134 := ⟨_, func134, by kernel_rfl, rfl⟩
theorem impl_GridOk.ok (k : Nat) (a0 : S38) (r : Bool) (h : impl_GridOk.f k a0 = some r) : VCalls prog 134 [.agg (e38 a0)] [.c (.p (.sc (.bool r)))] := by
  unfold impl_GridOk.f at h
  refine VCalls.of (fn := f134) (N := 67) func134 rfl rfl (fun w0 => ?_)
  by_cases c1 : a0.f0 < 1
  · replace h := ip c1 h
    cases h
    exact rt func134 [.dec 8 true, .b true, .fin] (oT c1 (oR on))
  · replace h := iq c1 h
    by_cases c2 : 8 < a0.f0
    · replace h := ip c2 h
      cases h
      exact rt func134 [.dec 8 false, .dec 13 true, .b true, .fin] (oF c1 (oT c2 (oR on)))
    · replace h := iq c2 h
      by_cases c3 : a0.f1 < 1
      · replace h := ip c3 h
        cases h
        exact rt func134 [.dec 8 false, .dec 13 false, .dec 18 true, .b true, .fin] (oF c1 (oF c2 (oT c3 (oR on))))
      · replace h := iq c3 h
        by_cases c4 : 8 < a0.f1
        · replace h := ip c4 h
          cases h
          exact rt func134 [.dec 8 false, .dec 13 false, .dec 18 false, .dec 23 true, .b true, .fin] (oF c1 (oF c2 (oF c3 (oT c4 (oR on)))))
        · replace h := iq c4 h
          by_cases c5 : (a0.f2.size : Int) = (w64 (a0.f0 * a0.f1))
          · replace h := ip c5 h
            have H0 : ∀ (kq : Nat) (v1 : Int), impl_GridOk.l0 kq a0 v1 = some r → AG prog 134 67 [.c (.p (.sc (.bool r)))] w0 (headStk (codeOf f134) 0) (mkFS (impl_GridOk.h0T v1 a0) (impl_GridOk.h0H v1 a0)) := by
              intro kq
              induction kq with
              | zero => intro v1 h; cases h
              | succ kq ih =>
                intro v1 h
                rw [impl_GridOk.l0] at h
                by_cases c8 : v1 < (a0.f2.size : Int)
                · replace h := ip c8 h
                  obtain ⟨c9, h⟩ := ifN h
                  by_cases c10 : (bt a0.f2 v1) = 46
                  · replace h := ip c10 h
                    exact hd func134 [.b true, .dec 47 false, .b false, .fin] (oT c8 (o1 c9 (o1 c8 (o1 (bnf (decide_eq_true c10)) (o1 (rfl : false = false) on))))) (ih (w64 (v1 + 1)) h)
                  · replace h := iq c10 h
                    by_cases c11 : (bt a0.f2 v1) = 35
                    · replace h := ip c11 h
                      exact hd func134 [.b true, .dec 47 true, .dec 51 false, .b false, .fin] (oT c8 (o1 c9 (o1 c8 (o1 (bnt (decide_eq_false c10)) (o1 (bnf (decide_eq_true c11)) (o1 (rfl : false = false) on)))))) (ih (w64 (v1 + 1)) h)
                    · replace h := iq c11 h
                      by_cases c12 : (bt a0.f2 v1) < 97
                      · replace h := ip c12 h
                        by_cases c13 : (bt a0.f2 v1) < 65
                        · replace h := ip c13 h
                          cases h
                          exact rt func134 [.b true, .dec 47 true, .dec 51 true, .dec 54 true, .dec 62 true, .b true, .fin] (oT c8 (o1 c9 (o1 c8 (o1 (bnt (decide_eq_false c10)) (o1 (bnt (decide_eq_false c11)) (oT c12 (oT c13 (oR on))))))))
                        · replace h := iq c13 h
                          by_cases c14 : 70 < (bt a0.f2 v1)
                          · replace h := ip c14 h
                            cases h
                            exact rt func134 [.b true, .dec 47 true, .dec 51 true, .dec 54 true, .dec 62 false, .b true, .fin] (oT c8 (o1 c9 (o1 c8 (o1 (bnt (decide_eq_false c10)) (o1 (bnt (decide_eq_false c11)) (oT c12 (oF c13 (oT c14 on))))))))
                          · replace h := iq c14 h
                            exact hd func134 [.b true, .dec 47 true, .dec 51 true, .dec 54 true, .dec 62 false, .b false, .fin] (oT c8 (o1 c9 (o1 c8 (o1 (bnt (decide_eq_false c10)) (o1 (bnt (decide_eq_false c11)) (oT c12 (oF c13 (oF c14 on)))))))) (ih (w64 (v1 + 1)) h)
                      · replace h := iq c12 h
                        by_cases c15 : 102 < (bt a0.f2 v1)
                        · replace h := ip c15 h
                          by_cases c16 : (bt a0.f2 v1) < 65
                          · replace h := ip c16 h
                            cases h
                            exact rt func134 [.b true, .dec 47 true, .dec 51 true, .dec 54 false, .dec 59 true, .dec 62 true, .b true, .fin] (oT c8 (o1 c9 (o1 c8 (o1 (bnt (decide_eq_false c10)) (o1 (bnt (decide_eq_false c11)) (oF c12 (oT c15 (oT c16 (oR on)))))))))
                          · replace h := iq c16 h
                            by_cases c17 : 70 < (bt a0.f2 v1)
                            · replace h := ip c17 h
                              cases h
                              exact rt func134 [.b true, .dec 47 true, .dec 51 true, .dec 54 false, .dec 59 true, .dec 62 false, .b true, .fin] (oT c8 (o1 c9 (o1 c8 (o1 (bnt (decide_eq_false c10)) (o1 (bnt (decide_eq_false c11)) (oF c12 (oT c15 (oF c16 (oT c17 on)))))))))
                            · replace h := iq c17 h
                              exact hd func134 [.b true, .dec 47 true, .dec 51 true, .dec 54 false, .dec 59 true, .dec 62 false, .b false, .fin] (oT c8 (o1 c9 (o1 c8 (o1 (bnt (decide_eq_false c10)) (o1 (bnt (decide_eq_false c11)) (oF c12 (oT c15 (oF c16 (oF c17 on))))))))) (ih (w64 (v1 + 1)) h)
                        · replace h := iq c15 h
                          exact hd func134 [.b true, .dec 47 true, .dec 51 true, .dec 54 false, .dec 59 false, .b false, .fin] (oT c8 (o1 c9 (o1 c8 (o1 (bnt (decide_eq_false c10)) (o1 (bnt (decide_eq_false c11)) (oF c12 (oF c15 (o1 (rfl : false = false) on)))))))) (ih (w64 (v1 + 1)) h)
                · replace h := iq c8 h
                  cases h
                  exact rt func134 [.b false, .fin, .fin] (oF c8 on)
            exact hd func134 [.dec 8 false, .dec 13 false, .dec 18 false, .dec 23 false, .b false, .fin] (oF c1 (oF c2 (oF c3 (oF c4 (o1 (bnf (decide_eq_true c5)) on))))) (H0 k 0 h)
          · replace h := iq c5 h
            cases h
            exact rt func134 [.dec 8 false, .dec 13 false, .dec 18 false, .dec 23 false, .b true, .fin] (oF c1 (oF c2 (oF c3 (oF c4 (o1 (bnt (decide_eq_false c5)) on)))))

/-! ### impl_SetupOk: function 90 -/
def impl_SetupOk.f (k : Nat) (a0 : S40) : Option Bool := (impl_WindowNew.f a0.f2 a0.f3).bind fun t1 => (impl_GridOk.f k a0.f0).bind fun t2 => if t2 = true then (if 1 ≤ a0.f1 then (if a0.f1 ≤ 20 then (if t1.2 = true then (if 0 ≤ a0.f4 then (some (decide (a0.f4 ≤ 20))) else (some false)) else (some false)) else (some false)) else (some false)) else (some false)
theorem impl_SetupOk.go : Callable prog 90 := ⟨_, func90, by kernel_rfl, rfl⟩
theorem impl_SetupOk.ok (k : Nat) (a0 : S40) (r : Bool) (h : impl_SetupOk.f k a0 = some r) : VCalls prog 90 [.agg (e40 a0)] [.c (.p (.sc (.bool r)))] := by
  unfold impl_SetupOk.f at h
  refine VCalls.of (fn := f90) (N := 39) func90 rfl rfl (fun w0 => ?_)
  obtain ⟨t1, g1, h⟩ := bindN h
  let C1 := mkCon (impl_WindowNew.ok a0.f2 a0.f3 t1 g1) impl_WindowNew.go
  obtain ⟨t2, g2, h⟩ := bindN h
  let C2 := mkCon (impl_GridOk.ok k a0.f0 t2 g2) impl_GridOk.go
  by_cases c3 : t2 = true
  · replace h := ip c3 h
    by_cases c4 : 1 ≤ a0.f1
    · replace h := ip c4 h
      by_cases c5 : a0.f1 ≤ 20
      · replace h := ip c5 h
        by_cases c6 : t1.2 = true
        · replace h := ip c6 h
          by_cases c7 : 0 ≤ a0.f4
          · replace h := ip c7 h
            cases h
            exact rt func90 [.call C1, .call C2, .dec 16 true, .dec 21 true, .dec 26 true, .dec 29 true, .dec 34 true, .fin] (oc C1 (oc C2 (o1 c3 (oT c4 (oT c5 (o1 c6 (oT c7 on)))))))
          · replace h := iq c7 h
            cases h
            exact rt func90 [.call C1, .call C2, .dec 16 true, .dec 21 true, .dec 26 true, .dec 29 true, .dec 34 false, .fin] (oc C1 (oc C2 (o1 c3 (oT c4 (oT c5 (o1 c6 (oF c7 on)))))))
        · replace h := iq c6 h
          cases h
          exact rt func90 [.call C1, .call C2, .dec 16 true, .dec 21 true, .dec 26 true, .dec 29 false, .fin] (oc C1 (oc C2 (o1 c3 (oT c4 (oT c5 (o1 (eqf c6) on))))))
      · replace h := iq c5 h
        cases h
        exact rt func90 [.call C1, .call C2, .dec 16 true, .dec 21 true, .dec 26 false, .fin] (oc C1 (oc C2 (o1 c3 (oT c4 (oF c5 on)))))
    · replace h := iq c4 h
      cases h
      exact rt func90 [.call C1, .call C2, .dec 16 true, .dec 21 false, .fin] (oc C1 (oc C2 (o1 c3 (oF c4 on))))
  · replace h := iq c3 h
    cases h
    exact rt func90 [.call C1, .call C2, .dec 16 false, .fin] (oc C1 (oc C2 (o1 (eqf c3) on)))

/-! ### impl_isFree: function 159 -/
def impl_isFree.f (a0 : S38) (a1 : Int) : Option Bool := if 0 ≤ a1 then (if a1 < (a0.f2.size : Int) then (some (!decide ((bt a0.f2 a1) = 35))) else (some false)) else (some false)
theorem impl_isFree.go : Callable prog 159 := ⟨_, func159, by kernel_rfl, rfl⟩
theorem impl_isFree.ok (a0 : S38) (a1 : Int) (r : Bool) (h : impl_isFree.f a0 a1 = some r) : VCalls prog 159 [.agg (e38 a0), .c (iI a1)] [.c (.p (.sc (.bool r)))] := by
  unfold impl_isFree.f at h
  refine VCalls.of (fn := f159) (N := 21) func159 rfl rfl (fun w0 => ?_)
  by_cases c1 : 0 ≤ a1
  · replace h := ip c1 h
    by_cases c2 : a1 < (a0.f2.size : Int)
    · replace h := ip c2 h
      cases h
      exact rt func159 [.dec 7 true, .dec 14 true, .fin] (oT c1 (oT c2 (o1 c1 (o1 c2 on))))
    · replace h := iq c2 h
      cases h
      exact rt func159 [.dec 7 true, .dec 14 false, .fin] (oT c1 (oF c2 on))
  · replace h := iq c1 h
    cases h
    exact rt func159 [.dec 7 false, .fin] (oF c1 on)
end Go.Proofs.YtoaknaceaghclaaGreat.V
